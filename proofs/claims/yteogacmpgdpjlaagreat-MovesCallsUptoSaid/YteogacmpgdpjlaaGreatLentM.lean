/-
 What the functions return that lend and check arguments.
-/
import Derived.Test.YteogacmpgdpjlaaGreatXL
import Derived.Test.YteogacmpgdpjlaaGreatWp
set_option maxRecDepth 100000
set_option linter.unusedVariables false
namespace Go.Proofs.YteogacmpgdpjlaaGreat
open Go.RowKit

theorem H06 {n k:Nat} (hn:n≤10000001) (hk:k≤1000):decide (n*k≤140737488355328∧n≤maxLen)=true:=by
 refine decide_eq_true ⟨?_,by unfold maxLen; omega⟩
 exact Nat.le_trans (Nat.mul_le_mul hn hk) (by omega)
theorem roomM {n k:Nat} (hn:n≤10000001) (hk:k≤1000):decide (k*n≤281474976710656∧n≤maxLen)=true:=by
 refine decide_eq_true ⟨?_,by unfold maxLen; omega⟩
 exact Nat.le_trans (Nat.mul_le_mul hk hn) (by omega)
theorem natOfI {n:Nat} {z:Int} (h:z=(n:Int)):H3a z=some n:=by
 subst h
 unfold H3a
 rw [decide_eq_true (by omega:(0:Int)≤(n:Int))]
 simp
section generic
variable {α β:Type}
theorem H63 {x:α} {k:α→Option β}:bnd (some x) k=k x:=rfl
/-- The marks behind a lent slice. -/
def marks (mv:Nat→α):List α:=(List.range 12).map mv
theorem Q3a {mv:Nat→α} {i:Nat} (h:i < 12):(marks mv)[i]? = some (mv i):=by
 unfold marks
 rw [List.getElem?_map,List.getElem?_range h]; rfl
theorem Jb0 {mv:Nat→α}:(marks mv).length=12:=by simp [marks]
theorem marks_take {mv:Nat→α} {i:Nat} (h:i < 12):(marks mv).take (i+1)=(marks mv).take i++[mv i]:=by
 rw [List.take_add_one,Q3a h]; rfl
theorem lentTail {mk:Int→Option β} {mv:Nat→β} (of:β→α) (hmk:∀ i:Nat,i < 12→mk (i:Int)=some (mv i)) {by_:Nat} (hby:by_≤1000) {n:Nat} {s0:List α} (hn:s0.length=n) (hl:n≤1048576) :
  (need (decide ((12:Int)≤9223372036854775807)) <| upto (fun i (s:List α) nx=>bnd (mk (i:Int)) fun r=>need (decide ((s.length+[of r].length)*by_≤140737488355328∧s.length+[of r].length≤maxLen)) <| nx (s++[of r])) (fun s=>bnd (G61 (n:Int) s.length) fun m=>some (s.take m,s.drop m)) (12:Int).toNat 0 s0)=some (s0,(marks mv).map of):=by
 refine G38 (Qy rfl ?_)
 refine Gec (fun i s=>s=s0++((marks mv).map of).take i) (by simp) (fun i s nx hi hI hnx=>?_) (fun s hI=>?_)
 ·have hi:i < 12:=hi
  subst hI
  have hle:(s0++((marks mv).map of).take i).length≤n+12:=by
   rw [List.length_append,List.length_take]; omega
  refine Gy (hmk i hi) (Qy (H06 (by rw [List.length_singleton]; omega) hby) (hnx _ ?_))
  rw [← List.map_take,← List.map_take,marks_take hi,List.map_append,List.append_assoc]
  rfl
 ·have h12:(12:Int).toNat=12:=rfl
  rw [h12,List.take_of_length_le (by rw [List.length_map,Jb0]; omega)] at hI
  subst hI
  refine H5 (Q04 (m:=n) rfl (by rw [List.length_append]; omega) (Gn ?_))
  rw [← hn,List.take_left,List.drop_left]
theorem Hb2 {mk:Int→Option α} {mv:Nat→α} (hmk:∀ i:Nat,i < 12→mk (i:Int)=some (mv i)) {by_:Nat} (hby:by_≤1000) {l:List α} (hl:l.length≤1048576) :
  (Yn ((l.length:Int)+12) fun v3=>bnd (H3a v3) fun m4=>need (decide (by_*m4≤281474976710656∧m4≤maxLen)) <| need (decide ((([]:List α).length+l.length)*by_≤140737488355328∧([]:List α).length+l.length≤maxLen)) <|
   need (decide ((12:Int)≤9223372036854775807)) <| upto (fun i (s:List α) nx=>bnd (mk (i:Int)) fun r=>need (decide ((s.length+[r].length)*by_≤140737488355328∧s.length+[r].length≤maxLen)) <| nx (s++[r])) (fun s=>bnd (G61 (l.length:Int) s.length) fun m=>some (s.take m,s.drop m)) (12:Int).toNat 0 (([]:List α)++l))=some (l,marks mv):=by
 refine G38 (G1a ⟨by omega,by omega⟩ (Gy (natOfI (n:=l.length+12) (by omega)) (Qy (roomM (by omega) hby) (Qy (H06 (by rw [List.length_nil]; omega) hby) ⟨_,lentTail (fun x=>x) hmk hby (s0:=([]:List α)++l) (n:=l.length) (by simp) hl,?_⟩))))
 rw [List.map_id'',List.nil_append]
 exact fun _=>rfl
theorem J67 {lx:β→Option α} {lv:β→α} {mk:Int→Option β} {mv:Nat→β} (of:β→α) (hmk:∀ i:Nat,i < 12→mk (i:Int)=some (mv i)) {by_:Nat} (hby:by_≤1000) {l:List β} (hlx:∀ x∈l,lx x=some (lv x)) (hl:l.length≤1048576) :
  (Yn ((l.length:Int)+12) fun v3=>bnd (H3a v3) fun m4=>need (decide (by_*m4≤281474976710656∧m4≤maxLen)) <|
   each (fun y (i:Nat) (s:List α) nx=>bnd (lx y) fun r=>need (decide ((s.length+[r].length)*by_≤140737488355328∧s.length+[r].length≤maxLen)) <| nx (s++[r]))
   (fun(s0:List α)=>need (decide ((12:Int)≤9223372036854775807)) <| upto (fun i (s:List α) nx=>bnd (mk (i:Int)) fun r=>need (decide ((s.length+[of r].length)*by_≤140737488355328∧s.length+[of r].length≤maxLen)) <| nx (s++[of r])) (fun s=>bnd (G61 (l.length:Int) s.length) fun m=>some (s.take m,s.drop m)) (12:Int).toNat 0 s0) l 0 [])=some (l.map lv,(marks mv).map of):=by
 refine G38 (G1a ⟨by omega,by omega⟩ (Gy (natOfI (n:=l.length+12) (by omega)) (Qy (roomM (by omega) hby) ?_)))
 refine Q3 (fun pre s=>s=pre.map lv) rfl (fun pre y post s nx e hI hnx=>?_) (fun s hI=>?_)
 ·subst hI
  have hp:pre.length < l.length:=by rw [e]; simp
  refine Gy (hlx y (by rw [e]; simp)) (Qy (H06 (by rw [List.length_singleton,List.length_map]; omega) hby) (hnx _ ?_))
  rw [List.map_append]; rfl
 ·subst hI
  exact⟨_,lentTail of hmk hby (by simp) hl,rfl⟩
/-- Each element is what it was: the checks pass. -/
theorem keptGen [Inhabited α] [Inhabited β] {mk:Int→Option β} {mv:Nat→β} (hmk:∀ i:Nat,i < 12→mk (i:Int)=some (mv i)) {l:List β} (hl:l.length≤1048576) {xs:List α} {ys:List α} (hx:xs.length=l.length) (hy:ys.length=12)
  {body:α→Nat→Unit→(Unit→Option Bool)→Option Bool}
  (h1:∀ (i:Nat) y z nx,i < l.length→xs[i]? = some y→l[i]? = some z→body y i () nx=nx ())
  (h2:∀ (i:Nat) y nx,i < 12→ys[i]? = some y→body y (l.length+i) () nx=nx ()) :
  (bif decide ((((xs,ys):Ln α).1.length:Int)≠(l.length:Int)) then some false else (Yn ((l.length:Int)+12) fun v6=>bnd (G61 v6 (((xs,ys):Ln α).1++((xs,ys):Ln α).2).length) fun m7=>each body (fun(_:Unit)=>some true) ((((xs,ys):Ln α).1++((xs,ys):Ln α).2).take m7) 0 ()))=some true:=by
 have hd:decide ((((xs,ys):Ln α).1.length:Int)≠(l.length:Int))=false:=decide_eq_false (by simp only [ne_eq,Decidable.not_not]; omega)
 rw [hd,cond_false]
 refine G38 (G1a ⟨by omega,by omega⟩ (H5 (Q04 (m:=l.length+12) (by omega) (by simp only [List.length_append]; omega) ?_)))
 have ht:(((xs,ys):Ln α).1++((xs,ys):Ln α).2).take (l.length+12)=xs++ys:=List.take_of_length_le (by simp only [List.length_append]; omega)
 rw [ht]
 refine Q3 (fun _ _=>True) trivial (fun pre y post s nx e _ hnx=>?_) (fun s _=>Gn rfl)
 have hg:(xs++ys)[pre.length]? = some y:=by rw [e]; simp
 rcases Nat.lt_or_ge pre.length l.length with h | h
 ·rw [List.getElem?_append_left (by omega)] at hg
  rw [h1 pre.length y _ nx h hg (List.getElem?_eq_getElem h)]
  exact hnx _ trivial
 ·rw [List.getElem?_append_right (by omega)] at hg
  have hp:pre.length < l.length+12:=by
   have:=congrArg List.length e
   simp only [List.length_append,List.length_cons] at this
   omega
  have:=h2 (pre.length - l.length) y nx (by omega) (by rw [← hx]; exact hg)
  rw [show l.length+(pre.length - l.length)=pre.length by omega] at this
  rw [this]
  exact hnx _ trivial
theorem Hb3 [DecidableEq α] [Inhabited α] {mk:Int→Option α} {mv:Nat→α} (hmk:∀ i:Nat,i < 12→mk (i:Int)=some (mv i)) {l:List α} (hl:l.length≤1048576) :
  (bif decide ((((l,marks mv):Ln α).1.length:Int)≠(l.length:Int)) then some false else (Yn ((l.length:Int)+12) fun v6=>bnd (G61 v6 (((l,marks mv):Ln α).1++((l,marks mv):Ln α).2).length) fun m7=>
   each (fun y29 i29 (s29:Unit) nx29=>
    bnd (bif decide ((i29:Int) < (l.length:Int)) then Jc l (i29:Int) some else some default) fun y34=>
    bnd (bif ((!((decide ((i29:Int) < (l.length:Int)))&&(!(decide (y29=y34)))))&&(decide ((l.length:Int)≤(i29:Int)))) then Yn ((i29:Int) - (l.length:Int)) some else some 0) fun v35=>
    bnd (bif ((!((decide ((i29:Int) < (l.length:Int)))&&(!(decide (y29=y34)))))&&(decide ((l.length:Int)≤(i29:Int)))) then mk v35 else some default) fun r36=>
    bif (((decide ((i29:Int) < (l.length:Int)))&&(!(decide (y29=y34))))||((decide ((l.length:Int)≤(i29:Int)))&&(!(decide (y29=r36))))) then (some false) else (nx29 ()))
   (fun(_:Unit)=>some true) ((((l,marks mv):Ln α).1++((l,marks mv):Ln α).2).take m7) 0 ()))=some true:=by
 refine keptGen hmk hl rfl Jb0 (fun i y z nx hi hy hz=>?_) (fun i y nx hi hy=>?_)
 ·rw [hy] at hz
  cases hz
  have hg:Jc l (i:Int) some=some y:=by
   unfold Jc
   rw [decide_eq_true (by omega:(0:Int)≤(i:Int)),cond_true,show (i:Int).toNat=i by omega,hy]; rfl
  rw [decide_eq_true (by omega:(i:Int) < (l.length:Int)),cond_true,hg]
  simp only [bnd,decide_true,Bool.not_true,Bool.and_false,Bool.not_false,Bool.true_and,Bool.false_or]
  rw [decide_eq_false (by omega:¬ (l.length:Int)≤(i:Int))]
  rfl
 ·rw [Q3a hi] at hy
  cases hy
  have hc:((l.length+i:Nat):Int) - (l.length:Int)=(i:Int):=by omega
  rw [decide_eq_false (by omega:¬ ((l.length+i:Nat):Int) < (l.length:Int)),cond_false,hc,decide_eq_true (by omega:(l.length:Int)≤((l.length+i:Nat):Int))]
  have hk:Yn (i:Int) some=some (i:Int):=G38 (G1a ⟨by omega,by omega⟩ (Gn rfl))
  simp only [bnd,Bool.false_and,Bool.not_false,Bool.and_self,cond_true,hk,hmk i hi,decide_true,Bool.not_true,Bool.and_false,Bool.or_self,cond_false]
theorem J69 [Inhabited α] [Inhabited β] {mk:Int→Option β} {mv:Nat→β} (hmk:∀ i:Nat,i < 12→mk (i:Int)=some (mv i)) {lv of:β→α} {pl:α→β} {keep:α→β→Option Bool} {same:β→β→Option Bool} {l:List β} (hl:l.length≤1048576)
  (hkeep:∀ x∈l,keep (lv x) x=some true) (hsame:∀ i:Nat,i < 12→same (pl (of (mv i))) (mv i)=some true) :
  (bif decide ((((l.map lv,(marks mv).map of):Ln α).1.length:Int)≠(l.length:Int)) then some false else (Yn ((l.length:Int)+12) fun v6=>bnd (G61 v6 (((l.map lv,(marks mv).map of):Ln α).1++((l.map lv,(marks mv).map of):Ln α).2).length) fun m7=>
   each (fun y33 i33 (s33:Unit) nx33=>
    bnd (bif decide ((i33:Int) < (l.length:Int)) then Jc l (i33:Int) some else some default) fun y38=>
    bnd (bif decide ((i33:Int) < (l.length:Int)) then keep y33 y38 else some default) fun r39=>
    bnd (bif ((!((decide ((i33:Int) < (l.length:Int)))&&(!r39)))&&(decide ((l.length:Int)≤(i33:Int)))) then Yn ((i33:Int) - (l.length:Int)) some else some 0) fun v40=>
    bnd (bif ((!((decide ((i33:Int) < (l.length:Int)))&&(!r39)))&&(decide ((l.length:Int)≤(i33:Int)))) then mk v40 else some default) fun r41=>
    bnd (bif ((!((decide ((i33:Int) < (l.length:Int)))&&(!r39)))&&(decide ((l.length:Int)≤(i33:Int)))) then same (pl y33) r41 else some default) fun r42=>
    bif (((decide ((i33:Int) < (l.length:Int)))&&(!r39))||((decide ((l.length:Int)≤(i33:Int)))&&(!r42))) then (some false) else (nx33 ()))
   (fun(_:Unit)=>some true) ((((l.map lv,(marks mv).map of):Ln α).1++((l.map lv,(marks mv).map of):Ln α).2).take m7) 0 ()))=some true:=by
 refine keptGen hmk hl (by simp) (by simp [Jb0]) (fun i y z nx hi hy hz=>?_) (fun i y nx hi hy=>?_)
 ·rw [List.getElem?_map,hz] at hy
  cases hy
  have hg:Jc l (i:Int) some=some z:=by
   unfold Jc
   rw [decide_eq_true (by omega:(0:Int)≤(i:Int)),cond_true,show (i:Int).toNat=i by omega,hz]; rfl
  rw [decide_eq_true (by omega:(i:Int) < (l.length:Int)),cond_true,hg]
  simp only [bnd,cond_true,hkeep z (List.mem_of_getElem? hz),Bool.not_true,Bool.and_false,Bool.not_false,Bool.true_and,Bool.false_or]
  rw [decide_eq_false (by omega:¬ (l.length:Int)≤(i:Int))]
  rfl
 ·rw [List.getElem?_map,Q3a hi] at hy
  cases hy
  have hc:((l.length+i:Nat):Int) - (l.length:Int)=(i:Int):=by omega
  rw [decide_eq_false (by omega:¬ ((l.length+i:Nat):Int) < (l.length:Int)),cond_false,hc,decide_eq_true (by omega:(l.length:Int)≤((l.length+i:Nat):Int))]
  have hk:Yn (i:Int) some=some (i:Int):=G38 (G1a ⟨by omega,by omega⟩ (Gn rfl))
  simp only [bnd,cond_false,Bool.false_and,Bool.not_false,Bool.and_self,cond_true,hk,hmk i hi,hsame i hi,Bool.not_true,Bool.and_false,Bool.or_self]
/-- A list is the same as itself. -/
theorem H8d {l:List α} {body:α→Nat→Unit→(Unit→Option Bool)→Option Bool} (h:∀ (i:Nat) y nx,l[i]? = some y→body y i () nx=nx ()) :
  (bif decide ((l.length:Int)≠(l.length:Int)) then some false else each body (fun(_:Unit)=>some true) l 0 ())=some true:=by
 rw [decide_eq_false (by simp),cond_false]
 refine G38 (Q3 (fun _ _=>True) trivial (fun pre y post s nx e _ hnx=>?_) (fun s _=>Gn rfl))
 rw [h pre.length y nx (by rw [e]; simp)]
 exact hnx _ trivial
theorem Qg {γ:Type} {l:List α} {i:Nat} {y:α} (h:l[i]? = some y) (k:α→Option γ):Jc l (i:Int) k=k y:=by
 unfold Jc
 rw [decide_eq_true (by omega:(0:Int)≤(i:Int)),cond_true,show (i:Int).toNat=i by omega,h]; rfl
end generic

/-- The marks' numbers. -/
def mkN (i:Nat):Int:=8000024+(i:Int)
theorem mark_eq (i:Nat) (h:i < 12):Jw 1 (i:Int)=some (mkN i):=by
 refine G38 ?_
 unfold Jw mkN
 exact G1a ⟨by decide,by decide⟩ (G1a ⟨by decide,by decide⟩ (G1a ⟨by omega,by omega⟩ (Gn (by omega))))
theorem Ha1 (a:List Int):Rh a a=some true:=by
 unfold Rh
 exact H8d (fun i y nx h=>by rw [Qg h]; simp)
theorem SameRows_self (a:List Row):Zy a a=some true:=by
 unfold Zy
 exact H8d (fun i y nx h=>by rw [Qg h]; simp)
theorem Jee (a:List Frame):Yy a a=some true:=by
 unfold Yy
 exact H8d (fun i y nx h=>by rw [Qg h]; simp)
abbrev Jae:=mkN
theorem mkInts (i:Nat) (h:i < 12):Jw 1 (i:Int)=some (Jae i):=mark_eq i h
theorem J25 {l:List Int} (hl:l.length≤1048576):Rj l=some (l,marks Jae):=by
 unfold Rj
 exact Hb2 mkInts (by omega) hl
theorem J28 {l:List Int} (hl:l.length≤1048576):Jj (l,marks Jae) l=some true:=by
 unfold Jj
 exact Hb3 mkInts hl
def Jad (i:Nat):Row:=(Y5 1 (i:Int)).getD default
theorem mkRows (i:Nat) (h:i < 12):Y5 1 (i:Int)=some (Jad i):=by
 unfold Jad Y5
 rw [mark_eq i h]; rfl
theorem LentRows_eq {l:List Row} (hl:l.length≤1048576):G01 l=some (l,marks Jad):=by
 unfold G01
 exact Hb2 mkRows (by omega) hl
theorem KeptRows_eq {l:List Row} (hl:l.length≤1048576):Yk (l,marks Jad) l=some true:=by
 unfold Yk
 exact Hb3 mkRows hl
def Hb0 (i:Nat):Frame:=(R7 1 (i:Int)).getD default
theorem mkFrames (i:Nat) (h:i < 12):R7 1 (i:Int)=some (Hb0 i):=by
 unfold Hb0 R7
 rw [mark_eq i h]; rfl
theorem LentFrames_eq {l:List Frame} (hl:l.length≤1048576):Z0 l=some (l,marks Hb0):=by
 unfold Z0
 exact Hb2 mkFrames (by omega) hl
theorem KeptFrames_eq {l:List Frame} (hl:l.length≤1048576):Rx (l,marks Hb0) l=some true:=by
 unfold Rx
 exact Hb3 mkFrames hl
def Q01 (i:Nat):H2:=(Y6 1 (i:Int)).getD default
theorem mkBoxes (i:Nat) (h:i < 12):Y6 1 (i:Int)=some (Q01 i):=by
 unfold Q01 Y6
 rw [mark_eq i h]; rfl
theorem LentBoxes_eq {l:List H2} (hl:l.length≤1048576):Zo l=some (l,marks Q01):=by
 unfold Zo
 exact Hb2 mkBoxes (by omega) hl
theorem KeptBoxes_eq {l:List H2} (hl:l.length≤1048576):Zq (l,marks Q01) l=some true:=by
 unfold Zq
 exact Hb3 mkBoxes hl
def J32 (i:Nat):G6:=(R3 1 (i:Int)).getD default
theorem mkStoweds (i:Nat) (h:i < 12):R3 1 (i:Int)=some (J32 i):=by
 unfold J32 R3
 rw [mark_eq i h]; rfl
theorem J24 {l:List G6} (hl:l.length≤1048576):Ri l=some (l,marks J32):=by
 unfold Ri
 exact Hb2 mkStoweds (by omega) hl
theorem J27 {l:List G6} (hl:l.length≤1048576):Rk (l,marks J32) l=some true:=by
 unfold Rk
 exact Hb3 mkStoweds hl
def Q00 (i:Nat):Move:=(Rg 1 (i:Int)).getD default
theorem mkMoves (i:Nat) (h:i < 12):Rg 1 (i:Int)=some (Q00 i):=by
 unfold Q00 Rg
 rw [mark_eq i h]; rfl
theorem LentMoves_eq {l:List Move} (hl:l.length≤1048576):Zm l=some (l,marks Q00):=by
 unfold Zm
 exact Hb2 mkMoves (by omega) hl
theorem KeptMoves_eq {l:List Move} (hl:l.length≤1048576):Zp (l,marks Q00) l=some true:=by
 unfold Zp
 exact Hb3 mkMoves hl
def H0d (i:Nat):G4:=(R4 1 (i:Int)).getD default
theorem mkColumns (i:Nat) (h:i < 12):R4 1 (i:Int)=some (H0d i):=by
 unfold H0d R4
 rw [mark_eq i h]; rfl
def G86 (x:G4):H1:={ H1.of x with Plugs:=(x.Plugs,marks Jae) }
theorem LentColumn_eq {x:G4} (h:x.Plugs.length≤1048576):Z2 x=some (G86 x):=by
 unfold Z2
 rw [J25 h]; rfl
theorem H35 (a:G4):Q0 a a=some true:=by
 unfold Q0
 simp [Ha1,bnd]
theorem KeptColumn_eq {x:G4} (h:x.Plugs.length≤1048576):Rz (G86 x) x=some true:=by
 have e1:Q0 (H1.pl (G86 x)) x=some true:=H35 x
 have e2:Jj (G86 x).Plugs x.Plugs=some true:=J28 h
 unfold Rz
 show bnd (Q0 (H1.pl (G86 x)) x) (fun r3=>bnd (bif r3 then Jj (G86 x).Plugs x.Plugs else some default) fun r4=>some (r3&&r4))=some true
 rw [e1,H63,cond_true,e2,H63]; rfl
theorem Q5a {l:List G4} (hl:l.length≤1048576) (h:∀ x∈l,x.Plugs.length≤1048576):Yr l=some (l.map G86,(marks H0d).map H1.of):=by
 unfold Yr
 exact J67 H1.of mkColumns (by omega) (fun x hx=>LentColumn_eq (h x hx)) hl
theorem Jb7 (a:List G4):Yq a a=some true:=by
 unfold Yq
 exact H8d (fun i y nx h=>by rw [Qg h,H35]; rfl)
theorem Q5b {l:List G4} (hl:l.length≤1048576) (h:∀ x∈l,x.Plugs.length≤1048576):Rm (l.map G86,(marks H0d).map H1.of) l=some true:=by
 unfold Rm
 exact J69 (keep:=Rz) (same:=Q0) (pl:=H1.pl) mkColumns hl (fun x hx=>KeptColumn_eq (h x hx)) (fun i hi=>H35 (H0d i))
theorem plColumns (l:List G4):(l.map G86).map H1.pl=l:=by
 rw [List.map_map]
 exact(List.map_congr_left (fun x _=>rfl)).trans (List.map_id l)
def H5a (i:Nat):Ge:=(R8 1 (i:Int)).getD default
theorem mkCovers (i:Nat) (h:i < 12):R8 1 (i:Int)=some (H5a i):=by
 unfold H5a R8
 rw [mark_eq i h]; rfl
def Gd7 (x:Ge):Hf:={ Hf.of x with Rows:=(x.Rows,marks Jae) }
theorem LentCover_eq {x:Ge} (h:x.Rows.length≤1048576):Zn x=some (Gd7 x):=by
 unfold Zn
 rw [J25 h]; rfl
theorem H65 (a:Ge):Q8 a a=some true:=by
 unfold Q8
 simp [Ha1,bnd]
theorem KeptCover_eq {x:Ge} (h:x.Rows.length≤1048576):Yf (Gd7 x) x=some true:=by
 have e1:Q8 (Hf.pl (Gd7 x)) x=some true:=H65 x
 have e2:Jj (Gd7 x).Rows x.Rows=some true:=J28 h
 unfold Yf
 show bnd (Q8 (Hf.pl (Gd7 x)) x) (fun r3=>bnd (bif r3 then Jj (Gd7 x).Rows x.Rows else some default) fun r4=>some (r3&&r4))=some true
 rw [e1,H63,cond_true,e2,H63]; rfl
theorem LentCovers_eq {l:List Ge} (hl:l.length≤1048576) (h:∀ x∈l,x.Rows.length≤1048576):Z1 l=some (l.map Gd7,(marks H5a).map Hf.of):=by
 unfold Z1
 exact J67 Hf.of mkCovers (by omega) (fun x hx=>LentCover_eq (h x hx)) hl
theorem Jef (a:List Ge):Yz a a=some true:=by
 unfold Yz
 exact H8d (fun i y nx h=>by rw [Qg h,H65]; rfl)
theorem KeptCovers_eq {l:List Ge} (hl:l.length≤1048576) (h:∀ x∈l,x.Rows.length≤1048576):Ry (l.map Gd7,(marks H5a).map Hf.of) l=some true:=by
 unfold Ry
 exact J69 (keep:=Yf) (same:=Q8) (pl:=Hf.pl) mkCovers hl (fun x hx=>KeptCover_eq (h x hx)) (fun i hi=>H65 (H5a i))
theorem plCovers (l:List Ge):(l.map Gd7).map Hf.pl=l:=by
 rw [List.map_map]
 exact(List.map_congr_left (fun x _=>rfl)).trans (List.map_id l)
def He1 (i:Nat):Gp:=(Rf 1 (i:Int)).getD default
theorem mkTanks (i:Nat) (h:i < 12):Rf 1 (i:Int)=some (He1 i):=by
 unfold He1 Rf
 rw [mark_eq i h]; rfl
def H32 (x:Gp):Hq:={ Hq.of x with Steps:=(x.Steps,marks Jae) }
theorem LentTank_eq {x:Gp} (h:x.Steps.length≤1048576):Zz x=some (H32 x):=by
 unfold Zz
 rw [J25 h]; rfl
theorem Ha0 (a:Gp):Q9 a a=some true:=by
 unfold Q9
 simp [Ha1,bnd]
theorem KeptTank_eq {x:Gp} (h:x.Steps.length≤1048576):Yj (H32 x) x=some true:=by
 have e1:Q9 (Hq.pl (H32 x)) x=some true:=Ha0 x
 have e2:Jj (H32 x).Steps x.Steps=some true:=J28 h
 unfold Yj
 show bnd (Q9 (Hq.pl (H32 x)) x) (fun r3=>bnd (bif r3 then Jj (H32 x).Steps x.Steps else some default) fun r4=>some (r3&&r4))=some true
 rw [e1,H63,cond_true,e2,H63]; rfl
theorem LentTanks_eq {l:List Gp} (hl:l.length≤1048576) (h:∀ x∈l,x.Steps.length≤1048576):Zk l=some (l.map H32,(marks He1).map Hq.of):=by
 unfold Zk
 exact J67 Hq.of mkTanks (by omega) (fun x hx=>LentTank_eq (h x hx)) hl
theorem Q4d (a:List Gp):Zj a a=some true:=by
 unfold Zj
 exact H8d (fun i y nx h=>by rw [Qg h,Ha0]; rfl)
theorem KeptTanks_eq {l:List Gp} (hl:l.length≤1048576) (h:∀ x∈l,x.Steps.length≤1048576):Ye (l.map H32,(marks He1).map Hq.of) l=some true:=by
 unfold Ye
 exact J69 (keep:=Yj) (same:=Q9) (pl:=Hq.pl) mkTanks hl (fun x hx=>KeptTank_eq (h x hx)) (fun i hi=>Ha0 (He1 i))
theorem plTanks (l:List Gp):(l.map H32).map Hq.pl=l:=by
 rw [List.map_map]
 exact(List.map_congr_left (fun x _=>rfl)).trans (List.map_id l)
/-- No list of a ship is longer than it may be. -/
structure Hb9 (s:H8):Prop where
 cols:s.Columns.length≤1048576
 plugs:∀ c∈s.Columns,c.Plugs.length≤1048576
 covs:s.Covers.length≤1048576
 crows:∀ x∈s.Covers,x.Rows.length≤1048576
 rows:s.Rows.length≤1048576
 frames:s.Frames.length≤1048576
 tanks:s.Tanks.length≤1048576
 steps:∀ x∈s.Tanks,x.Steps.length≤1048576
def H9c (s:H8):Rb:=⟨(s.Columns.map G86,(marks H0d).map H1.of),(s.Covers.map Gd7,(marks H5a).map Hf.of),s.Light,(s.Rows,marks Jad),(s.Frames,marks Hb0),(s.Tanks.map H32,(marks He1).map Hq.of),s.G3⟩
theorem LentShip_eq {s:H8} (h:Hb9 s):G00 s=some (H9c s):=by
 unfold G00
 rw [Q5a h.cols h.plugs,LentCovers_eq h.covs h.crows,LentRows_eq h.rows,LentFrames_eq h.frames,LentTanks_eq h.tanks h.steps]
 rfl
theorem plShip (s:H8):H8.mk ((H9c s).Columns.1.map H1.pl) ((H9c s).Covers.1.map Hf.pl) (H9c s).Light (H9c s).Rows.1 (H9c s).Frames.1 ((H9c s).Tanks.1.map Hq.pl) (H9c s).G3=s:=by
 show H8.mk ((s.Columns.map G86).map H1.pl) ((s.Covers.map Gd7).map Hf.pl) s.Light s.Rows s.Frames ((s.Tanks.map H32).map Hq.pl) s.G3=s
 rw [plColumns,plCovers,plTanks]
theorem SameShip_self (s:H8):Zx s s=some true:=by
 unfold Zx
 simp [Jb7,Jef,SameRows_self,Jee,Q4d,bnd]
theorem KeptShip_eq {s:H8} (h:Hb9 s):G02 (H9c s) s=some true:=by
 have e1:=Q5b h.cols h.plugs
 have e2:=KeptCovers_eq h.covs h.crows
 have e3:=KeptRows_eq h.rows
 have e4:=KeptFrames_eq h.frames
 have e5:=KeptTanks_eq h.tanks h.steps
 unfold G02
 rw [plShip,SameShip_self,H63,cond_true]
 show bnd (Rm (s.Columns.map G86,(marks H0d).map H1.of) s.Columns) _=_
 rw [e1,H63,Bool.and_self,cond_true]
 show bnd (Ry (s.Covers.map Gd7,(marks H5a).map Hf.of) s.Covers) _=_
 rw [e2,H63,Bool.and_self,cond_true]
 show bnd (Yk (s.Rows,marks Jad) s.Rows) _=_
 rw [e3,H63,Bool.and_self,cond_true]
 show bnd (Rx (s.Frames,marks Hb0) s.Frames) _=_
 rw [e4,H63,Bool.and_self,cond_true]
 show bnd (Ye (s.Tanks.map H32,(marks He1).map Hq.of) s.Tanks) _=_
 rw [e5,H63]
 rfl
end Go.Proofs.YteogacmpgdpjlaaGreat
