/-
 What the functions return that lend and check arguments. What the program and the reference say of a ship and of a state: the same. What has to be lifted so that some boxes can be: the least set that is closed,of the program. What has to be lifted so that some boxes can be: the same,of the reference. What is reached for,of the states that the chapter's statements make.
-/
import Derived.Test.YthcpolfodgjekaaGreatXL
import Derived.Test.YthcpolfodgjekaaGreatSpecW
import Derived.Test.YthcpolfodgjekaaGreatXP
set_option maxRecDepth 100000
set_option linter.unusedVariables false
namespace Go.Proofs.YthcpolfodgjekaaGreat
open Go.RowKit

theorem Rab {n k:Nat} (hn:n≤10000001) (hk:k≤1000):decide (n*k≤140737488355328∧n≤maxLen)=true:=by
 refine Kf ⟨?_,by unfold maxLen; omega⟩
 exact Nat.le_trans (Nat.mul_le_mul hn hk) (by omega)
theorem Y75 {n k:Nat} (hn:n≤10000001) (hk:k≤1000):decide (k*n≤281474976710656∧n≤maxLen)=true:=by
 refine Kf ⟨?_,by unfold maxLen; omega⟩
 exact Nat.le_trans (Nat.mul_le_mul hk hn) (by omega)
theorem Y23 {n:Nat} {z:Int} (h:z=(n:Int)):Gd7 z=some n:=by
 subst h
 unfold Gd7
 rw [Kf (by omega:(0:Int)≤(n:Int))]
 simp
section generic
variable {α β:Type}
theorem J29 {x:α} {k:α→Option β}:bnd (some x) k=k x:=rfl
def marks (mv:Nat→α):List α:=(List.range 12).map mv
theorem Q34 {mv:Nat→α} {i:Nat} (h:i < 12):(marks mv)[i]? = some (mv i):=by
 unfold marks
 rw [List.getElem?_map,List.getElem?_range h]; rfl
theorem J9d {mv:Nat→α}:(marks mv).length=12:=by simp [marks]
theorem R8e {mv:Nat→α} {i:Nat} (h:i < 12):(marks mv).take (i+1)=(marks mv).take i++[mv i]:=by
 rw [List.take_add_one,Q34 h]; rfl
theorem R2b {mk:Int→Option β} {mv:Nat→β} (of:β→α) (hmk:∀ i:Nat,i < 12→mk (i:Int)=some (mv i)) {by_:Nat} (hby:by_≤1000) {n:Nat} {s0:List α} (hn:s0.length=n) (hl:n≤1048576) :
  (need (decide ((12:Int)≤9223372036854775807)) <| upto (fun i (s:List α) nx=>bnd (mk (i:Int)) fun r=>need (decide ((s.length+[of r].length)*by_≤140737488355328∧s.length+[of r].length≤maxLen)) <| nx (s++[of r])) (fun s=>bnd (G70 (n:Int) s.length) fun m=>some (s.take m,s.drop m)) (12:Int).toNat 0 s0)=some (s0,(marks mv).map of):=by
 refine Zd (R6 rfl ?_)
 refine Haf (fun i s=>s=s0++((marks mv).map of).take i) (by simp) (fun i s nx hi hI hnx=>?_) (fun s hI=>?_)
 ·have hi:i < 12:=hi
  subst hI
  have hle:(s0++((marks mv).map of).take i).length≤n+12:=by
   rw [Ko,List.length_take]; omega
  refine Gu (hmk i hi) (R6 (Rab (by rw [Kp]; omega) hby) (hnx _ ?_))
  rw [← List.map_take,← List.map_take,R8e hi,List.map_append,List.append_assoc]
  rfl
 ·have h12:(12:Int).toNat=12:=rfl
  rw [h12,List.take_of_length_le (by rw [Ks,J9d]; omega)] at hI
  subst hI
  refine H8 (Jf6 (m:=n) rfl (by rw [Ko]; omega) (Gk ?_))
  rw [← hn,List.take_left,List.drop_left]
theorem Hf9 {mk:Int→Option α} {mv:Nat→α} (hmk:∀ i:Nat,i < 12→mk (i:Int)=some (mv i)) {by_:Nat} (hby:by_≤1000) {l:List α} (hl:l.length≤1048576) :
  (chk ((l.length:Int)+12) fun v3=>bnd (Gd7 v3) fun m4=>need (decide (by_*m4≤281474976710656∧m4≤maxLen)) <| need (decide ((([]:List α).length+l.length)*by_≤140737488355328∧([]:List α).length+l.length≤maxLen)) <|
   need (decide ((12:Int)≤9223372036854775807)) <| upto (fun i (s:List α) nx=>bnd (mk (i:Int)) fun r=>need (decide ((s.length+[r].length)*by_≤140737488355328∧s.length+[r].length≤maxLen)) <| nx (s++[r])) (fun s=>bnd (G70 (l.length:Int) s.length) fun m=>some (s.take m,s.drop m)) (12:Int).toNat 0 (([]:List α)++l))=some (l,marks mv):=by
 refine Zd (Zb ⟨by omega,by omega⟩ (Gu (Y23 (n:=l.length+12) (by omega)) (R6 (Y75 (by omega) hby) (R6 (Rab (by rw [List.length_nil]; omega) hby) ⟨_,R2b (fun x=>x) hmk hby (s0:=([]:List α)++l) (n:=l.length) (by simp) hl,?_⟩))))
 rw [List.map_id'',List.nil_append]
 exact fun _=>rfl
theorem J54 {lx:β→Option α} {lv:β→α} {mk:Int→Option β} {mv:Nat→β} (of:β→α) (hmk:∀ i:Nat,i < 12→mk (i:Int)=some (mv i)) {by_:Nat} (hby:by_≤1000) {l:List β} (hlx:∀ x∈l,lx x=some (lv x)) (hl:l.length≤1048576) :
  (chk ((l.length:Int)+12) fun v3=>bnd (Gd7 v3) fun m4=>need (decide (by_*m4≤281474976710656∧m4≤maxLen)) <|
   each (fun y (i:Nat) (s:List α) nx=>bnd (lx y) fun r=>need (decide ((s.length+[r].length)*by_≤140737488355328∧s.length+[r].length≤maxLen)) <| nx (s++[r]))
   (fun(s0:List α)=>need (decide ((12:Int)≤9223372036854775807)) <| upto (fun i (s:List α) nx=>bnd (mk (i:Int)) fun r=>need (decide ((s.length+[of r].length)*by_≤140737488355328∧s.length+[of r].length≤maxLen)) <| nx (s++[of r])) (fun s=>bnd (G70 (l.length:Int) s.length) fun m=>some (s.take m,s.drop m)) (12:Int).toNat 0 s0) l 0 [])=some (l.map lv,(marks mv).map of):=by
 refine Zd (Zb ⟨by omega,by omega⟩ (Gu (Y23 (n:=l.length+12) (by omega)) (R6 (Y75 (by omega) hby) ?_)))
 refine Jo (fun pre s=>s=pre.map lv) rfl (fun pre y post s nx e hI hnx=>?_) (fun s hI=>?_)
 ·subst hI
  have hp:pre.length < l.length:=by rw [e]; simp
  refine Gu (hlx y (by rw [e]; simp)) (R6 (Rab (by rw [Kp,Ks]; omega) hby) (hnx _ ?_))
  rw [List.map_append]; rfl
 ·subst hI
  exact⟨_,R2b of hmk hby (by simp) hl,rfl⟩
theorem Rbd [Inhabited α] [Inhabited β] {mk:Int→Option β} {mv:Nat→β} (hmk:∀ i:Nat,i < 12→mk (i:Int)=some (mv i)) {l:List β} (hl:l.length≤1048576) {xs:List α} {ys:List α} (hx:xs.length=l.length) (hy:ys.length=12)
  {body:α→Nat→Unit→(Unit→Option Bool)→Option Bool}
  (h1:∀ (i:Nat) y z nx,i < l.length→xs[i]? = some y→l[i]? = some z→body y i () nx=nx ())
  (h2:∀ (i:Nat) y nx,i < 12→ys[i]? = some y→body y (l.length+i) () nx=nx ()) :
  (bif decide ((((xs,ys):Ln α).1.length:Int)≠(l.length:Int)) then some false else (chk ((l.length:Int)+12) fun v6=>bnd (G70 v6 (((xs,ys):Ln α).1++((xs,ys):Ln α).2).length) fun m7=>each body (fun(_:Unit)=>some true) ((((xs,ys):Ln α).1++((xs,ys):Ln α).2).take m7) 0 ()))=some true:=by
 have hd:decide ((((xs,ys):Ln α).1.length:Int)≠(l.length:Int))=false:=Kg (by simp only [ne_eq,Decidable.not_not]; omega)
 rw [hd,cond_false]
 refine Zd (Zb ⟨by omega,by omega⟩ (H8 (Jf6 (m:=l.length+12) (by omega) (by simp only [Ko]; omega) ?_)))
 have ht:(((xs,ys):Ln α).1++((xs,ys):Ln α).2).take (l.length+12)=xs++ys:=List.take_of_length_le (by simp only [Ko]; omega)
 rw [ht]
 refine Jo (fun _ _=>True) trivial (fun pre y post s nx e _ hnx=>?_) (fun s _=>Gk rfl)
 have hg:(xs++ys)[pre.length]? = some y:=by rw [e]; simp
 rcases Nat.lt_or_ge pre.length l.length with h | h
 ·rw [List.getElem?_append_left (by omega)] at hg
  rw [h1 pre.length y _ nx h hg (Ki h)]
  exact hnx _ trivial
 ·rw [List.getElem?_append_right (by omega)] at hg
  have hp:pre.length < l.length+12:=by
   have:=congrArg List.length e
   simp only [Ko,List.length_cons] at this
   omega
  have:=h2 (pre.length - l.length) y nx (by omega) (by rw [← hx]; exact hg)
  rw [show l.length+(pre.length - l.length)=pre.length by omega] at this
  rw [this]
  exact hnx _ trivial
theorem Hfa [DecidableEq α] [Inhabited α] {mk:Int→Option α} {mv:Nat→α} (hmk:∀ i:Nat,i < 12→mk (i:Int)=some (mv i)) {l:List α} (hl:l.length≤1048576) :
  (bif decide ((((l,marks mv):Ln α).1.length:Int)≠(l.length:Int)) then some false else (chk ((l.length:Int)+12) fun v6=>bnd (G70 v6 (((l,marks mv):Ln α).1++((l,marks mv):Ln α).2).length) fun m7=>
   each (fun y29 i29 (s29:Unit) nx29=>
    bnd (bif decide ((i29:Int) < (l.length:Int)) then Qm l (i29:Int) some else some default) fun y34=>
    bnd (bif ((!((decide ((i29:Int) < (l.length:Int)))&&(!(decide (y29=y34)))))&&(decide ((l.length:Int)≤(i29:Int)))) then chk ((i29:Int) - (l.length:Int)) some else some 0) fun v35=>
    bnd (bif ((!((decide ((i29:Int) < (l.length:Int)))&&(!(decide (y29=y34)))))&&(decide ((l.length:Int)≤(i29:Int)))) then mk v35 else some default) fun r36=>
    bif (((decide ((i29:Int) < (l.length:Int)))&&(!(decide (y29=y34))))||((decide ((l.length:Int)≤(i29:Int)))&&(!(decide (y29=r36))))) then (some false) else (nx29 ()))
   (fun(_:Unit)=>some true) ((((l,marks mv):Ln α).1++((l,marks mv):Ln α).2).take m7) 0 ()))=some true:=by
 refine Rbd hmk hl rfl J9d (fun i y z nx hi hy hz=>?_) (fun i y nx hi hy=>?_)
 ·rw [hy] at hz
  cases hz
  have hg:Qm l (i:Int) some=some y:=by
   unfold Qm
   rw [Kf (by omega:(0:Int)≤(i:Int)),cond_true,show (i:Int).toNat=i by omega,hy]; rfl
  rw [Kf (by omega:(i:Int) < (l.length:Int)),cond_true,hg]
  simp only [bnd,decide_true,Bool.not_true,Bool.and_false,Bool.not_false,Bool.true_and,Bool.false_or]
  rw [Kg (by omega:¬ (l.length:Int)≤(i:Int))]
  rfl
 ·rw [Q34 hi] at hy
  cases hy
  have hc:((l.length+i:Nat):Int) - (l.length:Int)=(i:Int):=by omega
  rw [Kg (by omega:¬ ((l.length+i:Nat):Int) < (l.length:Int)),cond_false,hc,Kf (by omega:(l.length:Int)≤((l.length+i:Nat):Int))]
  have hk:chk (i:Int) some=some (i:Int):=Zd (Zb ⟨by omega,by omega⟩ (Gk rfl))
  simp only [bnd,Bool.false_and,Bool.not_false,Bool.and_self,cond_true,hk,hmk i hi,decide_true,Bool.not_true,Bool.and_false,Bool.or_self,cond_false]
theorem J56 [Inhabited α] [Inhabited β] {mk:Int→Option β} {mv:Nat→β} (hmk:∀ i:Nat,i < 12→mk (i:Int)=some (mv i)) {lv of:β→α} {pl:α→β} {keep:α→β→Option Bool} {same:β→β→Option Bool} {l:List β} (hl:l.length≤1048576)
  (hkeep:∀ x∈l,keep (lv x) x=some true) (hsame:∀ i:Nat,i < 12→same (pl (of (mv i))) (mv i)=some true) :
  (bif decide ((((l.map lv,(marks mv).map of):Ln α).1.length:Int)≠(l.length:Int)) then some false else (chk ((l.length:Int)+12) fun v6=>bnd (G70 v6 (((l.map lv,(marks mv).map of):Ln α).1++((l.map lv,(marks mv).map of):Ln α).2).length) fun m7=>
   each (fun y33 i33 (s33:Unit) nx33=>
    bnd (bif decide ((i33:Int) < (l.length:Int)) then Qm l (i33:Int) some else some default) fun y38=>
    bnd (bif decide ((i33:Int) < (l.length:Int)) then keep y33 y38 else some default) fun r39=>
    bnd (bif ((!((decide ((i33:Int) < (l.length:Int)))&&(!r39)))&&(decide ((l.length:Int)≤(i33:Int)))) then chk ((i33:Int) - (l.length:Int)) some else some 0) fun v40=>
    bnd (bif ((!((decide ((i33:Int) < (l.length:Int)))&&(!r39)))&&(decide ((l.length:Int)≤(i33:Int)))) then mk v40 else some default) fun r41=>
    bnd (bif ((!((decide ((i33:Int) < (l.length:Int)))&&(!r39)))&&(decide ((l.length:Int)≤(i33:Int)))) then same (pl y33) r41 else some default) fun r42=>
    bif (((decide ((i33:Int) < (l.length:Int)))&&(!r39))||((decide ((l.length:Int)≤(i33:Int)))&&(!r42))) then (some false) else (nx33 ()))
   (fun(_:Unit)=>some true) ((((l.map lv,(marks mv).map of):Ln α).1++((l.map lv,(marks mv).map of):Ln α).2).take m7) 0 ()))=some true:=by
 refine Rbd hmk hl (by simp) (by simp [J9d]) (fun i y z nx hi hy hz=>?_) (fun i y nx hi hy=>?_)
 ·rw [List.getElem?_map,hz] at hy
  cases hy
  have hg:Qm l (i:Int) some=some z:=by
   unfold Qm
   rw [Kf (by omega:(0:Int)≤(i:Int)),cond_true,show (i:Int).toNat=i by omega,hz]; rfl
  rw [Kf (by omega:(i:Int) < (l.length:Int)),cond_true,hg]
  simp only [bnd,cond_true,hkeep z (Kk hz),Bool.not_true,Bool.and_false,Bool.not_false,Bool.true_and,Bool.false_or]
  rw [Kg (by omega:¬ (l.length:Int)≤(i:Int))]
  rfl
 ·rw [List.getElem?_map,Q34 hi] at hy
  cases hy
  have hc:((l.length+i:Nat):Int) - (l.length:Int)=(i:Int):=by omega
  rw [Kg (by omega:¬ ((l.length+i:Nat):Int) < (l.length:Int)),cond_false,hc,Kf (by omega:(l.length:Int)≤((l.length+i:Nat):Int))]
  have hk:chk (i:Int) some=some (i:Int):=Zd (Zb ⟨by omega,by omega⟩ (Gk rfl))
  simp only [bnd,cond_false,Bool.false_and,Bool.not_false,Bool.and_self,cond_true,hk,hmk i hi,hsame i hi,Bool.not_true,Bool.and_false,Bool.or_self]
theorem Hbe {l:List α} {body:α→Nat→Unit→(Unit→Option Bool)→Option Bool} (h:∀ (i:Nat) y nx,l[i]? = some y→body y i () nx=nx ()) :
  (bif decide ((l.length:Int)≠(l.length:Int)) then some false else each body (fun(_:Unit)=>some true) l 0 ())=some true:=by
 rw [Kg (by simp),cond_false]
 refine Zd (Jo (fun _ _=>True) trivial (fun pre y post s nx e _ hnx=>?_) (fun s _=>Gk rfl))
 rw [h pre.length y nx (by rw [e]; simp)]
 exact hnx _ trivial
theorem Z2 {γ:Type} {l:List α} {i:Nat} {y:α} (h:l[i]? = some y) (k:α→Option γ):Qm l (i:Int) k=k y:=by
 unfold Qm
 rw [Kf (by omega:(0:Int)≤(i:Int)),cond_true,show (i:Int).toNat=i by omega,h]; rfl
end generic

def mkN (i:Nat):Int:=8000024+(i:Int)
theorem mark_eq (i:Nat) (h:i < 12):Jw 1 (i:Int)=some (mkN i):=by
 refine Zd ?_
 unfold Jw mkN
 exact Zb ⟨by decide,by decide⟩ (Zb ⟨by decide,by decide⟩ (Zb ⟨by omega,by omega⟩ (Gk (by omega))))
theorem H99 (a:List Int):J3 a a=some true:=by
 unfold J3
 exact Hbe (fun i y nx h=>by rw [Z2 h]; simp)
theorem Q7a (a:List Row):G00 a a=some true:=by
 unfold G00
 exact Hbe (fun i y nx h=>by rw [Z2 h]; simp)
theorem Je3 (a:List Frame):Z4 a a=some true:=by
 unfold Z4
 exact Hbe (fun i y nx h=>by rw [Z2 h]; simp)
abbrev J9b:=mkN
theorem Y25 (i:Nat) (h:i < 12):Jw 1 (i:Int)=some (J9b i):=mark_eq i h
theorem J0d {l:List Int} (hl:l.length≤1048576):Rh l=some (l,marks J9b):=by
 unfold Rh
 exact Hf9 Y25 (by omega) hl
theorem J0e {l:List Int} (hl:l.length≤1048576):Ji (l,marks J9b) l=some true:=by
 unfold Ji
 exact Hfa Y25 hl
def J9a (i:Nat):Row:=(Y1 1 (i:Int)).getD default
theorem Y24 (i:Nat) (h:i < 12):Y1 1 (i:Int)=some (J9a i):=by
 unfold J9a Y1
 rw [mark_eq i h]; rfl
theorem R3e {l:List Row} (hl:l.length≤1048576):G02 l=some (l,marks J9a):=by
 unfold G02
 exact Hf9 Y24 (by omega) hl
theorem R41 {l:List Row} (hl:l.length≤1048576):Yr (l,marks J9a) l=some true:=by
 unfold Yr
 exact Hfa Y24 hl
def H9f (i:Nat):Frame:=(R4 1 (i:Int)).getD default
theorem R25 (i:Nat) (h:i < 12):R4 1 (i:Int)=some (H9f i):=by
 unfold H9f R4
 rw [mark_eq i h]; rfl
theorem Q7f {l:List Frame} (hl:l.length≤1048576):Z6 l=some (l,marks H9f):=by
 unfold Z6
 exact Hf9 R25 (by omega) hl
theorem Q82 {l:List Frame} (hl:l.length≤1048576):Rv (l,marks H9f) l=some true:=by
 unfold Rv
 exact Hfa R25 hl
def Jee (i:Nat):Box:=(Y2 1 (i:Int)).getD default
theorem Rb7 (i:Nat) (h:i < 12):Y2 1 (i:Int)=some (Jee i):=by
 unfold Jee Y2
 rw [mark_eq i h]; rfl
theorem Qd7 {l:List Box} (hl:l.length≤1048576):Y9 l=some (l,marks Jee):=by
 unfold Y9
 exact Hf9 Rb7 (by omega) hl
theorem Qda {l:List Box} (hl:l.length≤1048576):Yc (l,marks Jee) l=some true:=by
 unfold Yc
 exact Hfa Rb7 hl
def J19 (i:Nat):Stowed:=(Qx 1 (i:Int)).getD default
theorem Qa3 (i:Nat) (h:i < 12):Qx 1 (i:Int)=some (J19 i):=by
 unfold J19 Qx
 rw [mark_eq i h]; rfl
theorem Q5e {l:List Stowed} (hl:l.length≤1048576):Rg l=some (l,marks J19):=by
 unfold Rg
 exact Hf9 Qa3 (by omega) hl
theorem Q60 {l:List Stowed} (hl:l.length≤1048576):Ri (l,marks J19) l=some true:=by
 unfold Ri
 exact Hfa Qa3 hl
def H08 (i:Nat):G3:=(Qy 1 (i:Int)).getD default
theorem Qa4 (i:Nat) (h:i < 12):Qy 1 (i:Int)=some (H08 i):=by
 unfold H08 Qy
 rw [mark_eq i h]; rfl
def G7c (x:G3):Gz:={ Gz.of x with Plugs:=(x.Plugs,marks J9b) }
theorem Q81 {x:G3} (h:x.Plugs.length≤1048576):Z8 x=some (G7c x):=by
 unfold Z8
 rw [J0d h]; rfl
theorem H31 (a:G3):Jy a a=some true:=by
 unfold Jy
 simp [H99,bnd]
theorem Q84 {x:G3} (h:x.Plugs.length≤1048576):Rx (G7c x) x=some true:=by
 have e1:Jy (Gz.pl (G7c x)) x=some true:=H31 x
 have e2:Ji (G7c x).Plugs x.Plugs=some true:=J0e h
 unfold Rx
 show bnd (Jy (Gz.pl (G7c x)) x) (fun r3=>bnd (bif r3 then Ji (G7c x).Plugs x.Plugs else some default) fun r4=>some (r3&&r4))=some true
 rw [e1,J29,cond_true,e2,J29]; rfl
theorem Q5f {l:List G3} (hl:l.length≤1048576) (h:∀ x∈l,x.Plugs.length≤1048576):Yw l=some (l.map G7c,(marks H08).map Gz.of):=by
 unfold Yw
 exact J54 Gz.of Qa4 (by omega) (fun x hx=>Q81 (h x hx)) hl
theorem Ja3 (a:List G3):Yv a a=some true:=by
 unfold Yv
 exact Hbe (fun i y nx h=>by rw [Z2 h,H31]; rfl)
theorem Q61 {l:List G3} (hl:l.length≤1048576) (h:∀ x∈l,x.Plugs.length≤1048576):Rj (l.map G7c,(marks H08).map Gz.of) l=some true:=by
 unfold Rj
 exact J56 (keep:=Rx) (same:=Jy) (pl:=Gz.pl) Qa4 hl (fun x hx=>Q84 (h x hx)) (fun i hi=>H31 (H08 i))
theorem Red (l:List G3):(l.map G7c).map Gz.pl=l:=by
 rw [List.map_map]
 exact(List.map_congr_left (fun x _=>rfl)).trans (List.map_id l)
def H5f (i:Nat):G8:=(R5 1 (i:Int)).getD default
theorem R26 (i:Nat) (h:i < 12):R5 1 (i:Int)=some (H5f i):=by
 unfold H5f R5
 rw [mark_eq i h]; rfl
def Gcc (x:G8):H9:={ H9.of x with Rows:=(x.Rows,marks J9b) }
theorem Qd6 {x:G8} (h:x.Rows.length≤1048576):Zq x=some (Gcc x):=by
 unfold Zq
 rw [J0d h]; rfl
theorem H67 (a:G8):Q6 a a=some true:=by
 unfold Q6
 simp [H99,bnd]
theorem Qd9 {x:G8} (h:x.Rows.length≤1048576):Yb (Gcc x) x=some true:=by
 have e1:Q6 (H9.pl (Gcc x)) x=some true:=H67 x
 have e2:Ji (Gcc x).Rows x.Rows=some true:=J0e h
 unfold Yb
 show bnd (Q6 (H9.pl (Gcc x)) x) (fun r3=>bnd (bif r3 then Ji (Gcc x).Rows x.Rows else some default) fun r4=>some (r3&&r4))=some true
 rw [e1,J29,cond_true,e2,J29]; rfl
theorem Q80 {l:List G8} (hl:l.length≤1048576) (h:∀ x∈l,x.Rows.length≤1048576):Z7 l=some (l.map Gcc,(marks H5f).map H9.of):=by
 unfold Z7
 exact J54 H9.of R26 (by omega) (fun x hx=>Qd6 (h x hx)) hl
theorem Je4 (a:List G8):Z5 a a=some true:=by
 unfold Z5
 exact Hbe (fun i y nx h=>by rw [Z2 h,H67]; rfl)
theorem Q83 {l:List G8} (hl:l.length≤1048576) (h:∀ x∈l,x.Rows.length≤1048576):Rw (l.map Gcc,(marks H5f).map H9.of) l=some true:=by
 unfold Rw
 exact J56 (keep:=Yb) (same:=Q6) (pl:=H9.pl) R26 hl (fun x hx=>Qd9 (h x hx)) (fun i hi=>H67 (H5f i))
theorem Y1e (l:List G8):(l.map Gcc).map H9.pl=l:=by
 rw [List.map_map]
 exact(List.map_congr_left (fun x _=>rfl)).trans (List.map_id l)
def Hc1 (i:Nat):Gf:=(Rf 1 (i:Int)).getD default
theorem Rb6 (i:Nat) (h:i < 12):Rf 1 (i:Int)=some (Hc1 i):=by
 unfold Hc1 Rf
 rw [mark_eq i h]; rfl
def H2e (x:Gf):Hm:={ Hm.of x with Steps:=(x.Steps,marks J9b) }
theorem R3c {x:Gf} (h:x.Steps.length≤1048576):G01 x=some (H2e x):=by
 unfold G01
 rw [J0d h]; rfl
theorem H98 (a:Gf):Qb a a=some true:=by
 unfold Qb
 simp [H99,bnd]
theorem R3f {x:Gf} (h:x.Steps.length≤1048576):Yp (H2e x) x=some true:=by
 have e1:Qb (Hm.pl (H2e x)) x=some true:=H98 x
 have e2:Ji (H2e x).Steps x.Steps=some true:=J0e h
 unfold Yp
 show bnd (Qb (Hm.pl (H2e x)) x) (fun r3=>bnd (bif r3 then Ji (H2e x).Steps x.Steps else some default) fun r4=>some (r3&&r4))=some true
 rw [e1,J29,cond_true,e2,J29]; rfl
theorem Qd5 {l:List Gf} (hl:l.length≤1048576) (h:∀ x∈l,x.Steps.length≤1048576):Zp l=some (l.map H2e,(marks Hc1).map Hm.of):=by
 unfold Zp
 exact J54 Hm.of Rb6 (by omega) (fun x hx=>R3c (h x hx)) hl
theorem Q4f (a:List Gf):Zo a a=some true:=by
 unfold Zo
 exact Hbe (fun i y nx h=>by rw [Z2 h,H98]; rfl)
theorem Qd8 {l:List Gf} (hl:l.length≤1048576) (h:∀ x∈l,x.Steps.length≤1048576):Ya (l.map H2e,(marks Hc1).map Hm.of) l=some true:=by
 unfold Ya
 exact J56 (keep:=Yp) (same:=Qb) (pl:=Hm.pl) Rb6 hl (fun x hx=>R3f (h x hx)) (fun i hi=>H98 (Hc1 i))
theorem Y4c (l:List Gf):(l.map H2e).map Hm.pl=l:=by
 rw [List.map_map]
 exact(List.map_congr_left (fun x _=>rfl)).trans (List.map_id l)
structure J23 (s:H0):Prop where
 cols:s.Columns.length≤1048576
 plugs:∀ c∈s.Columns,c.Plugs.length≤1048576
 covs:s.Covers.length≤1048576
 crows:∀ x∈s.Covers,x.Rows.length≤1048576
 rows:s.Rows.length≤1048576
 frames:s.Frames.length≤1048576
 tanks:s.Tanks.length≤1048576
 steps:∀ x∈s.Tanks,x.Steps.length≤1048576
def Hc2 (s:H0):Rq:=⟨(s.Columns.map G7c,(marks H08).map Gz.of),(s.Covers.map Gcc,(marks H5f).map H9.of),s.Light,(s.Rows,marks J9a),(s.Frames,marks H9f),(s.Tanks.map H2e,(marks Hc1).map Hm.of),s.G1⟩
theorem R3d {s:H0} (h:J23 s):Yo s=some (Hc2 s):=by
 unfold Yo
 rw [Q5f h.cols h.plugs,Q80 h.covs h.crows,R3e h.rows,Q7f h.frames,Qd5 h.tanks h.steps]
 rfl
theorem Y1d (s:H0):H0.mk ((Hc2 s).Columns.1.map Gz.pl) ((Hc2 s).Covers.1.map H9.pl) (Hc2 s).Light (Hc2 s).Rows.1 (Hc2 s).Frames.1 ((Hc2 s).Tanks.1.map Hm.pl) (Hc2 s).G1=s:=by
 show H0.mk ((s.Columns.map G7c).map Gz.pl) ((s.Covers.map Gcc).map H9.pl) s.Light s.Rows s.Frames ((s.Tanks.map H2e).map Hm.pl) s.G1=s
 rw [Red,Y1e,Y4c]
theorem Q79 (s:H0):Zz s s=some true:=by
 unfold Zz
 simp [Ja3,Je4,Q7a,Je3,Q4f,bnd]
theorem R40 {s:H0} (h:J23 s):Yq (Hc2 s) s=some true:=by
 have e1:=Q61 h.cols h.plugs
 have e2:=Q83 h.covs h.crows
 have e3:=R41 h.rows
 have e4:=Q82 h.frames
 have e5:=Qd8 h.tanks h.steps
 unfold Yq
 rw [Y1d,Q79,J29,cond_true]
 show bnd (Rj (s.Columns.map G7c,(marks H08).map Gz.of) s.Columns) _=_
 rw [e1,J29,Bool.and_self,cond_true]
 show bnd (Rw (s.Covers.map Gcc,(marks H5f).map H9.of) s.Covers) _=_
 rw [e2,J29,Bool.and_self,cond_true]
 show bnd (Yr (s.Rows,marks J9a) s.Rows) _=_
 rw [e3,J29,Bool.and_self,cond_true]
 show bnd (Rv (s.Frames,marks H9f) s.Frames) _=_
 rw [e4,J29,Bool.and_self,cond_true]
 show bnd (Ya (s.Tanks.map H2e,(marks Hc1).map Hm.of) s.Tanks) _=_
 rw [e5,J29]
 rfl

structure Y04 (c:G3):Prop where
  plugs:∀ p∈c.Plugs,0≤p∧p < c.Tiers
  sorted:c.Plugs.Pairwise (· < ·)
  place:0≤c.Bay∧c.Bay≤39∧0≤c.Row∧c.Row≤30∧1≤c.Tiers∧c.Tiers≤10∧0≤c.Height∧c.Height≤40000
  load:0≤c.Kilos20∧c.Kilos20≤500000000∧0≤c.Kilos40∧c.Kilos40≤500000000∧0≤c.Lash∧c.Lash≤1000000000000
  at_ : -500000≤c.X∧c.X≤500000 ∧ -500000≤c.Y∧c.Y≤500000 ∧ -500000≤c.Z∧c.Z≤500000
theorem Y4 {p:Prop} (h:¬ p):(false=true) ↔ p:=⟨fun e=>Bool.noConfusion e,fun hp=>(h hp).elim⟩
theorem Y7f {β:Type} {Q:β→Prop} {z:Int} {k:Int→Option β} (h:Wp (k (IntKind.i64.wrap z)) Q):Wp (wrp z k) Q:=h
theorem H19 {α:Type} {R:α→α→Prop} {l:List α} {x:α} (h:l.Pairwise R) (hx:∀ a∈l,R a x):(l++[x]).Pairwise R:=by
  rw [List.pairwise_append]
  refine⟨h,List.pairwise_singleton ..,fun a ha b hb=>?_⟩
  rw [Kv] at hb; subst hb
  exact hx a ha
theorem Jp {α:Type} {P:α→Prop} {l:List α} {x:α} (h1:∀ y∈l,P y) (h2:P x):∀ y∈l++[x],P y:=fun y hy=>by
  rcases Kt.1 hy with hy | hy
  · exact h1 y hy
  · rw [Kv.1 hy]; exact h2
theorem H1e {pre:List Int} {y p:Int} (h:pre.Pairwise (· < ·)) (hp:pre[pre.length - 1]? = some p) (hy:p < y):∀ a∈pre,a < y:=by
  rcases List.eq_nil_or_concat pre with rfl | ⟨q,z,rfl⟩
  · intro a ha; cases ha
  · rw [List.concat_eq_append] at *
    have hz:z=p:=by
      rw [Ko,Kp,show q.length+1 - 1=q.length by omega] at hp
      simpa using hp
    subst hz
    intro a ha
    rcases Kt.1 ha with ha | ha
    · have:=(List.pairwise_append.1 h).2.2 a ha z (by simp)
      omega
    · rw [Kv.1 ha]; exact hy
theorem Jd0 (l:List Hw):G73 l=some (l.all (fun x=>decide (x.low≤x.n)&&decide (x.n≤x.high))):=by
  refine Zd ?_
  unfold G73
  refine Jo (fun pre _=>pre.all (fun x=>decide (x.low≤x.n)&&decide (x.n≤x.high))=true) rfl (fun pre y post s nx e hI hnx=>He (fun h=>Gk ?_) (fun h=>hnx _ ?_)) (fun s hI=>Gk hI.symm)
  · symm
    rw [List.all_eq_false]
    refine⟨y,by rw [e]; simp,?_⟩
    simp only [Ky,Kr] at h
    simp only [Kq,Kr]
    omega
  · simp only [Kz,decide_eq_false_iff_not] at h
    rw [List.all_append,hI]
    simp only [List.all_cons,List.all_nil,Bool.and_true,Bool.true_and,Kq,Kr]
    omega
theorem J71 {pre post:List Int} {l:List Int} {y:Int} (e:l=pre++y::post) (hp:0 < pre.length):∃ p,l[pre.length - 1]? = some p∧pre[pre.length - 1]? = some p∧p∈pre:=by
  have h1:pre[pre.length - 1]? = some (pre[pre.length - 1]'(by omega)):=Ki (by omega)
  exact⟨_,by rw [e,List.getElem?_append_left (by omega)]; exact h1,h1,List.getElem_mem _⟩
theorem Rfd (c:G3) (hl:c.Plugs.length≤1048576):Wp (Gb3 c) (fun r=>r=true ↔ Y04 c):=by
  unfold Gb3
  have hw:1≤c.Tiers∧c.Tiers≤10→IntKind.i64.wrap (c.Tiers - 1)=c.Tiers - 1:=fun h=>Je8 (by omega) (by omega)
  refine Jo (fun pre _=>(∀ p∈pre,0≤p∧p≤IntKind.i64.wrap (c.Tiers - 1))∧pre.Pairwise (· < ·)) ⟨fun p hp=>(Km hp).elim,List.Pairwise.nil⟩ (fun pre y post s nx e hI hnx=>?_) (fun s hI=>?_)
  · obtain⟨hI1,hI2⟩:=hI
    have hym:y∈c.Plugs:=by rw [e]; simp
    have hpl:pre.length < c.Plugs.length:=by rw [e]; simp
    refine Y7f (Gu (Jd0 _) ?_)
    simp only [List.all_cons,List.all_nil,Bool.and_true]
    by_cases hy:0≤y∧y≤IntKind.i64.wrap (c.Tiers - 1)
    · rw [Kf hy.1,Kf hy.2]
      simp only [Bool.and_self,Bool.not_true,Bool.not_false,Bool.true_and,Bool.false_or]
      by_cases hp:0 < pre.length
      · obtain⟨p,hp1,hp2,hp3⟩:=J71 e hp
        have hwi:IntKind.i64.wrap ((pre.length:Int) - 1)=((pre.length - 1:Nat):Int):=by
          rw [Je8 (by omega) (by omega)]; omega
        rw [Kf (by omega:0 < (pre.length:Int)),cond_true]
        refine Gu (congrArg some hwi) (Gu ((Z2 hp1 some).trans rfl) ?_)
        simp only [Bool.true_and]
        refine He (fun h=>Gk (Y4 fun hc=>?_)) (fun h=>hnx _ ⟨Jp hI1 hy,H19 hI2 (H1e hI2 hp2 (by have:=Ke h; omega))⟩)
        have:=Kd h
        have hs:=hc.sorted
        rw [e] at hs
        have:=(List.pairwise_append.1 hs).2.2 p hp3 y (by simp)
        omega
      · have h0:pre=[]:=List.eq_nil_of_length_eq_zero (by omega)
        subst h0
        rw [Kg (by simp:¬ 0 < (([]:List Int).length:Int))]
        refine H8 (Gk (H8 (Gk ?_)))
        simp only [Bool.false_and,cond_false]
        exact hnx _ ⟨Jp hI1 hy,by simp⟩
    · have hf:(decide (0≤y)&&decide (y≤IntKind.i64.wrap (c.Tiers - 1)))=false:=by
        rw [Bool.and_eq_false_iff,decide_eq_false_iff_not,decide_eq_false_iff_not]
        omega
      rw [hf]
      simp only [Bool.not_false,Bool.not_true,Bool.false_and,cond_false,Bool.true_or,cond_true]
      refine H8 (Gk (H8 (Gk (Gk (Y4 fun hc=>hy ?_)))))
      have h1:=hc.plugs y hym
      have h2:=hc.place
      rw [hw (by omega)]
      omega
  · obtain⟨hI1,hI2⟩:=hI
    refine Gu (Jd0 _) (Gk ?_)
    simp only [List.all_cons,List.all_nil,Bool.and_true,Kq,Kr]
    constructor
    · rintro⟨a1,a2,a3,a4,a5,a6,a7,a8,a9,a10⟩
      have hw:=hw a3
      exact⟨fun p hp=>by have:=hI1 p hp; omega,hI2,by omega,by omega,by omega⟩
    · intro h
      obtain⟨_,_,b1,b2,b3⟩:=h
      omega
theorem Y4a (c:G3) (hl:c.Plugs.length≤1048576):Wp (Zx c) (fun r=>r=true ↔ Y04 c):=by
  unfold Zx
  refine Jo (fun pre _=>(∀ p∈pre,0≤p∧p < c.Tiers)∧pre.Pairwise (· < ·)) ⟨fun p hp=>(Km hp).elim,List.Pairwise.nil⟩ (fun pre y post s nx e hI hnx=>?_) (fun s hI=>?_)
  · obtain⟨hI1,hI2⟩:=hI
    have hym:y∈c.Plugs:=by rw [e]; simp
    have hpl:pre.length < c.Plugs.length:=by rw [e]; simp
    refine He (fun h=>Gk (Y4 fun hc=>?_)) (fun h=>?_)
    · simp only [Ky,Kr] at h
      have:=hc.plugs y hym
      omega
    · simp only [Kz,decide_eq_false_iff_not] at h
      have hy:0≤y∧y < c.Tiers:=by omega
      by_cases hp:0 < pre.length
      · obtain⟨p,hp1,hp2,hp3⟩:=J71 e hp
        rw [Kf (by omega:0 < (pre.length:Int)),cond_true]
        refine H8 (Zb ⟨by omega,by omega⟩ (Gk ?_))
        have hpi:(pre.length:Int) - 1=((pre.length - 1:Nat):Int):=by omega
        rw [hpi]
        refine Gu ((Z2 hp1 some).trans rfl) ?_
        simp only [Bool.true_and]
        refine He (fun h=>Gk (Y4 fun hc=>?_)) (fun h=>hnx _ ⟨Jp hI1 hy,H19 hI2 (H1e hI2 hp2 (by have:=Ke h; omega))⟩)
        have:=Kd h
        have hs:=hc.sorted
        rw [e] at hs
        have:=(List.pairwise_append.1 hs).2.2 p hp3 y (by simp)
        omega
      · have h0:pre=[]:=List.eq_nil_of_length_eq_zero (by omega)
        subst h0
        rw [Kg (by simp:¬ 0 < (([]:List Int).length:Int))]
        refine H8 (Gk (H8 (Gk ?_)))
        simp only [Bool.false_and,cond_false]
        exact hnx _ ⟨Jp hI1 hy,by simp⟩
  · obtain⟨hI1,hI2⟩:=hI
    have hwi:∀ n a b:Int,J2 n a b=some (decide (a≤n)&&decide (n≤b)):=fun _ _ _=>rfl
    have cnd:∀ (b:Bool) (n a z:Int),∃ r,(bif b then J2 n a z else some default)=some r∧(b&&r)=(b&&(decide (a≤n)&&decide (n≤z))):=fun b n a z=>by
      cases b
      · exact⟨_,rfl,rfl⟩
      · exact⟨_,rfl,rfl⟩
    refine Gu (hwi _ _ _) ?_
    obtain⟨r1,e1,q1⟩:=cnd (decide (-500000≤c.X)&&decide (c.X≤500000)) c.Y (-500000) 500000
    refine Gu e1 ?_
    rw [q1]
    obtain⟨r2,e2,q2⟩:=cnd (decide (-500000≤c.X)&&decide (c.X≤500000)&&(decide (-500000≤c.Y)&&decide (c.Y≤500000))) c.Z (-500000) 500000
    refine Gu e2 (Gu (hwi _ _ _) ?_)
    rw [q2]
    obtain⟨r3,e3,q3⟩:=cnd (decide (0≤c.Kilos20)&&decide (c.Kilos20≤500000000)) c.Kilos40 0 500000000
    refine Gu e3 ?_
    rw [q3]
    obtain⟨r4,e4,q4⟩:=cnd (decide (0≤c.Kilos20)&&decide (c.Kilos20≤500000000)&&(decide (0≤c.Kilos40)&&decide (c.Kilos40≤500000000))) c.Lash 0 1000000000000
    refine Gu e4 (Gu (hwi _ _ _) ?_)
    rw [q4]
    obtain⟨r5,e5,q5⟩:=cnd (decide (0≤c.Bay)&&decide (c.Bay≤39)) c.Row 0 30
    refine Gu e5 ?_
    rw [q5]
    obtain⟨r6,e6,q6⟩:=cnd (decide (0≤c.Bay)&&decide (c.Bay≤39)&&(decide (0≤c.Row)&&decide (c.Row≤30))) c.Tiers 1 10
    refine Gu e6 ?_
    rw [q6]
    obtain⟨r7,e7,q7⟩:=cnd (decide (0≤c.Bay)&&decide (c.Bay≤39)&&(decide (0≤c.Row)&&decide (c.Row≤30))&&(decide (1≤c.Tiers)&&decide (c.Tiers≤10))) c.Height 0 40000
    refine Gu e7 ?_
    rw [q7]
    refine Gk ?_
    simp only [Kq,Kr]
    constructor
    · rintro⟨⟨⟨⟨⟨a1,a2⟩,a3⟩,a4⟩,⟨b1,b2⟩,b3⟩,⟨d1,d2⟩,d3⟩
      exact⟨hI1,hI2,by omega,by omega,by omega⟩
    · intro h
      obtain⟨_,_,b1,b2,b3⟩:=h
      omega
def dk (b:Bool):Int:=bif b then 1 else 0
def k3 (c:G3):Hn:=⟨c.Bay,c.Row,dk c.Deck⟩
def x3 (x:G8):List Hn:=x.Rows.map fun r=>⟨x.Bay,r,2⟩
structure Y93 (x:G8):Prop where
  bay:0≤x.Bay∧x.Bay≤39
  some:x.Rows≠[]
  rows:∀ r∈x.Rows,0≤r∧r≤30
  sorted:x.Rows.Pairwise (· < ·)
structure H37 (s:H0):Prop where
  num:1≤s.Columns.length∧s.Columns.length≤200∧s.Covers.length≤40
  col:∀ c∈s.Columns,Y04 c
  cov:∀ x∈s.Covers,Y93 x
  nodup:(s.Columns.map k3++s.Covers.flatMap x3).Nodup
theorem Y1c {κ:Type} [DecidableEq κ] {m:Hr κ Int} {l:List κ} (h:Hr.l m=tally l) (a:κ):Hr.l (Hr.put m a (Hr.get m a 0+1))=tally (l++[a]):=by
  rw [Hbb]
  show H77 (Hr.l m) a ((G93 (Hr.l m) a).getD 0+1)=_
  rw [h]
theorem Y2a {κ:Type} [DecidableEq κ] {m:Hr κ Int} {l:List κ} (h:Hr.l m=tally l) (a:κ):0≤Hr.get m a 0∧Hr.get m a 0≤(l.length:Int):=by
  have:=R14 l a
  show 0≤(G93 (Hr.l m) a).getD 0∧_
  rw [h]
  exact⟨this.1,by show (G93 (Hr.l m) a).getD 0≤_; rw [h]; exact this.2⟩
theorem Y2b (l:List G8) (h:∀ x∈l,x.Rows.length≤1048576):(l.flatMap x3).length≤1048576*l.length:=by
  induction l with
  | nil=>simp
  | cons x l ih=>
    have h1:=h x (List.mem_cons_self ..)
    have h2:=ih (fun y hy=>h y (List.mem_cons_of_mem _ hy))
    rw [List.flatMap_cons,Ko,List.length_cons]
    have:(x3 x).length=x.Rows.length:=by simp [x3]
    omega
theorem Q22 (s:H0) (hp:∀ c∈s.Columns,c.Plugs.length≤1048576) (hr:∀ x∈s.Covers,x.Rows.length≤1048576):Wp (Gb0 s) (fun r=>r=true ↔ H37 s):=by
  unfold Gb0 H4c
  refine He (fun hc=>Gk (Y4 fun h=>?_)) (fun hc=>?_)
  · have:=h.num
    simp only [Ky,Kr] at hc
    omega
  simp only [Kz,decide_eq_false_iff_not] at hc
  have hn:1≤s.Columns.length∧s.Columns.length≤200∧s.Covers.length≤40:=by omega
  refine Jo (fun pre m=>Hr.l m=tally (pre.map k3)∧∀ c∈pre,Y04 c) ⟨rfl,fun c hc=>(Km hc).elim⟩ (fun pre y post m nx e hI hnx=>?_) (fun m hI=>?_)
  · obtain⟨hI1,hI2⟩:=hI
    have hym:y∈s.Columns:=by rw [e]; simp
    have hpl:pre.length < s.Columns.length:=by rw [e]; simp
    refine Gbe (fun j=>j=dk y.Deck) (fun K hK=>He (fun h=>hK _ (by rw [h]; rfl)) (fun h=>hK _ (by rw [h]; rfl))) (fun j hj=>?_)
    subst hj
    have hb:=Y2a hI1 (k3 y)
    rw [Ks] at hb
    refine Gu (x:=Hr.get m (k3 y) 0) rfl (Zb ⟨by omega,by omega⟩ (H8 (wp_mono (Rfd y (hp y hym)) (fun r hr=>He (fun h=>Gk (Y4 fun hs=>?_)) (fun h=>hnx _ ⟨?_,Jp hI2 ?_⟩)))))
    · rw [hr.2 (hs.col y hym)] at h; cases h
    · rw [List.map_append]; exact Y1c hI1 (k3 y)
    · cases r with
      | true=>exact hr.1 rfl
      | false=>cases h
  obtain⟨hI1,hI2⟩:=hI
  refine Jo (fun pre m=>Hr.l m=tally (s.Columns.map k3++pre.flatMap x3)∧∀ x∈pre,Y93 x) ⟨by simpa using hI1,fun c hc=>(Km hc).elim⟩ (fun pre y post m nx e hJ hnx=>?_) (fun m hJ=>?_)
  · obtain⟨hJ1,hJ2⟩:=hJ
    have hym:y∈s.Covers:=by rw [e]; simp
    have hpl:pre.length < s.Covers.length:=by rw [e]; simp
    refine He (fun hc=>Gk (Y4 fun h=>?_)) (fun hc=>?_)
    · have h1:=(h.cov y hym).bay
      have h2:=(h.cov y hym).some
      simp only [Ky,Kr] at hc
      have:y.Rows.length≠0:=fun h=>h2 (List.length_eq_zero_iff.1 h)
      omega
    simp only [Kz,decide_eq_false_iff_not] at hc
    have hne:y.Rows≠[]:=fun h=>by rw [h] at hc; simp at hc
    have hfl:=Y2b pre (fun x hx=>hr x (by rw [e]; exact Kt.2 (.inl hx)))
    have hrl:=hr y hym
    refine Jo (fun pr m=>Hr.l m=tally (s.Columns.map k3++pre.flatMap x3++pr.map (fun r=>(⟨y.Bay,r,2⟩:Hn)))∧(∀ r∈pr,0≤r∧r≤30)∧pr.Pairwise (· < ·)) ⟨by simpa using hJ1,fun c hc=>(Km hc).elim,List.Pairwise.nil⟩ (fun pr r pos m nx' e' hK hnx'=>?_) (fun m hK=>hnx _ ⟨?_,Jp hJ2 ⟨by omega,hne,hK.2.1,hK.2.2⟩⟩)
    · obtain⟨hK1,hK2,hK3⟩:=hK
      have hrm:r∈y.Rows:=by rw [e']; simp
      have hprl:pr.length < y.Rows.length:=by rw [e']; simp
      have go:0≤r∧r≤30→(∀ a∈pr,a < r)→Wp (bnd (some (Hr.get m ⟨y.Bay,r,2⟩ 0)) fun v167=>chk (v167+1) fun v168=>nx' (Hr.put m ⟨y.Bay,r,2⟩ v168)) (fun r=>r=true ↔ H37 s):=fun h1 h2=>by
        have hb:=Y2a hK1 ⟨y.Bay,r,2⟩
        simp only [Ko,Ks] at hb
        refine H8 (Gk (Zb ⟨by omega,by omega⟩ (hnx' _ ⟨?_,Jp hK2 h1,H19 hK3 h2⟩)))
        rw [List.map_append,← List.append_assoc]
        exact Y1c hK1 ⟨y.Bay,r,2⟩
      by_cases hrr:0≤r∧r≤30
      · have hok:(decide (r < 0)||decide (30 < r))=false:=by simp; omega
        simp only [hok,Bool.not_false,Bool.true_and,Bool.false_or]
        by_cases hp0:0 < pr.length
        · obtain⟨p,hp1,hp2,hp3⟩:=J71 e' hp0
          rw [Kf (by omega:0 < (pr.length:Int)),cond_true]
          refine H8 (Zb ⟨by omega,by omega⟩ (Gk ?_))
          have hpi:(pr.length:Int) - 1=((pr.length - 1:Nat):Int):=by omega
          rw [hpi]
          refine Gu ((Z2 hp1 some).trans rfl) ?_
          simp only [Bool.true_and]
          refine He (fun h=>Gk (Y4 fun hc=>?_)) (fun h=>go hrr (H1e hK3 hp2 (by have:=Ke h; omega)))
          have:=Kd h
          have hs:=(hc.cov y hym).sorted
          rw [e'] at hs
          have:=(List.pairwise_append.1 hs).2.2 p hp3 r (by simp)
          omega
        · have h0:pr=[]:=List.eq_nil_of_length_eq_zero (by omega)
          subst h0
          rw [Kg (by simp:¬ 0 < (([]:List Int).length:Int))]
          refine H8 (Gk (H8 (Gk ?_)))
          simp only [Bool.false_and,cond_false]
          exact go hrr (fun a ha=>(Km ha).elim)
      · have hok:(decide (r < 0)||decide (30 < r))=true:=by simp; omega
        simp only [hok,Bool.not_true,Bool.false_and,cond_false,Bool.true_or,cond_true]
        exact H8 (Gk (H8 (Gk (Gk (Y4 fun hc=>hrr ((hc.cov y hym).rows r hrm))))))
    · rw [List.flatMap_append,← List.append_assoc]
      simpa [x3] using hK.1
  · obtain⟨hJ1,hJ2⟩:=hJ
    rw [J6f (c:=fun x:Hn×Int=>decide (1 < x.2))]
    refine Gk ?_
    have hiff:(Hr.l m).any (fun x=>decide (1 < x.2))=false ↔ (s.Columns.map k3++s.Covers.flatMap x3).Nodup:=by
      rw [← Qc0,hJ1,List.any_eq_false]
      constructor
      · intro h j a n hj
        have:=h (a,n) (Kk hj)
        simp only [Kr] at this
        omega
      · intro h x hx
        obtain⟨j,hj⟩:=List.mem_iff_getElem?.1 hx
        have:=h j x.1 x.2 hj
        simp only [Kr]
        omega
    cases hany:(Hr.l m).any (fun x=>decide (1 < x.2)) with
    | true=>
      refine Y4 fun h=>?_
      rw [hiff.2 h.nodup] at hany; cases hany
    | false=>exact⟨fun _=>⟨hn,hI2,hJ2,hiff.1 hany⟩,fun _=>rfl⟩
theorem Q36 (rows:List Int) (row:Int):Qn rows row=some (rows.any (fun r=>decide (r=row))):=by
  refine Zd ?_
  unfold Qn
  refine Jo (fun pre _=>pre.any (fun r=>decide (r=row))=false) rfl (fun pre y post s nx e hI hnx=>He (fun h=>Gk ?_) (fun h=>hnx _ ?_)) (fun s hI=>Gk hI.symm)
  · symm
    exact List.any_eq_true.2 ⟨y,by rw [e]; simp,h⟩
  · rw [List.any_append,hI]
    simp only [List.any_cons,List.any_nil,Bool.or_false,Bool.false_or,h]
theorem R8b {α:Type} {l:List α} {x:α} (h:l.Nodup) (hx:x ∉ l):(l++[x]).Nodup:=by
  rw [List.nodup_append]
  refine⟨h,by simp,fun a ha b hb=>?_⟩
  rw [Kv.1 hb]
  exact fun e=>hx (e ▸ ha)
theorem Yb5 {a b:G3}:k3 a=k3 b ↔ a.Bay=b.Bay∧a.Row=b.Row∧a.Deck=b.Deck:=by
  unfold k3
  rw [Hn.mk.injEq]
  have:dk a.Deck=dk b.Deck ↔ a.Deck=b.Deck:=by cases a.Deck <;> cases b.Deck <;> decide
  rw [this]
theorem Re7 {F:Nat} (s:H0) (hp:∀ c∈s.Columns,c.Plugs.length≤1048576) (hr:∀ x∈s.Covers,x.Rows.length≤1048576):Wp (G0c F s) (fun r=>r=true ↔ H37 s):=by
  unfold G0c
  refine Gu (x:=decide (1≤(s.Columns.length:Int))&&decide ((s.Columns.length:Int)≤200)) rfl (He (fun hc=>Gk (Y4 fun h=>?_)) (fun hc=>?_))
  · have:=h.num
    simp only [Ky,Bool.not_eq_true',Bool.and_eq_false_iff,Kr,decide_eq_false_iff_not] at hc
    omega
  simp only [Kz,Bool.not_eq_false',Kq,Kr,decide_eq_false_iff_not] at hc
  have hn:1≤s.Columns.length∧s.Columns.length≤200∧s.Covers.length≤40:=by omega
  refine Jo (fun pre _=>(pre.map k3).Nodup∧∀ c∈pre,Y04 c) ⟨List.nodup_nil,fun c hc=>(Km hc).elim⟩ (fun pre y post u nx e hI hnx=>?_) (fun u hI=>?_)
  · obtain⟨hI1,hI2⟩:=hI
    have hym:y∈s.Columns:=by rw [e]; simp
    have hpl:pre.length < s.Columns.length:=by rw [e]; simp
    refine H8 (wp_mono (Y4a y (hp y hym)) (fun r hr=>He (fun h=>Gk (Y4 fun hs=>?_)) (fun h=>?_)))
    · rw [hr.2 (hs.col y hym)] at h; cases h
    have hcy:Y04 y:=by
      cases r with
      | true=>exact hr.1 rfl
      | false=>cases h
    refine R6 (Kf (by omega)) ?_
    rw [show (pre.length:Int).toNat=pre.length by omega]
    refine Haf (fun i _=>∀ (k:Nat) c,k < i→pre[k]? = some c→k3 c≠k3 y) (fun k c hk=>by omega) (fun i u nx2 hi hJ hnx2=>?_) (fun u hJ=>hnx _ ⟨?_,Jp hI2 hcy⟩)
    · have hx:pre[i]? = some (pre[i]'hi):=Ki hi
      have hsx:s.Columns[i]? = some (pre[i]'hi):=by rw [e,List.getElem?_append_left hi]; exact hx
      generalize pre[i]'hi=z at hx hsx
      rw [Z2 hsx]
      have hcond:∃ b,(bif decide (z.Bay=y.Bay) then Qm s.Columns (i:Int) some else some default)=some b∧(decide (z.Bay=y.Bay)&&decide (b.Row=y.Row))=(decide (z.Bay=y.Bay)&&decide (z.Row=y.Row)):=by
        cases decide (z.Bay=y.Bay)
        · exact⟨_,rfl,rfl⟩
        · exact⟨z,Z2 hsx some,rfl⟩
      obtain⟨b,e1,q1⟩:=hcond
      refine Gu e1 ?_
      rw [q1]
      have hcond:∃ b,(bif (decide (z.Bay=y.Bay)&&decide (z.Row=y.Row)) then Qm s.Columns (i:Int) some else some default)=some b∧((decide (z.Bay=y.Bay)&&decide (z.Row=y.Row))&&(b.Deck==y.Deck))=((decide (z.Bay=y.Bay)&&decide (z.Row=y.Row))&&(z.Deck==y.Deck)):=by
        cases (decide (z.Bay=y.Bay)&&decide (z.Row=y.Row))
        · exact⟨_,rfl,rfl⟩
        · exact⟨z,Z2 hsx some,rfl⟩
      obtain⟨b2,e2,q2⟩:=hcond
      refine Gu e2 ?_
      rw [q2]
      have hk:((decide (z.Bay=y.Bay)&&decide (z.Row=y.Row))&&(z.Deck==y.Deck))=true ↔ k3 z=k3 y:=by
        rw [Yb5]
        simp only [Kq,Kr,beq_iff_eq,and_assoc]
      refine He (fun h=>Gk (Y4 fun hs=>?_)) (fun h=>hnx2 _ (fun k c hk2 hc2=>?_))
      · have h1:=hs.nodup
        rw [e,List.map_append] at h1
        have h2:=(List.nodup_append.1 (List.nodup_append.1 h1).1).2.2 (k3 z) (Ku.2 ⟨z,Kk hx,rfl⟩) (k3 y) (by simp)
        exact h2 (hk.1 h)
      · by_cases hki:k < i
        · exact hJ k c hki hc2
        · have:k=i:=by omega
          subst this
          rw [hx] at hc2
          cases hc2
          intro h3
          rw [hk.2 h3] at h; cases h
    · rw [List.map_append]
      refine R8b hI1 (fun hm=>?_)
      obtain⟨c,hc,h3⟩:=Ku.1 hm
      obtain⟨k,hk⟩:=List.mem_iff_getElem?.1 hc
      exact hJ k c (Kh hk).1 hk h3
  obtain⟨hI1,hI2⟩:=hI
  refine Jo (fun pre _=>(pre.flatMap x3).Nodup∧∀ x∈pre,Y93 x) ⟨List.nodup_nil,fun c hc=>(Km hc).elim⟩ (fun pre y post u nx e hJ hnx=>?_) (fun u hJ=>Gk ⟨fun _=>⟨hn,hI2,hJ.2,?_⟩,fun _=>rfl⟩)
  · obtain⟨hJ1,hJ2⟩:=hJ
    have hym:y∈s.Covers:=by rw [e]; simp
    have hpl:pre.length < s.Covers.length:=by rw [e]; simp
    refine Gu (x:=decide (0≤y.Bay)&&decide (y.Bay≤39)) rfl (He (fun hc=>Gk (Y4 fun h=>?_)) (fun hc=>?_))
    · have h1:=(h.cov y hym).bay
      have h2:=(h.cov y hym).some
      simp only [Ky,Bool.not_eq_true',Bool.and_eq_false_iff,Kr,decide_eq_false_iff_not] at hc
      have:y.Rows.length≠0:=fun h=>h2 (List.length_eq_zero_iff.1 h)
      omega
    simp only [Kz,Bool.not_eq_false',Kq,Kr,decide_eq_false_iff_not] at hc
    have hne:y.Rows≠[]:=fun h=>by rw [h] at hc; simp at hc
    refine Jo (fun pr _=>(∀ r∈pr,0≤r∧r≤30)∧pr.Pairwise (· < ·)∧∀ r∈pr,(⟨y.Bay,r,2⟩:Hn) ∉ pre.flatMap x3) ⟨fun c hc=>(Km hc).elim,List.Pairwise.nil,fun c hc=>(Km hc).elim⟩ (fun pr r pos u nx' e' hK hnx'=>?_) (fun u hK=>hnx _ ⟨?_,Jp hJ2 ⟨hc.1,hne,hK.1,hK.2.1⟩⟩)
    · obtain⟨hK1,hK2,hK3⟩:=hK
      have hrm:r∈y.Rows:=by rw [e']; simp
      have hprl:pr.length < y.Rows.length:=by rw [e']; simp
      have hrl:=hr y hym
      refine Gu (x:=decide (0≤r)&&decide (r≤30)) rfl ?_
      have go:0≤r∧r≤30→(∀ a∈pr,a < r)→Wp (need (decide ((pre.length:Int)≤9223372036854775807)) <|
              upto (fun i84 (s84:Unit) nx84=>
                Qm s.Covers (i84:Int) fun y89=>
                bnd (bif decide (y89.Bay=y.Bay) then Qm s.Covers (i84:Int) some else some default) fun y91=>
                bnd (bif decide (y89.Bay=y.Bay) then Qn y91.Rows r else some default) fun r92=>
                bif ((decide (y89.Bay=y.Bay))&&r92) then
                (some false)
                else
                (nx84 ()))
              (fun(s84:Unit)=>
                nx' ()) (pre.length:Int).toNat 0 ()) (fun r=>r=true ↔ H37 s):=fun h1 h2=>by
        refine R6 (Kf (by omega)) ?_
        rw [show (pre.length:Int).toNat=pre.length by omega]
        refine Haf (fun i _=>∀ (k:Nat) x,k < i→pre[k]? = some x→(⟨y.Bay,r,2⟩:Hn) ∉ x3 x) (fun k c hk=>by omega) (fun i u nx2 hi hJ hnx2=>?_) (fun u hJ=>hnx' _ ⟨Jp hK1 h1,H19 hK2 h2,Jp hK3 (fun hm=>?_)⟩)
        · have hx:pre[i]? = some (pre[i]'hi):=Ki hi
          have hsx:s.Covers[i]? = some (pre[i]'hi):=by rw [e,List.getElem?_append_left hi]; exact hx
          generalize pre[i]'hi=z at hx hsx
          rw [Z2 hsx]
          have hcond:∃ b c,(bif decide (z.Bay=y.Bay) then Qm s.Covers (i:Int) some else some default)=some b∧(bif decide (z.Bay=y.Bay) then Qn b.Rows r else some default)=some c∧(decide (z.Bay=y.Bay)&&c)=(decide (z.Bay=y.Bay)&&z.Rows.any (fun q=>decide (q=r))):=by
            cases decide (z.Bay=y.Bay)
            · exact⟨_,_,rfl,rfl,rfl⟩
            · exact⟨z,_,Z2 hsx some,Q36 _ _,rfl⟩
          obtain⟨b,c,e1,e2,q1⟩:=hcond
          refine Gu e1 (Gu e2 ?_)
          rw [q1]
          have hk:(decide (z.Bay=y.Bay)&&z.Rows.any (fun q=>decide (q=r)))=true ↔ (⟨y.Bay,r,2⟩:Hn)∈x3 z:=by
            unfold x3
            simp only [Kq,Kr,List.any_eq_true,Ku,Hn.mk.injEq]
            constructor
            · rintro⟨h1,q,h2,h3⟩; exact⟨q,h2,h1,h3,trivial⟩
            · rintro⟨q,h2,h1,h3,_⟩; exact⟨h1,q,h2,h3⟩
          refine He (fun h=>Gk (Y4 fun hs=>?_)) (fun h=>hnx2 _ (fun k c hk2 hc2=>?_))
          · have h1:=(List.nodup_append.1 hs.nodup).2.1
            rw [e,List.flatMap_append,List.flatMap_cons] at h1
            have h2:=(List.nodup_append.1 h1).2.2 ⟨y.Bay,r,2⟩ (List.mem_flatMap.2 ⟨z,Kk hx,hk.1 h⟩) ⟨y.Bay,r,2⟩ (Kt.2 (.inl (Ku.2 ⟨r,hrm,rfl⟩)))
            exact h2 rfl
          · by_cases hki:k < i
            · exact hJ k c hki hc2
            · have:k=i:=by omega
              subst this
              rw [hx] at hc2
              cases hc2
              intro h3
              rw [hk.2 h3] at h; cases h
        · obtain⟨x,hx,hm⟩:=List.mem_flatMap.1 hm
          obtain⟨k,hk⟩:=List.mem_iff_getElem?.1 hx
          exact hJ k x (Kh hk).1 hk hm
      by_cases hrr:0≤r∧r≤30
      · have hok:(decide (0≤r)&&decide (r≤30))=true:=by simp; omega
        simp only [hok,Bool.not_true,Bool.not_false,Bool.true_and,Bool.false_or]
        by_cases hp0:0 < pr.length
        · obtain⟨p,hp1,hp2,hp3⟩:=J71 e' hp0
          rw [Kf (by omega:0 < (pr.length:Int)),cond_true]
          refine H8 (Zb ⟨by omega,by omega⟩ (Gk ?_))
          have hpi:(pr.length:Int) - 1=((pr.length - 1:Nat):Int):=by omega
          rw [hpi]
          refine Gu ((Z2 hp1 some).trans rfl) ?_
          simp only [Bool.true_and]
          refine He (fun h=>Gk (Y4 fun hc=>?_)) (fun h=>go hrr (H1e hK2 hp2 (by have:=Ke h; omega)))
          have:=Kd h
          have hs:=(hc.cov y hym).sorted
          rw [e'] at hs
          have:=(List.pairwise_append.1 hs).2.2 p hp3 r (by simp)
          omega
        · have h0:pr=[]:=List.eq_nil_of_length_eq_zero (by omega)
          subst h0
          rw [Kg (by simp:¬ 0 < (([]:List Int).length:Int))]
          refine H8 (Gk (H8 (Gk ?_)))
          simp only [Bool.false_and,cond_false]
          exact go hrr (fun a ha=>(Km ha).elim)
      · have hok:(decide (0≤r)&&decide (r≤30))=false:=by
          rw [Bool.and_eq_false_iff,decide_eq_false_iff_not,decide_eq_false_iff_not]; omega
        simp only [hok,Bool.not_true,Bool.not_false,Bool.false_and,cond_false,Bool.true_or,cond_true]
        exact H8 (Gk (H8 (Gk (Gk (Y4 fun hc=>hrr ((hc.cov y hym).rows r hrm))))))
    · rw [List.flatMap_append,List.flatMap_cons,List.flatMap_nil,List.append_nil]
      refine List.nodup_append.2 ⟨hJ1,?_,fun a ha b hb hab=>?_⟩
      · refine List.pairwise_map.2 (hK.2.1.imp (fun {a b} h he=>?_))
        rw [Hn.mk.injEq] at he
        omega
      · obtain⟨r,hr,rfl⟩:=Ku.1 hb
        subst hab
        exact hK.2.2 r hr ha
  · refine List.nodup_append.2 ⟨hI1,hJ.1,fun a ha b hb hab=>?_⟩
    obtain⟨c,_,rfl⟩:=Ku.1 ha
    obtain⟨x,_,hb⟩:=List.mem_flatMap.1 hb
    obtain⟨r,_,rfl⟩:=Ku.1 hb
    unfold k3 dk at hab
    rw [Hn.mk.injEq] at hab
    cases hd:c.Deck <;> rw [hd] at hab <;> simp at hab
theorem J70 {n k:Nat} (hn:n≤1000001) (hk:k≤1000):decide (n*k≤140737488355328∧n≤maxLen)=true:=by
  have h:n*k≤1000001*1000:=Nat.mul_le_mul hn hk
  have h2:n≤maxLen:=Nat.le_trans hn (by decide)
  exact Kf ⟨by omega,h2⟩
theorem G9b {α β:Type} {x:α} {k:α→Option β}:bnd (some x) k=k x:=rfl
def Hc4 {α:Type} (p:α→Bool) (l:List α):Int:=match l.findIdx? p with
  | some j=>(j:Int)
  | none => -1
theorem H65 {α:Type} {p:α→Bool} {f:α→Option Bool} {xs:List α} (hf:∀ x∈xs,f x=some (p x)) :
    each (fun y i (_:Unit) nx=>bnd (f y) fun r=>bif r then some (i:Int) else nx ()) (fun _=>some (-1)) xs 0 ()=some (Hc4 p xs):=by
  have key:∀ (xs:List α),(∀ x∈xs,f x=some (p x))→∀ i:Nat,each (fun y i (_:Unit) nx=>bnd (f y) fun r=>bif r then some (i:Int) else nx ()) (fun _=>some (-1)) xs i ()=some (match xs.findIdx? p with
    | some j=>((i+j:Nat):Int)
    | none => -1):=by
    intro xs
    induction xs with
    | nil=>intro _ i; rfl
    | cons x xs ih=>
      intro hf i
      rw [each,hf x (List.mem_cons_self ..),G9b,List.findIdx?_cons]
      cases p x with
      | true=>simp
      | false=>
        simp only [cond_false]
        rw [ih (fun y hy=>hf y (List.mem_cons_of_mem _ hy)) (i+1)]
        cases xs.findIdx? p with
        | none=>simp
        | some j=>show some (((i+1+j:Nat)):Int)=some (((i+(j+1):Nat)):Int); rw [show i+1+j=i+(j+1) by omega]
  rw [key xs hf 0]
  unfold Hc4
  cases xs.findIdx? p <;> simp
theorem G4b {α:Type} (p:α→Bool) (l:List α):(Hc4 p l = -1∧(∀ x∈l,p x=false)∧l.find? p=none)∨∃ (m:Nat) (x:α),Hc4 p l=(m:Int)∧l[m]? = some x∧p x=true∧l.find? p=some x:=by
  unfold Hc4
  cases h:l.findIdx? p with
  | none=>
    have:=List.findIdx?_eq_none_iff.1 h
    exact .inl ⟨rfl,this,List.find?_eq_none.2 (fun x hx=>by rw [this x hx]; simp)⟩
  | some j=>
    obtain⟨hj,h1,h2⟩:=List.findIdx?_eq_some_iff_getElem.1 h
    refine .inr ⟨j,l[j],rfl,by simp [hj],h1,?_⟩
    refine List.find?_eq_some_iff_getElem.2 ⟨h1,j,hj,rfl,fun k hk=>?_⟩
    simpa using h2 k hk
theorem G9a {α:Type} {p:α→Bool} {l:List α}:decide (0≤Hc4 p l)=l.any p:=by
  rcases G4b p l with ⟨h1,h2,_⟩ | ⟨m,x,h1,h2,h3,_⟩
  · rw [h1]
    refine Eq.symm (List.any_eq_false.2 fun x hx=>?_)
    rw [h2 x hx]; exact Bool.false_ne_true
  · rw [h1,Kf (by omega)]
    exact(List.any_eq_true.2 ⟨x,Kk h2,h3⟩).symm
def Yj (boxes:List Box) (id:Int):Option Box:=boxes.find? (fun b=>decide (b.ID=id))
theorem Gd6 (boxes:List Box) (id:Int):G62 boxes id=some (match Yj boxes id with
    | some b=>(b,true)
    | none=>(Box.mk 0 ByteArray.empty 0 false 0 0 0 0 false,false)):=by
  unfold G62
  have h:G18 boxes (fun z0=>Gc9 z0 id)=some (Hc4 (fun b:Box=>decide (b.ID=id)) boxes):=H65 (fun x _=>rfl)
  rw [h]
  simp only [G9b]
  unfold Yj
  rcases G4b (fun b:Box=>decide (b.ID=id)) boxes with ⟨h1,_,h3⟩ | ⟨m,x,h1,h2,_,h4⟩
  · rw [h1,h3]; rfl
  · rw [h1,h4,Kg (by omega),cond_false]
    unfold Qm
    rw [Kf (by omega),cond_true,show (m:Int).toNat=m by omega,h2]
    rfl
def Q3f (l:List Stowed) (id:Int):Option Stowed:=l.find? (fun x=>decide (x.Box=id))
def G5f (size:Int):List Int:=if size=40 then [0] else if size=20 then [1,2] else []
theorem Jcb (size:Int):G6b size=some (G5f size):=by
  unfold G6b G5f
  by_cases h:size=40
  · simp [h]
  · by_cases h2:size=20
    · simp [h2]
    · simp [h,h2]
theorem Rfc (l:List Int) (v:Int):G03 l v=some (l.any (fun y=>decide (v=y))):=by
  unfold G03
  have h:G33 l v=some (Hc4 (fun y=>decide (v=y)) l):=by
    unfold G33
    exact H65 (f:=fun y=>some (decide (v=y))) (fun x _=>rfl)
  rw [h]
  simp only [G9b]
  rw [G9a]
theorem Qcc (l:List Slot) (v:Slot):Z9 l v=some (l.any (fun y=>decide (v=y))):=by
  unfold Z9
  have h:G0e l v=some (Hc4 (fun y=>decide (v=y)) l):=by
    unfold G0e
    exact H65 (f:=fun y=>some (decide (v=y))) (fun x _=>rfl)
  rw [h]
  simp only [G9b]
  rw [G9a]
structure Zt (s:H0) (x:Slot) (size:Int):Prop where
  col:∃ (m:Nat) (c:G3),x.G3=(m:Int)∧s.Columns[m]? = some c∧x.Tier < c.Tiers
  tier:0≤x.Tier
  half:x.Half∈G5f size
theorem Q20 (s:H0) (x:Slot) (size:Int):Wp (Gb2 s x size) (fun r=>r=true ↔ Zt s x size):=by
  unfold Gb2
  by_cases h0:0≤x.G3∧x.G3 < (s.Columns.length:Int)
  · by_cases h1:0≤x.Tier
    · obtain⟨m,hm⟩:∃ m:Nat,x.G3=(m:Int):=⟨x.G3.toNat,by omega⟩
      have hml:m < s.Columns.length:=by omega
      have hc:s.Columns[m]? = some s.Columns[m]:=by simp [hml]
      have e:(((decide (0≤x.G3))&&(decide (x.G3 < (s.Columns.length:Int))))&&(decide (0≤x.Tier)))=true:=by simp [h0.1,h0.2,h1]
      simp only [e,cond_true,Bool.true_and]
      refine H8 (Yh hm hc (Gk ?_))
      by_cases h2:x.Tier < (s.Columns[m]).Tiers
      · rw [Kf h2]
        simp only [cond_true]
        refine Gu (Jcb size) (Gu (Rfc _ _) (Gk ?_))
        rw [Bool.true_and,List.any_eq_true]
        constructor
        · rintro⟨y,hy,he⟩
          have:=Kd he
          subst this
          exact⟨⟨m,_,hm,hc,h2⟩,h1,hy⟩
        · exact fun h=>⟨_,h.half,by simp⟩
      · rw [Kg h2]
        simp only [cond_false,Bool.false_and]
        refine H8 (Gk (H8 (Gk (Gk ⟨fun h=>(by cases h),fun h=>?_⟩))))
        obtain⟨m',c,g1,g2,g3⟩:=h.col
        have:m'=m:=by omega
        subst this
        rw [hc] at g2; cases g2
        exact(h2 g3).elim
    · simp only [Kg h1,Bool.and_false,cond_false,Bool.false_and]
      exact H8 (Gk (H8 (Gk (H8 (Gk (Gk ⟨fun h=>(by cases h),fun h=>(h1 h.tier).elim⟩))))))
  · have e:((decide (0≤x.G3))&&(decide (x.G3 < (s.Columns.length:Int))))=false:=by
      by_cases h:0≤x.G3
      · have:¬ x.G3 < (s.Columns.length:Int):=fun g=>h0 ⟨h,g⟩
        simp [this]
      · simp [h]
    simp only [e,Bool.false_and,cond_false]
    refine H8 (Gk (H8 (Gk (H8 (Gk (Gk ⟨fun h=>(by cases h),fun h=>?_⟩))))))
    obtain⟨m,c,g1,g2,_⟩:=h.col
    have:=(Kh g2).1
    exact(h0 (by omega)).elim
def below (l:List Slot) (x:Slot) (half:Int):Prop:=(⟨x.G3,x.Tier - 1,half⟩:Slot)∈l
def H2a (x:Slot) (l:List Slot):Prop:=x.Tier≤0∨below l x x.Half∨(x.Half=0∧below l x 1∧below l x 2)
theorem J4d (half:Int) (l:List Slot) (x:Slot) (ht : -1000000≤x.Tier∧x.Tier≤1000000):Wp (G6c half l x) (fun r=>r=true ↔ below l x half):=by
  unfold G6c
  refine Zb ⟨by omega,by omega⟩ (Gu (Qcc _ _) (Gk ?_))
  rw [List.any_eq_true]
  constructor
  · rintro⟨y,hy,he⟩
    have:=Kd he
    subst this
    exact hy
  · exact fun h=>⟨_,h,by simp⟩
theorem Q97 (x:Slot) (l:List Slot) (ht : -1000000≤x.Tier∧x.Tier≤1000000):Wp (Ge2 x l) (fun r=>r=true ↔ H2a x l):=by
  unfold Ge2 H2a
  refine He (fun h=>Gk ⟨fun _=>.inl (Kd h),fun _=>rfl⟩) (fun h=>?_)
  have h0:=Ke h
  refine H8 (wp_mono (J4d x.Half l x ht) (fun r7 h7=>?_))
  cases r7 with
  | true=>
    simp only [Bool.not_true,Bool.false_and,cond_false,Bool.true_or]
    exact H8 (Gk (H8 (Gk (Gk ⟨fun _=>.inr (.inl (h7.1 rfl)),fun _=>rfl⟩))))
  | false=>
    have h7':¬ below l x x.Half:=fun h=>by have:=h7.2 h; cases this
    simp only [Bool.not_false,Bool.true_and,Bool.false_or]
    by_cases hh:x.Half=0
    · rw [Kf hh]
      simp only [cond_true,Bool.true_and]
      refine H8 (wp_mono (J4d 1 l x ht) (fun r8 h8=>?_))
      cases r8 with
      | true=>
        simp only [cond_true,Bool.true_and]
        refine H8 (wp_mono (J4d 2 l x ht) (fun r9 h9=>Gk ⟨fun h=>.inr (.inr ⟨hh,h8.1 rfl,h9.1 h⟩),fun h=>?_⟩))
        rcases h with h | h | ⟨_,_,h⟩
        · exact(h0 h).elim
        · exact(h7' h).elim
        · exact h9.2 h
      | false=>
        simp only [cond_false,Bool.false_and]
        refine H8 (Gk (Gk ⟨fun h=>(by cases h),fun h=>?_⟩))
        rcases h with h | h | ⟨_,h,_⟩
        · exact(h0 h).elim
        · exact(h7' h).elim
        · have:=h8.2 h; cases this
    · rw [Kg hh]
      simp only [cond_false,Bool.false_and]
      refine H8 (Gk (H8 (Gk (Gk ⟨fun h=>(by cases h),fun h=>?_⟩))))
      rcases h with h | h | ⟨h,_⟩
      · exact(h0 h).elim
      · exact(h7' h).elim
      · exact(hh h).elim
def G8c (a b:Int):Prop:=a=b∨a=0∨b=0
theorem Jca (a b:Int):Wp (G87 a b) (fun r=>r=true ↔ G8c a b):=by
  unfold G87 G8c
  refine Gk ?_
  simp [or_assoc]
def Gc2 (a b:Slot):Prop:=a.G3=b.G3∧a.Tier=b.Tier∧G8c a.Half b.Half
theorem Q96 (a b:Slot):Wp (Ge1 a b) (fun r=>r=true ↔ Gc2 a b):=by
  unfold Ge1 Gc2
  by_cases h:a.G3=b.G3∧a.Tier=b.Tier
  · simp only [Kf h.1,Kf h.2,Bool.and_self,cond_true,Bool.true_and]
    exact H8 (wp_mono (Jca _ _) (fun r hr=>Gk ⟨fun e=>⟨h.1,h.2,hr.1 e⟩,fun e=>hr.2 e.2.2⟩))
  · have e:(decide (a.G3=b.G3)&&decide (a.Tier=b.Tier))=false:=by
      by_cases h1:a.G3=b.G3
      · have:¬ a.Tier=b.Tier:=fun h2=>h ⟨h1,h2⟩
        simp [this]
      · simp [h1]
    simp only [e,cond_false,Bool.false_and]
    exact H8 (Gk (Gk ⟨fun e=>(by cases e),fun e=>(h ⟨e.1,e.2.1⟩).elim⟩))
def H24 (a b:Slot):Prop:=a.G3=b.G3∧b.Tier < a.Tier∧G8c a.Half b.Half
theorem Rdf (a b:Slot):Wp (H26 a b) (fun r=>r=true ↔ H24 a b):=by
  unfold H26 H24
  by_cases h:a.G3=b.G3∧b.Tier < a.Tier
  · simp only [Kf h.1,Kf h.2,Bool.and_self,cond_true,Bool.true_and]
    exact H8 (wp_mono (Jca _ _) (fun r hr=>Gk ⟨fun e=>⟨h.1,h.2,hr.1 e⟩,fun e=>hr.2 e.2.2⟩))
  · have e:(decide (a.G3=b.G3)&&decide (b.Tier < a.Tier))=false:=by
      by_cases h1:a.G3=b.G3
      · have:¬ b.Tier < a.Tier:=fun h2=>h ⟨h1,h2⟩
        simp [this]
      · simp [h1]
    simp only [e,cond_false,Bool.false_and]
    exact H8 (Gk (Gk ⟨fun e=>(by cases e),fun e=>(h ⟨e.1,e.2.1⟩).elim⟩))
def Q92 (b:Box):Int:=if b.High then 2896 else 2591
def H22 (boxes:List Box) (column half:Int) (n:Int) (x:Stowed):Int:=
  if x.Slot.G3=column∧(x.Slot.Half=half∨x.Slot.Half=0) then (match Yj boxes x.Box with | some b=>n+Q92 b | none=>n) else n
def G5e (boxes:List Box) (l:List Stowed) (column half:Int):Int:=l.foldl (H22 boxes column half) 0
theorem Jf0 {boxes:List Box} {column half n:Int} {x:Stowed}:n≤H22 boxes column half n x∧H22 boxes column half n x≤n+2896:=by
  unfold H22 Q92
  split
  · split
    · split <;> omega
    · omega
  · omega
theorem Jc7 (boxes:List Box) (l:List Stowed) (column half:Int) (hl:l.length≤1000000):G86 boxes l column half=some (G5e boxes l column half):=by
  refine Zd ?_
  unfold G86 G5e
  refine Jo (fun pre n=>n=pre.foldl (H22 boxes column half) 0∧0≤n∧n≤2896*pre.length) ⟨rfl,Int.le_refl _,by simp⟩ (fun pre y post n nx e hn hnx=>?_) (fun n hn=>Gk hn.1)
  obtain⟨rfl,h1,h2⟩:=hn
  have hp:pre.length+1≤l.length:=by rw [e]; simp
  have ha:=Jf0 (boxes:=boxes) (column:=column) (half:=half) (n:=pre.foldl (H22 boxes column half) 0) (x:=y)
  have hlen:((pre++[y]).length:Int)=pre.length+1:=by simp
  generalize hg:pre.foldl (H22 boxes column half) 0=n at *
  refine Gbe (fun j=>j=H22 boxes column half n y) (fun K hK=>?_) (fun j hj=>hnx _ ⟨by rw [hj,List.foldl_append,hg]; rfl,by omega,by rw [hlen]; omega⟩)
  refine He (fun hc=>?_) (fun hc=>hK _ ?_)
  · have hc':y.Slot.G3=column∧(y.Slot.Half=half∨y.Slot.Half=0):=by simpa using hc
    refine Gu (Gd6 boxes y.Box) ?_
    cases hf:Yj boxes y.Box with
    | none=>exact He (fun h=>by cases h) (fun _=>hK _ (by unfold H22; rw [if_pos hc',hf]))
    | some b=>
      refine He (fun _=>?_) (fun h=>by cases h)
      have ht:H25 b=some (Q92 b):=by unfold H25 Q92; cases b.High <;> rfl
      have hadd:H22 boxes column half n y=n+Q92 b:=by unfold H22; rw [if_pos hc',hf]
      refine Gu ht (Zb ?_ (hK _ hadd.symm))
      rw [← hadd]
      omega
  · have hc':¬ (y.Slot.G3=column∧(y.Slot.Half=half∨y.Slot.Half=0)):=by simpa using hc
    unfold H22; rw [if_neg hc']
def H74 (boxes:List Box) (l:List Stowed) (m:Nat) (c:G3):Prop:=c.Height≤0∨(G5e boxes l m 1≤c.Height∧G5e boxes l m 2≤c.Height)
theorem Q94 {s:H0} {boxes:List Box} {l:List Stowed} {m:Nat} {c:G3} (hc:s.Columns[m]? = some c) (hl:l.length≤1000000):Wp (Ga3 s boxes l (m:Int)) (fun r=>r=true ↔ H74 boxes l m c):=by
  unfold Ga3 H74
  refine Yh rfl hc ?_
  by_cases h:c.Height≤0
  · simp only [Kf h,Bool.not_true,cond_false,Bool.false_and,Bool.true_or]
    exact H8 (Gk (H8 (Gk (Gk ⟨fun _=>.inl h,fun _=>rfl⟩))))
  · simp only [Kg h,Bool.not_false,cond_true,Bool.true_and,Bool.false_or]
    refine Gu (Jc7 boxes l m 1 hl) ?_
    by_cases h1:G5e boxes l m 1≤c.Height
    · rw [Kf h1]
      simp only [cond_true,Bool.true_and]
      exact Gu (Jc7 boxes l m 2 hl) (Gk ⟨fun e=>.inr ⟨h1,Kd e⟩,fun e=>Kf (e.elim (fun e=>(h e).elim) (·.2))⟩)
    · rw [Kg h1]
      simp only [cond_false,Bool.false_and]
      exact H8 (Gk (Gk ⟨fun e=>(by cases e),fun e=>e.elim (fun e=>(h e).elim) (fun e=>(h1 e.1).elim)⟩))
theorem Q1e (l:List Stowed) (hl:l.length≤1000000):Gb1 l=some (l.map (·.Slot)):=by
  refine Zd ?_
  unfold Gb1
  refine Jo (fun pre s=>s=pre.map (·.Slot)) rfl (fun pre y post s nx e hs hnx=>?_) (fun s hs=>Gk hs)
  subst hs
  have hp:pre.length+1≤l.length:=by rw [e]; simp
  exact R6 (J70 (by simp only [Ks,Kp]; omega) (by omega)) (hnx _ (by simp))
structure G66 (s:H0) (boxes:List Box) (l:List Stowed):Prop where
  each:∀ x∈l,∃ b,Yj boxes x.Box=some b∧Zt s x.Slot b.Size∧H2a x.Slot (l.map (·.Slot))
  sorted:l.Pairwise (fun a b=>a.Box < b.Box)
  apart:l.Pairwise (fun a b=>¬ Gc2 b.Slot a.Slot)
  fits:∀ m c,s.Columns[m]? = some c→H74 boxes l m c
theorem J31 {α:Type} {R:α→α→Prop} {l:List α} {x:α} (h:l.Pairwise R) (hx:∀ a∈l,R a x):(l++[x]).Pairwise R:=by
  rw [List.pairwise_append]
  refine⟨h,List.pairwise_singleton ..,fun a ha b hb=>?_⟩
  rw [Kv] at hb; subst hb
  exact hx a ha
theorem H3b {α:Type} {R:α→α→Prop} {pre post:List α} {y:α} (h:(pre++y::post).Pairwise R):∀ a∈pre,R a y:=fun a ha=>(List.pairwise_append.1 h).2.2 a ha y (List.mem_cons_self ..)
theorem J4a {s:H0} {boxes:List Box} {l:List Stowed} (hr:Gb0 s=some true) (ht:∀ c∈s.Columns,c.Tiers≤1000000) (hl:l.length≤1000000):Wp (Yk s boxes l) (fun r=>r=true ↔ G66 s boxes l):=by
  unfold Yk
  refine Gu hr (He (fun h=>by cases h) (fun _=>?_))
  refine Gu (Q1e l hl) ?_
  refine Jo (fun pre _=>(∀ x∈pre,∃ b,Yj boxes x.Box=some b∧Zt s x.Slot b.Size∧H2a x.Slot (l.map (·.Slot)))∧pre.Pairwise (fun a b=>a.Box < b.Box)∧pre.Pairwise (fun a b=>¬ Gc2 b.Slot a.Slot))
    ⟨fun x hx=>(Km hx).elim,List.Pairwise.nil,List.Pairwise.nil⟩ (fun pre y post u nx e hI hnx=>?_) (fun u hI=>?_)
  · obtain⟨i1,i2,i3⟩:=hI
    have hlen:pre.length < l.length:=by rw [e]; simp
    have hy:y∈l:=by rw [e]; simp
    have no:∀ {m:Option Bool},m=some false→¬ G66 s boxes l→Wp m (fun r=>r=true ↔ G66 s boxes l):=fun e h=>by subst e; exact Gk ⟨fun e=>(by cases e),fun e=>(h e).elim⟩
    refine Gu (Gd6 boxes y.Box) ?_
    cases hf:Yj boxes y.Box with
    | none=>
      simp only [Bool.not_false,Bool.not_true,Bool.false_and,cond_false,Bool.true_or,cond_true]
      refine H8 (Gk (H8 (Gk (H8 (Gk (H8 (Gk (no rfl fun h=>?_))))))))
      obtain⟨b,hb,_⟩:=h.each y hy
      rw [hf] at hb; cases hb
    | some b=>
      simp only [Bool.not_true,Bool.not_false,Bool.true_and,Bool.false_or]
      -- the order
      have hprev:Wp (bif decide (0 < (pre.length:Int)) then chk ((pre.length:Int) - 1) some else some 0) (fun v=>Wp (bif decide (0 < (pre.length:Int)) then Qm l v some else some default) (fun y20=>
          ((decide (0 < (pre.length:Int))&&decide (y.Box≤y20.Box))=true→¬ G66 s boxes l)∧((decide (0 < (pre.length:Int))&&decide (y.Box≤y20.Box))=false→∀ a∈pre,a.Box < y.Box))):=by
        rcases List.eq_nil_or_concat pre with hp | ⟨pre',z,hp⟩
        · subst hp
          simp only [List.length_nil]
          exact Gk (Gk ⟨fun h=>by simp at h,fun _ a ha=>(Km ha).elim⟩)
        · have hp':pre=pre'++[z]:=by simpa using hp
          have hpl:pre.length=pre'.length+1:=by rw [hp']; simp
          have hd:decide (0 < (pre.length:Int))=true:=Kf (by omega)
          have hz:l[pre'.length]? = some z:=by rw [e,hp']; simp
          rw [hd]
          simp only [cond_true,Bool.true_and]
          refine Zb ⟨by omega,by omega⟩ (Gk (Yh (m:=pre'.length) (by omega) hz (Gk ⟨fun h hR=>?_,fun h a ha=>?_⟩)))
          · have:=Kd h
            have hs:=hR.sorted
            rw [e] at hs
            have:=H3b hs z (by rw [hp']; simp)
            omega
          · have hzy:¬ y.Box≤z.Box:=Ke h
            rw [hp'] at ha
            rcases Kt.1 ha with ha | ha
            · have:=H3b (hp' ▸ i2:(pre'++z::[]).Pairwise _) a ha
              omega
            · rw [Kv] at ha; subst ha; omega
      refine H8 (wp_mono hprev (fun v hv=>H8 (wp_mono hv (fun y20 h20=>?_))))
      obtain⟨n1,n2⟩:=h20
      generalize (decide (0 < (pre.length:Int))&&decide (y.Box≤y20.Box))=c at n1 n2
      cases c with
      | true=>
        simp only [Bool.not_true,cond_false,Bool.true_or,cond_true]
        exact H8 (Gk (H8 (Gk (no rfl (n1 rfl)))))
      | false=>
        simp only [Bool.not_false,cond_true,Bool.false_or]
        have hsort:=n2 rfl
        refine H8 (wp_mono (Q20 s y.Slot b.Size) (fun r21 h21=>?_))
        cases r21 with
        | false=>
          simp only [Bool.not_false,Bool.not_true,cond_false,Bool.true_or,cond_true]
          refine H8 (Gk (no rfl fun h=>?_))
          obtain⟨b',hb,hs,_⟩:=h.each y hy
          rw [hf] at hb; cases hb
          have:=h21.2 hs; cases this
        | true=>
          have hslot:=h21.1 rfl
          simp only [Bool.not_true,Bool.not_false,cond_true,Bool.false_or]
          have htier : -1000000≤y.Slot.Tier∧y.Slot.Tier≤1000000:=by
            obtain⟨m,c,_,hc,h3⟩:=hslot.col
            have:=hslot.tier
            have:=ht c (Kk hc)
            omega
          refine H8 (wp_mono (Q97 y.Slot (l.map (·.Slot)) htier) (fun r22 h22=>?_))
          cases r22 with
          | false=>
            refine He (fun _=>no rfl fun h=>?_) (fun h=>by cases h)
            obtain⟨b',hb,_,hh⟩:=h.each y hy
            have:=h22.2 hh; cases this
          | true=>
            have hheld:=h22.1 rfl
            refine He (fun h=>by cases h) (fun _=>?_)
            refine H8 (Jf6 (m:=pre.length) rfl (by rw [Ks]; omega) ?_)
            have htk:(l.map (·.Slot)).take pre.length=pre.map (·.Slot):=by rw [← List.map_take,e,List.take_left']; rfl
            rw [htk]
            refine Jo (fun pr _=>∀ a∈pr,¬ Gc2 y.Slot a) (fun a ha=>(Km ha).elim) (fun pr a pos u nx2 e2 hI2 hnx2=>?_) (fun u hI2=>hnx _ ⟨fun x hx=>?_,J31 i2 hsort,J31 i3 (fun a ha=>hI2 a.Slot (Ku.2 ⟨a,ha,rfl⟩))⟩)
            · refine H8 (wp_mono (Q96 y.Slot a) (fun r48 h48=>?_))
              refine He (fun h=>no rfl fun hR=>?_) (fun h=>hnx2 _ (fun a' ha'=>?_))
              · have hm:=h48.1 h
                have hin:a∈pre.map (·.Slot):=by rw [e2]; simp
                obtain⟨z,hz,rfl⟩:=Ku.1 hin
                have ha:=hR.apart
                rw [e] at ha
                exact H3b ha z hz hm
              · rcases Kt.1 ha' with ha' | ha'
                · exact hI2 a' ha'
                · rw [Kv] at ha'; subst ha'
                  intro hm
                  have:=h48.2 hm
                  rw [this] at h; cases h
            · rcases Kt.1 hx with hx | hx
              · exact i1 x hx
              · rw [Kv] at hx; subst hx
                exact⟨b,hf,hslot,hheld⟩
  · obtain⟨i1,i2,i3⟩:=hI
    refine Jo (fun pre _=>∀ m c,m < pre.length→s.Columns[m]? = some c→H74 boxes l m c) (fun m c h=>(Nat.not_lt_zero m h).elim) (fun pre y post u nx e hI hnx=>?_) (fun u hI=>Gk ⟨fun _=>⟨i1,i2,i3,fun m c hc=>hI m c (Kh hc).1 hc⟩,fun _=>rfl⟩)
    have hc:s.Columns[pre.length]? = some y:=by rw [e]; simp
    refine H8 (wp_mono (Q94 hc hl) (fun r hr=>?_))
    cases r with
    | false=>exact He (fun _=>Gk ⟨fun e=>(by cases e),fun h=>by have:=hr.2 (h.fits _ _ hc); cases this⟩) (fun h=>by cases h)
    | true=>
      refine He (fun h=>by cases h) (fun _=>hnx _ (fun m c hm hmc=>?_))
      rw [Ko,Kp] at hm
      rcases Nat.lt_or_ge m pre.length with h | h
      · exact hI m c h hmc
      · have:m=pre.length:=by omega
        subst this
        rw [hc] at hmc; cases hmc
        exact hr.1 rfl
section maps
variable {κ ν:Type} [DecidableEq κ]
theorem Q49 (a:κ):Hr.has (Hr.empty:Hr κ ν) a=false:=rfl
theorem Qce (m:Hr κ ν) (a b:κ) (v:ν):Hr.has (Hr.put m a v) b=(decide (a=b)||Hr.has m b):=by
  unfold Hr.has Hr.put
  have h:=H88 (l:=H77 m.l a v) (a:=b)
  have h2:=H88 (l:=m.l) (a:=b)
  rw [← h,Qa5]
  by_cases e:a=b
  · simp [e]
  · simp [e,h2]
end maps
theorem Hff {α:Type} {l:List α} {wanted:α→Option Bool} {p:α→Bool} (hw:∀ x∈l,wanted x=some (p x)) (hl:l.length≤1000000) :
    each (fun y i (s:List Int) nx=>jp (fun kj=>bnd (wanted y) fun r=>bif r then (need (decide ((s.length+[(i:Int)].length)*8≤140737488355328∧s.length+[(i:Int)].length≤maxLen)) <| kj (s++[(i:Int)])) else (kj s)) fun(j:List Int)=>nx j)
      (fun s=>some s) l 0 []=some (Gfe p l):=by
  refine Zd ?_
  refine Jo (fun pre s=>s=Gfe p pre) rfl (fun pre x post s nx e hs hnx=>?_) (fun s hs=>Gk hs)
  subst hs
  have hpl:pre.length+1≤l.length:=by rw [e]; simp
  refine Gbe (fun j=>j=Gfe p (pre++[x])) (fun K hK=>?_) (fun j hj=>hnx _ hj)
  refine Gu (hw x (by rw [e]; simp)) (He (fun h=>R6 ?_ (hK _ ?_)) (fun h=>hK _ ?_))
  · have:=R2d p pre
    exact J70 (by rw [Kp]; omega) (by omega)
  · rw [Qa9,h]; rfl
  · rw [Qa9,h]; simp
theorem Rf8 {α:Type} (p:α→Bool) (x:α) (l:List α):Gfe p (x::l)=(if p x then [0] else [])++(Gfe p l).map (·+1):=by
  unfold Gfe
  rw [List.zipIdx_cons',List.filter_cons]
  have h:(((l.zipIdx.map (Prod.map id (fun n:Nat=>n+1))).filter (fun y:α×Nat=>p y.1)).map (fun y:α×Nat=>(y.2:Int)))=((l.zipIdx.filter (fun y:α×Nat=>p y.1)).map (fun y:α×Nat=>(y.2:Int))).map (·+1):=by
    rw [List.filter_map,List.map_map,List.map_map]
    rfl
  by_cases hx:p x=true
  · rw [if_pos (show p (x,0).fst=true from hx),if_pos hx,List.map_cons]
    exact congrArg (List.cons _) h
  · rw [if_neg (show ¬ p (x,0).fst=true from hx),if_neg hx,List.nil_append]
    exact h
theorem Rf7 {α:Type} (p:α→Bool) (l:List α):(Gfe p l).head? = match l.findIdx? p with
    | some j=>some (j:Int)
    | none=>none:=by
  induction l with
  | nil=>rfl
  | cons x l ih=>
    rw [Rf8,List.findIdx?_cons]
    by_cases hx:p x
    · simp [hx]
    · simp only [hx,if_false,Bool.false_eq_true,List.nil_append,List.head?_map,ih]
      cases l.findIdx? p <;> simp
theorem Y29 {α:Type} (p:α→Bool) (l:List α):decide (0 < ((Gfe p l).length:Int))=l.any p:=by
  by_cases h:∀ x∈l,p x=false
  · rw [R2c.2 h]
    refine Eq.symm (List.any_eq_false.2 fun x hx=>?_)
    rw [h x hx]; exact Bool.false_ne_true
  · have h1:Gfe p l≠[]:=fun e=>h (R2c.1 e)
    have h2:=List.length_pos_iff.2 h1
    rw [Kf (by omega)]
    refine Eq.symm (List.any_eq_true.2 ?_)
    refine Classical.byContradiction fun hn=>h fun x hx=>?_
    cases hc:p x with
    | false=>rfl
    | true=>exact(hn ⟨x,hx,hc⟩).elim
def Gf1 (x:G8) (c:G3):Bool:=decide (x.Bay=c.Bay)&&x.Rows.any (fun r=>decide (r=c.Row))
theorem Jcc (x:G8) (c:G3) (hl:x.Rows.length≤1000000):G88 x c=some (Gf1 x c):=by
  unfold G88 Gf1
  by_cases h:x.Bay=c.Bay
  · have hc:G63 x.Rows (fun z0=>G80 z0 c)=some (Gfe (fun r=>decide (r=c.Row)) x.Rows):=by
      unfold G63
      exact Hff (fun x _=>rfl) hl
    rw [Kf h]
    simp only [cond_true,Bool.true_and]
    rw [hc,G9b,Y29]
  · rw [Kg h]
    rfl
def Jj (s:H0) (c:G3):Int:=Hc4 (fun x=>Gf1 x c) s.Covers
theorem Hbc {s:H0} {m:Nat} {c:G3} (hc:s.Columns[m]? = some c) (hr:∀ x∈s.Covers,x.Rows.length≤1000000) (hl:s.Covers.length≤1000000):G10 s (m:Int)=some (Jj s c):=by
  have hm:=(Kh hc).1
  refine Zd ?_
  unfold G10
  refine He (fun h=>?_) (fun _=>?_)
  · simp only [Ky,Kr] at h
    omega
  have hch:G0f s.Covers (fun z0=>G49 z0 s (m:Int))=some (Gfe (fun x=>Gf1 x c) s.Covers):=by
    unfold G0f
    refine Hff (fun x hx=>Zd ?_) hl
    unfold G49
    exact Yh rfl hc (Gu (Jcc x c (hr x hx)) (Gk rfl))
  refine Gu hch ?_
  have hh:=Rf7 (fun x=>Gf1 x c) s.Covers
  unfold Jj Hc4
  cases hf:s.Covers.findIdx? (fun x=>Gf1 x c) with
  | none=>
    rw [hf] at hh
    have h0:Gfe (fun x=>Gf1 x c) s.Covers=[]:=List.head?_eq_none_iff.1 hh
    rw [h0]
    exact Gk rfl
  | some j=>
    rw [hf] at hh
    cases hi:Gfe (fun x=>Gf1 x c) s.Covers with
    | nil=>rw [hi] at hh; cases hh
    | cons z r=>
      rw [hi] at hh
      simp only [List.head?_cons,Option.some.injEq] at hh
      subst hh
      refine He (fun h=>?_) (fun _=>Yh (m:=0) rfl rfl (Gk rfl))
      have:=Kd h
      simp only [List.length_cons] at this
      omega
structure Small (s:H0):Prop where
  right:Gb0 s=some true
  cols:1≤s.Columns.length∧s.Columns.length≤40
  tiers:∀ c∈s.Columns,c.Tiers≤100
  covs:s.Covers.length≤1000
  rows:∀ x∈s.Covers,x.Rows.length≤1000
def Y39 (s:H0) (x:Slot):Prop:=∃ (m:Nat) (c:G3),x.G3=(m:Int)∧s.Columns[m]? = some c
structure Je7 (U:List Int) (m:Hr Int Unit) (l:List Int):Prop where
  nodup:l.Nodup
  sub:∀ a∈l,a∈U
  has:∀ a,Hr.has m a=decide (a∈l)
theorem Je7.le {U:List Int} {m:Hr Int Unit} {l:List Int} (h:Je7 U m l):l.length≤U.length:=h.nodup.length_le_of_subset (fun a ha=>h.sub a ha)
theorem Je7.start {U:List Int}:Je7 U (Hr.empty:Hr Int Unit) []:=⟨List.nodup_nil,fun a ha=>(Km ha).elim,fun a=>by simp [Q49]⟩
theorem Je7.snoc {U:List Int} {m:Hr Int Unit} {l:List Int} (h:Je7 U m l) {id:Int} (h1:id ∉ l) (h2:id∈U):Je7 U (Hr.put m id ()) (l++[id]):=by
  refine⟨?_,fun a ha=>?_,fun a=>?_⟩
  · rw [List.nodup_append]
    refine⟨h.nodup,by simp,fun a ha b hb=>?_⟩
    rw [Kv] at hb; subst hb
    intro e; subst e; exact h1 ha
  · rcases Kt.1 ha with ha | ha
    · exact h.sub a ha
    · rw [Kv] at ha; subst ha; exact h2
  · rw [Qce,h.has,Bool.eq_iff_iff]
    simp only [Ky,Kr,Kt,Kv]
    exact⟨fun h=>h.elim (fun e=>.inr e.symm) .inl,fun h=>h.elim .inr (fun e=>.inl e.symm)⟩
theorem H3a {l:List Int} (h:l.Pairwise (· < ·)):l.Nodup:=h.imp (fun h=>by omega)
theorem Small.tier {s:H0} (h:Small s):∀ c∈s.Columns,c.Tiers≤1000000:=fun c hc=>by have:=h.tiers c hc; omega
theorem Q21 {s:H0} {x:Slot} {size:Int} (h:Zt s x size):Y39 s x:=by
  obtain⟨m,c,h1,h2,_⟩:=h.col
  exact⟨m,c,h1,h2⟩
theorem J7c {a b:List Int} (ha:a.Pairwise (· < ·)) (hb:b.Pairwise (· < ·)) (h:∀ x,x∈a ↔ x∈b):a=b:=
  List.Perm.eq_of_pairwise (le:=fun x y:Int=>x < y) (fun x y _ _ h1 h2=>by omega) ha hb ((List.perm_ext_iff_of_nodup (H3a ha) (H3a hb)).2 h)
def upon (s:H0) (x y:Slot):Prop:=∃ (m:Nat) (c:G3) (m1:Nat) (c1:G3),x.G3=(m:Int)∧s.Columns[m]? = some c∧y.G3=(m1:Int)∧s.Columns[m1]? = some c1∧c.Deck=false∧c1.Deck=true∧0≤Jj s c∧Jj s c1=Jj s c
section
variable {s:H0} {U:List Int} {states:List (List Stowed)} {l l' l2:List Int} {id y:Int} {m m2:Hr Int Unit}
end
theorem H1a {α:Type} [Inhabited α] {c:Bool} {m:Option α} {x:α} (h:c=true→m=some x):∃ r,(bif c then m else some default)=some r∧(c=true→r=x):=by
  cases c with
  | true=>exact⟨x,h rfl,fun _=>rfl⟩
  | false=>exact⟨default,rfl,fun e=>by cases e⟩
theorem H1f (boxes:List Box) (id:Int):Qt boxes id=some (match Yj boxes id with
    | some b=>(b,true)
    | none=>(Box.mk 0 ByteArray.empty 0 false 0 0 0 0 false,false)):=by
  refine Zd ?_
  unfold Qt
  refine Jo (fun pre _=>∀ b∈pre,¬ b.ID=id) (fun b hb=>(Km hb).elim) (fun pre y post s nx e hI hnx=>He (fun h=>Gk ?_) (fun h=>hnx _ (Jp (P:=fun b:Box=>¬ b.ID=id) hI (Ke h)))) (fun s hI=>Gk ?_)
  · have:Yj boxes id=some y:=by
      unfold Yj
      rw [e,List.find?_append,List.find?_eq_none.2 (fun b hb=>by simpa using hI b hb)]
      simp only [Option.none_or,List.find?_cons,h]
    rw [this]
  · have:Yj boxes id=none:=by
      unfold Yj
      exact List.find?_eq_none.2 (fun b hb=>by simpa using hI b hb)
    rw [this]
theorem Q28 (s:H0) (x:Slot) (size:Int):Wp (Y0 s x size) (fun r=>r=true ↔ Zt s x size):=by
  unfold Y0
  have hhalf:(((decide (size=40))&&(decide (x.Half=0)))||((decide (size=20))&&((decide (x.Half=1))||(decide (x.Half=2)))))=true ↔ x.Half∈G5f size:=by
    unfold G5f
    simp only [Ky,Kq,Kr]
    by_cases h4:size=40
    · rw [if_pos h4]; subst h4; simp
    · rw [if_neg h4]
      by_cases h2:size=20
      · rw [if_pos h2]; subst h2; simp
      · rw [if_neg h2]; simp [h4,h2]
  by_cases h0:0≤x.G3∧x.G3 < (s.Columns.length:Int)∧0≤x.Tier
  · obtain⟨m,hm⟩:∃ m:Nat,x.G3=(m:Int):=⟨x.G3.toNat,by omega⟩
    have hml:m < s.Columns.length:=by omega
    have hc:s.Columns[m]? = some s.Columns[m]:=by simp [hml]
    have hok:((decide (x.G3 < 0)||decide ((s.Columns.length:Int)≤x.G3))||decide (x.Tier < 0))=false:=by
      simp only [Kz,decide_eq_false_iff_not]; omega
    rw [hok]
    simp only [Bool.not_false,cond_true,Bool.false_or]
    rw [hm]
    refine Gu ((Z2 hc some).trans rfl) (He (fun h=>Gk (Y4 fun hs=>?_)) (fun h=>Gk ?_))
    · obtain⟨m',c,e1,e2,e3⟩:=hs.col
      have:m'=m:=by omega
      subst this
      rw [hc] at e2; cases e2
      have:=Kd h
      omega
    · rw [hhalf]
      exact⟨fun hh=>⟨⟨m,_,hm,hc,by have:=Ke h; omega⟩,h0.2.2,hh⟩,fun hs=>hs.half⟩
  · have hok:((decide (x.G3 < 0)||decide ((s.Columns.length:Int)≤x.G3))||decide (x.Tier < 0))=true:=by
      simp only [Ky,Kr]; omega
    rw [hok]
    simp only [Bool.not_true,cond_false,Bool.true_or,cond_true]
    refine H8 (Gk (Gk (Y4 fun hs=>h0 ?_)))
    obtain⟨m',c,e1,e2,e3⟩:=hs.col
    have:=(Kh e2).1
    have:=hs.tier
    omega
theorem Jec (l:List Slot) (x:Slot) (half:Int) (ht : -1000000≤x.Tier∧x.Tier≤1000000):Wp (Rr l x half) (fun r=>r=true ↔ below l x half):=by
  unfold Rr below
  have key:∀ y:Slot,(y.G3=x.G3∧y.Tier=x.Tier - 1∧y.Half=half) ↔ y=⟨x.G3,x.Tier - 1,half⟩:=fun y=>by
    cases y
    simp
  refine Jo (fun pre _=>∀ y∈pre,¬ y=⟨x.G3,x.Tier - 1,half⟩) (fun b hb=>(Km hb).elim) (fun pre y post s nx e hI hnx=>?_) (fun s hI=>Gk (Y4 fun h=>hI _ h rfl))
  obtain⟨r,e1,h1⟩:=H1a (c:=decide (y.G3=x.G3)) (m:=chk (x.Tier - 1) some) (x:=x.Tier - 1) (fun _=>Zd (Zb ⟨by omega,by omega⟩ (Gk rfl)))
  refine Gu e1 (He (fun h=>Gk ⟨fun _=>?_,fun _=>rfl⟩) (fun h=>hnx _ (Jp hI fun hy=>?_)))
  · simp only [Kq,Kr] at h
    have hr:=h1 (Kf h.1.1)
    have:=(key y).1 ⟨h.1.1,by rw [h.1.2,hr],h.2⟩
    rw [← this,e]; simp
  · have hk:=(key y).2 hy
    have hr:=h1 (Kf hk.1)
    rw [hr,Kf hk.1,Kf hk.2.1,Kf hk.2.2] at h
    cases h
theorem R23 (x:Slot) (l:List Slot) (ht : -1000000≤x.Tier∧x.Tier≤1000000):Wp (Zj x l) (fun r=>r=true ↔ H2a x l):=by
  unfold Zj H2a
  refine He (fun h=>Gk ⟨fun _=>.inl (Kd h),fun _=>rfl⟩) (fun h=>?_)
  have h0:=Ke h
  refine He (fun h=>?_) (fun h=>?_)
  · have hh:=Kd h
    refine H8 (wp_mono (Jec l x 0 ht) (fun r8 h8=>?_))
    rw [hh]
    cases r8 with
    | true=>exact H8 (Gk (H8 (Gk (Gk ⟨fun _=>.inr (.inl (h8.1 rfl)),fun _=>rfl⟩))))
    | false=>
      simp only [Bool.not_false,cond_true,Bool.true_and,Bool.false_or]
      refine H8 (wp_mono (Jec l x 1 ht) (fun r9 h9=>?_))
      have n0:¬ below l x 0:=fun hb=>by have:=h8.2 hb; cases this
      cases r9 with
      | true=>
        simp only [cond_true,Bool.true_and]
        refine H8 (wp_mono (Jec l x 2 ht) (fun r10 h10=>Gk ?_))
        rw [h10]
        exact⟨fun hb=>.inr (.inr ⟨trivial,h9.1 rfl,hb⟩),fun hh=>hh.elim (fun h=>(h0 h).elim) (fun h=>h.elim (fun h=>(n0 h).elim) (fun h=>h.2.2))⟩
      | false=>
        simp only [cond_false,Bool.false_and]
        refine H8 (Gk (Gk (Y4 fun hh=>hh.elim h0 (fun h=>h.elim n0 (fun h=>?_)))))
        have:=h9.2 h.2.1; cases this
  · have hh:=Ke h
    refine H8 (wp_mono (Jec l x x.Half ht) (fun r h1=>Gk ?_))
    rw [h1]
    exact⟨fun h=>.inr (.inl h),fun h=>h.elim (fun h=>(h0 h).elim) (fun h=>h.elim (fun h=>h) (fun h=>(hh h.1).elim))⟩
def J6a (a b:Int):Bool:=((decide (a=b))||(decide (a=0)))||(decide (b=0))
theorem Q2c (a b:Int):Re a b=some (J6a a b):=rfl
theorem Jce {a b:Int}:J6a a b=true ↔ G8c a b:=by
  unfold J6a G8c
  simp only [Ky,Kr,or_assoc]
theorem R21 (a b:Slot):Wp (Zi a b) (fun r=>r=true ↔ Gc2 a b):=by
  unfold Zi Gc2
  obtain⟨r,e1,h1⟩:=H1a (c:=decide (a.G3=b.G3)&&decide (a.Tier=b.Tier)) (m:=Re a.Half b.Half) (x:=J6a a.Half b.Half) (fun _=>Q2c _ _)
  refine Gu e1 (Gk ?_)
  cases hc:(decide (a.G3=b.G3)&&decide (a.Tier=b.Tier)) with
  | true=>
    rw [h1 hc]
    simp only [Kq,Kr] at hc
    rw [Bool.true_and,Jce]
    exact⟨fun h=>⟨hc.1,hc.2,h⟩,fun h=>h.2.2⟩
  | false=>
    simp only [Bool.false_and]
    refine Y4 fun h=>?_
    rw [Kf h.1,Kf h.2.1] at hc
    cases hc
theorem Y18 (a b:Slot):Wp (G1b a b) (fun r=>r=true ↔ H24 a b):=by
  unfold G1b H24
  obtain⟨r,e1,h1⟩:=H1a (c:=decide (a.G3=b.G3)&&decide (b.Tier < a.Tier)) (m:=Re a.Half b.Half) (x:=J6a a.Half b.Half) (fun _=>Q2c _ _)
  refine Gu e1 (Gk ?_)
  cases hc:(decide (a.G3=b.G3)&&decide (b.Tier < a.Tier)) with
  | true=>
    rw [h1 hc]
    simp only [Kq,Kr] at hc
    rw [Bool.true_and,Jce]
    exact⟨fun h=>⟨hc.1,hc.2,h⟩,fun h=>h.2.2⟩
  | false=>
    simp only [Bool.false_and]
    refine Y4 fun h=>?_
    rw [Kf h.1,Kf h.2.1] at hc
    cases hc
theorem Q2b (boxes:List Box) (l:List Stowed) (column half:Int) (hl:l.length≤1000000):Rc boxes l column half=some (G5e boxes l column half):=by
  refine Zd ?_
  unfold Rc
  refine Jo (fun pre n=>n=G5e boxes pre column half∧0≤n∧n≤2896*(pre.length:Int)) ⟨rfl,by omega,by simp⟩ (fun pre y post n nx e hI hnx=>?_) (fun n hI=>Gk hI.1)
  obtain⟨i1,i2,i3⟩:=hI
  have hpl:pre.length < 1000000:=by rw [e] at hl; simp only [Ko,List.length_cons] at hl; omega
  have hstep:G5e boxes (pre++[y]) column half=H22 boxes column half n y:=by
    unfold G5e; rw [List.foldl_append,i1]; rfl
  have hle:=Jf0 (boxes:=boxes) (column:=column) (half:=half) (n:=n) (x:=y)
  refine Gbe (fun j=>j=H22 boxes column half n y) (fun K hK=>?_) (fun j hj=>hnx _ ⟨by rw [hstep,hj],by omega,by rw [Ko,Kp]; omega⟩)
  refine Gu (H1f boxes y.Box) ?_
  unfold H22 at hK
  cases hf:Yj boxes y.Box with
  | none=>
    rw [hf] at hK
    simp only [Bool.not_false,Bool.true_or,cond_true]
    exact hK _ (by split <;> rfl)
  | some b=>
    rw [hf] at hK
    simp only [Bool.not_true,Bool.false_or]
    refine He (fun h=>hK _ ?_) (fun h=>?_)
    · simp only [Ky,Kq,Kr,ne_eq] at h
      have hneg:¬ (y.Slot.G3=column∧(y.Slot.Half=half∨y.Slot.Half=0)):=fun hc=>h.elim (fun h=>h hc.1) (fun h=>hc.2.elim h.1 h.2)
      rw [if_neg hneg]
    · simp only [Kz,Bool.and_eq_false_iff,decide_eq_false_iff_not,ne_eq,Decidable.not_not] at h
      rw [if_pos ⟨h.1,h.2⟩] at hK
      unfold Q92 at hK
      refine He (fun hh=>Zb ⟨by omega,by omega⟩ (hK _ (by show _=n+(if b.High=true then 2896 else 2591); rw [if_pos hh]))) (fun hh=>Zb ⟨by omega,by omega⟩ (hK _ (by show _=n+(if b.High=true then 2896 else 2591); rw [if_neg (by rw [hh]; simp)])))
theorem Q9e (l:List Stowed) (hl:l.length≤1000000):Z3 l=some (l.map (·.Slot)):=by
  refine Zd ?_
  unfold Z3
  refine Jo (fun pre s=>s=pre.map (·.Slot)) rfl (fun pre y post s nx e hI hnx=>?_) (fun s hI=>Gk hI)
  have hpl:pre.length < 1000000:=by rw [e] at hl; simp only [Ko,List.length_cons] at hl; omega
  subst hI
  refine R6 (Rab (by rw [Ks,Kp]; omega) (by omega)) (hnx _ (by simp))
theorem R22 {s:H0} {boxes:List Box} {l:List Stowed} {m:Nat} {c:G3} (hc:s.Columns[m]? = some c) (h0:0≤c.Height) (hl:l.length≤1000000):Wp (Yf s boxes l (m:Int)) (fun r=>r=true ↔ ¬ H74 boxes l m c):=by
  unfold Yf H74
  rw [Z2 hc]
  refine He (fun h=>Gk (Y4 fun h2=>h2 (.inl (by have:=Kd h; omega)))) (fun h=>?_)
  have hh:=Ke h
  refine Gu (Q2b boxes l m 1 hl) ?_
  rw [Z2 hc]
  obtain⟨r,e1,h1⟩:=H1a (c:=!(decide (c.Height < G5e boxes l m 1))) (m:=Rc boxes l m 2) (x:=G5e boxes l m 2) (fun _=>Q2b boxes l m 2 hl)
  obtain⟨r2,e2,h2⟩:=H1a (c:=!(decide (c.Height < G5e boxes l m 1))) (m:=Qm s.Columns (m:Int) some) (x:=c) (fun _=>Z2 hc some)
  refine Gu e1 (Gu e2 (Gk ?_))
  by_cases hlt:c.Height < G5e boxes l m 1
  · rw [Kf hlt,Bool.true_or]
    exact⟨fun _ hf=>by omega,fun _=>rfl⟩
  · have e3:=h1 (by rw [Kg hlt]; rfl)
    have e4:=h2 (by rw [Kg hlt]; rfl)
    rw [e3,e4,Kg hlt,Bool.false_or,Kr]
    omega
theorem Q27 {F:Nat} {s:H0} {boxes:List Box} {l:List Stowed} (hp:∀ c∈s.Columns,c.Plugs.length≤1048576) (hr:∀ x∈s.Covers,x.Rows.length≤1048576) (hb:∀ b∈boxes,0≤b.Size∧b.Size≤255) (hl:l.length≤1000000) :
    Wp (Q7 F s boxes l) (fun r=>r=true ↔ H37 s∧G66 s boxes l):=by
  unfold Q7
  refine H8 (wp_mono (Re7 (F:=F) s hp hr) (fun r hs=>He (fun h=>Gk (Y4 fun hh=>?_)) (fun h=>?_)))
  · rw [hs.2 hh.1] at h; cases h
  have hS:H37 s:=by
    cases r with
    | true=>exact hs.1 rfl
    | false=>cases h
  have htier:∀ c∈s.Columns,c.Tiers≤10:=fun c hc=>by have:=(hS.col c hc).place; omega
  refine Jo (fun pre _=>(∀ x∈pre,∃ b,Yj boxes x.Box=some b∧Zt s x.Slot b.Size∧H2a x.Slot (l.map (·.Slot)))∧pre.Pairwise (fun a b=>a.Box < b.Box)∧pre.Pairwise (fun a b=>¬ Gc2 b.Slot a.Slot))
    ⟨fun x hx=>(Km hx).elim,List.Pairwise.nil,List.Pairwise.nil⟩ (fun pre y post u nx e hI hnx=>?_) (fun u hI=>?_)
  · obtain⟨i1,i2,i3⟩:=hI
    have hym:y∈l:=by rw [e]; simp
    have hpl:pre.length < l.length:=by rw [e]; simp
    refine Gu (H1f boxes y.Box) ?_
    cases hf:Yj boxes y.Box with
    | none=>
      simp only [Bool.not_false,Bool.not_true,cond_false,Bool.true_or,cond_true]
      refine H8 (Gk (H8 (Gk (H8 (Gk (H8 (Gk (Gk (Y4 fun hh=>?_)))))))))
      obtain⟨b,h1,_⟩:=hh.2.each y hym
      rw [hf] at h1; cases h1
    | some b=>
      have hbm:b∈boxes:=List.mem_of_find?_eq_some hf
      have hbs:=hb b hbm
      simp only [Bool.not_true,Bool.not_false,cond_true,Bool.false_or]
      refine H8 (Zb ⟨by omega,by omega⟩ (Gk (H8 (wp_mono (Q28 s y.Slot b.Size) (fun r17 h17=>?_)))))
      cases r17 with
      | false=>
        simp only [Bool.not_false,Bool.not_true,cond_false,Bool.true_or,cond_true]
        refine H8 (Gk (H8 (Gk (Gk (Y4 fun hh=>?_)))))
        obtain⟨b',h1,h2,_⟩:=hh.2.each y hym
        rw [hf] at h1; cases h1
        have:=h17.2 h2; cases this
      | true=>
        have hslot:=h17.1 rfl
        simp only [Bool.not_true,Bool.not_false,cond_true,Bool.false_or]
        refine Gu (Q9e l hl) ?_
        have htr : -1000000≤y.Slot.Tier∧y.Slot.Tier≤1000000:=by
          obtain⟨m',c,_,e2,e3⟩:=hslot.col
          have:=htier c (Kk e2)
          have:=hslot.tier
          omega
        refine H8 (wp_mono (R23 y.Slot (l.map (·.Slot)) htr) (fun r19 h19=>He (fun h=>Gk (Y4 fun hh=>?_)) (fun h=>?_)))
        · obtain⟨b',h1,_,h2⟩:=hh.2.each y hym
          rw [h19.2 h2] at h; cases h
        have hheld:H2a y.Slot (l.map (·.Slot)):=by
          cases r19 with
          | true=>exact h19.1 rfl
          | false=>cases h
        refine R6 (Kf (by omega)) ?_
        rw [show (pre.length:Int).toNat=pre.length by omega]
        refine Haf (fun i _=>∀ (k:Nat) z,k < i→pre[k]? = some z→z.Box < y.Box∧¬ Gc2 z.Slot y.Slot) (fun k z hk=>by omega) (fun i u nx2 hi hJ hnx2=>?_) (fun u hJ=>hnx _ ?_)
        · have hx:pre[i]? = some (pre[i]'hi):=Ki hi
          have hsx:l[i]? = some (pre[i]'hi):=by rw [e,List.getElem?_append_left hi]; exact hx
          have hzm:pre[i]'hi∈pre:=List.getElem_mem _
          generalize pre[i]'hi=z at hx hsx hzm
          rw [Z2 hsx]
          obtain⟨q1,e1,h1⟩:=H1a (c:=!(decide (y.Box≤z.Box))) (m:=Qm l (i:Int) some) (x:=z) (fun _=>Z2 hsx some)
          refine Gu e1 ?_
          by_cases hbz:y.Box≤z.Box
          · rw [Kf hbz]
            simp only [Bool.not_true,cond_false,Bool.true_or,cond_true]
            refine H8 (Gk (Gk (Y4 fun hh=>?_)))
            have h1:=hh.2.sorted
            rw [e] at h1
            have:=(List.pairwise_append.1 h1).2.2 z hzm y (by simp)
            omega
          · have hq:=h1 (by rw [Kg hbz]; rfl)
            subst hq
            rw [Kg hbz]
            simp only [Bool.not_false,cond_true,Bool.false_or]
            refine H8 (wp_mono (R21 q1.Slot y.Slot) (fun r47 h47=>He (fun h=>Gk (Y4 fun hh=>?_)) (fun h=>hnx2 _ (fun k c hk2 hc2=>?_))))
            · have h1:=hh.2.apart
              rw [e] at h1
              have h2:=(List.pairwise_append.1 h1).2.2 q1 hzm y (by simp)
              have h3:=h47.1 h
              refine h2 ?_
              unfold Gc2 G8c at h3 ⊢
              obtain⟨a1,a2,a3⟩:=h3
              exact⟨a1.symm,a2.symm,by omega⟩
            · by_cases hki:k < i
              · exact hJ k c hki hc2
              · have:k=i:=by omega
                subst this
                rw [hx] at hc2
                cases hc2
                exact⟨by omega,fun h3=>by rw [h47.2 h3] at h; cases h⟩
        · have hall:∀ z∈pre,z.Box < y.Box∧¬ Gc2 z.Slot y.Slot:=fun z hz=>by
            obtain⟨k,hk⟩:=List.mem_iff_getElem?.1 hz
            exact hJ k z (Kh hk).1 hk
          refine⟨Jp i1 ⟨b,hf,hslot,hheld⟩,H19 i2 (fun z hz=>(hall z hz).1),H19 i3 (fun z hz h3=>(hall z hz).2 ?_)⟩
          unfold Gc2 G8c at h3 ⊢
          obtain⟨a1,a2,a3⟩:=h3
          exact⟨a1.symm,a2.symm,by omega⟩
  · obtain⟨i1,i2,i3⟩:=hI
    refine Jo (fun pre _=>∀ (k:Nat) c,k < pre.length→s.Columns[k]? = some c→H74 boxes l k c) (fun k c hk=>by simp at hk) (fun pre y post u nx e hJ hnx=>?_) (fun u hJ=>Gk ⟨fun _=>⟨hS,i1,i2,i3,fun m c hc=>hJ m c (Kh hc).1 hc⟩,fun _=>rfl⟩)
    have hy:s.Columns[pre.length]? = some y:=by rw [e]; simp
    have h0:0≤y.Height:=by have:=(hS.col y (by rw [e]; simp)).place; omega
    refine H8 (wp_mono (R22 (boxes:=boxes) (l:=l) hy h0 hl) (fun r67 h67=>He (fun h=>Gk (Y4 fun hh=>h67.1 h (hh.2.fits _ _ hy))) (fun h=>hnx _ (fun k c hk hc=>?_))))
    rw [Ko,Kp] at hk
    by_cases hkp:k < pre.length
    · exact hJ k c hkp hc
    · have:k=pre.length:=by omega
      subst this
      rw [hy] at hc
      cases hc
      refine Classical.byContradiction fun hf=>?_
      rw [h67.2 hf] at h; cases h
theorem Qa0 {s:H0} {boxes:List Box} {l:List Stowed} (hp:∀ c∈s.Columns,c.Plugs.length≤1048576) (hr:∀ x∈s.Covers,x.Rows.length≤1048576) (hl:l.length≤1000000) :
    Wp (Yk s boxes l) (fun r=>r=true ↔ H37 s∧G66 s boxes l):=by
  obtain⟨r,er,hs⟩:=Q22 s hp hr
  cases r with
  | true=>
    have hS:=hs.1 rfl
    refine wp_mono (J4a er (fun c hc=>by have:=(hS.col c hc).place; omega) hl) (fun r h=>h.trans ⟨fun h=>⟨hS,h⟩,fun h=>h.2⟩)
  | false=>
    unfold Yk
    refine Gu er (He (fun _=>Gk (Y4 fun hh=>?_)) (fun h=>by cases h))
    have:=hs.2 hh.1; cases this
theorem wp_loop {β σ:Type} {Q:β→Prop} (I:σ→Prop) (μ:σ→Nat) {b:(σ→Option β)→σ→Option β} {F:Nat} {s:σ} (h0:I s) (hF:μ s < F)
    (hb:∀ s nx,I s→(∀ s',I s'→μ s' < μ s→Wp (nx s') Q)→Wp (b nx s) Q):Wp (loop b F s) Q:=by
  induction F generalizing s with
  | zero=>omega
  | succ F ih=>
    rw [loop]
    exact hb s _ h0 (fun s' h1 h2=>ih h1 (by omega))
theorem Q2d (l:List Stowed) (id:Int):Ra l id=some (Hc4 (fun x:Stowed=>decide (x.Box=id)) l):=by
  unfold Ra
  exact H65 (f:=fun x:Stowed=>some (decide (x.Box=id))) (fun x _=>rfl)
theorem Y54 {α:Type} {p:α→Bool} {pre post:List α} {y:α} (h1:∀ x∈pre,p x=false) (h2:p y=true):Hc4 p (pre++y::post)=(pre.length:Int):=by
  have:(pre++y::post).findIdx? p=some pre.length:=by
    rw [List.findIdx?_append,List.findIdx?_eq_none_iff.2 h1]
    simp [List.findIdx?_cons,h2]
  unfold Hc4
  rw [this]
theorem Rf9 {α:Type} {p:α→Bool} {l:List α} (h1:∀ x∈l,p x=false):Hc4 p l = -1:=by
  unfold Hc4
  rw [List.findIdx?_eq_none_iff.2 h1]
theorem J15 {s:H0} {m:Nat} {c:G3} (hc:s.Columns[m]? = some c):Q5 s (m:Int)=some (Jj s c):=by
  refine Zd ?_
  unfold Q5 Jj
  have hml:=(Kh hc).1
  refine He (fun h=>?_) (fun _=>?_)
  · simp only [Ky,Kr] at h
    omega
  refine Jo (fun pre _=>∀ x∈pre,Gf1 x c=false) (fun b hb=>(Km hb).elim) (fun pre y post u nx e hI hnx=>?_) (fun u hI=>Gk (Rf9 hI).symm)
  rw [Z2 hc]
  obtain⟨q1,e1,h1⟩:=H1a (c:=decide (y.Bay=c.Bay)) (m:=Qm s.Columns (m:Int) some) (x:=c) (fun _=>Z2 hc some)
  refine Gu e1 ?_
  obtain⟨q2,e2,h2⟩:=H1a (c:=decide (y.Bay=c.Bay)) (m:=Qn y.Rows q1.Row) (x:=y.Rows.any (fun r=>decide (r=c.Row))) (fun h=>by rw [h1 h]; exact Q36 _ _)
  refine Gu e2 ?_
  have hcov:(decide (y.Bay=c.Bay)&&q2)=Gf1 y c:=by
    unfold Gf1
    cases hb:decide (y.Bay=c.Bay) with
    | true=>rw [h2 hb]
    | false=>rfl
  rw [hcov]
  refine He (fun h=>Gk ?_) (fun h=>hnx _ (Jp (P:=fun x=>Gf1 x c=false) hI h))
  rw [e,Y54 hI h]
section lifted
variable {s:H0} {before after:List Stowed}
end lifted
theorem Rfb {s:H0} (hS:H37 s) {c:G3} {i j:Nat} {x y:G8} (hi:s.Covers[i]? = some x) (hj:s.Covers[j]? = some y) (hx:Gf1 x c=true) (hy:Gf1 y c=true):i=j:=by
  have hn:(s.Covers.flatMap x3).Nodup:=(List.nodup_append.1 hS.nodup).2.1
  have hmem:∀ z:G8,Gf1 z c=true→(⟨c.Bay,c.Row,2⟩:Hn)∈x3 z:=fun z hz=>by
    unfold Gf1 at hz
    simp only [Kq,Kr,List.any_eq_true] at hz
    obtain⟨h1,r,h2,h3⟩:=hz
    exact Ku.2 ⟨r,h2,by rw [h1,h3]⟩
  have key:∀ (l:List G8) (i j:Nat),(l.flatMap x3).Nodup→i < j→∀ x y,l[i]? = some x→l[j]? = some y→Gf1 x c=true→Gf1 y c=true→False:=by
    intro l
    induction l with
    | nil=>intro i j _ _ x y h; simp at h
    | cons z r ih=>
      intro i j hn hij x y hi hj hx hy
      rw [List.flatMap_cons,List.nodup_append] at hn
      cases j with
      | zero=>omega
      | succ j=>
        rw [List.getElem?_cons_succ] at hj
        cases i with
        | zero=>
          rw [List.getElem?_cons_zero] at hi; cases hi
          exact hn.2.2 _ (hmem _ hx) _ (List.mem_flatMap.2 ⟨y,Kk hj,hmem y hy⟩) rfl
        | succ i=>
          rw [List.getElem?_cons_succ] at hi
          exact ih i j hn.2.1 (by omega) x y hi hj hx hy
  rcases Nat.lt_trichotomy i j with h | h | h
  · exact(key _ i j hn h x y hi hj hx hy).elim
  · exact h
  · exact(key _ j i hn h y x hj hi hy hx).elim
theorem Jd7 {s:H0} (hS:H37 s) {c:G3} {k:Nat} {x:G8} (hk:s.Covers[k]? = some x):Gf1 x c=true ↔ Jj s c=(k:Int):=by
  unfold Jj
  rcases G4b (fun x=>Gf1 x c) s.Covers with ⟨h1,h2,_⟩ | ⟨m,y,h1,h2,h3,_⟩
  · rw [h1]
    constructor
    · intro h; rw [h2 x (Kk hk)] at h; cases h
    · intro h; omega
  · rw [h1]
    constructor
    · intro h; rw [Rfb hS h2 hk h3 h]
    · intro h
      have:m=k:=by omega
      subst this
      rw [hk] at h2; cases h2; exact h3
theorem Hf1 (l:List Stowed) (id:Int):G31 l id=some (Hc4 (fun x:Stowed=>decide (x.Box=id)) l):=by
  have h:=H65 (p:=fun x:Stowed=>decide (x.Box=id)) (f:=fun z0=>Gc7 z0 id) (xs:=l) (fun x _=>rfl)
  exact(congrArg (fun m=>bnd m fun r3=>some r3) h).trans rfl
instance (a b:Slot):Decidable (H24 a b):=by unfold H24 G8c; infer_instance
def J72 (l:List Stowed) (x:Slot):List Int:=(l.filter (fun y=>decide (H24 y.Slot x))).map (·.Box)
theorem J1c {l:List Stowed} {x:Slot} {b:Int}:b∈J72 l x ↔ ∃ y∈l,y.Box=b∧H24 y.Slot x:=by
  unfold J72
  rw [Ku]
  constructor
  · rintro⟨y,hy,e⟩
    rw [Kx,Kr] at hy
    exact⟨y,hy.1,e,hy.2⟩
  · rintro⟨y,hy,e,h⟩
    exact⟨y,Kx.2 ⟨hy,Kf h⟩,e⟩
theorem Hfe {α β R:Type} {Q:R→Prop} {p:α→Bool} {f:α→β} {b:α→Nat→List β→(List β→Option R)→Option R} {kx:List β→Option R} {l:List α} (hl:l.length≤1000000)
    (hb:∀ x i st nx,x∈l→st.length≤1000000→(p x=true→Wp (nx (st++[f x])) Q)→(p x=false→Wp (nx st) Q)→Wp (b x i st nx) Q) (hk:Wp (kx ((l.filter p).map f)) Q):Wp (each b kx l 0 []) Q:=by
  refine Jo (fun pre st=>st=(pre.filter p).map f) rfl (fun pre x post st nx e hI hnx=>?_) (fun st hI=>by rw [hI]; exact hk)
  subst hI
  have hlen:((pre.filter p).map f).length≤pre.length:=by rw [Ks]; exact List.length_filter_le _ _
  have hpl:pre.length≤l.length:=by rw [e]; simp
  refine hb x _ _ nx (by rw [e]; simp) (by omega) (fun h=>hnx _ ?_) (fun h=>hnx _ ?_)
  · rw [List.filter_append,List.map_append,List.filter_cons_of_pos h]; rfl
  · rw [List.filter_append,List.map_append,List.filter_cons_of_neg (by rw [h]; exact Bool.false_ne_true)]; simp
theorem R1e {β:Type} {st:List β} {y:β} (h:st.length≤1000000):decide ((st.length+[y].length)*8≤140737488355328∧st.length+[y].length≤maxLen)=true:=by
  refine Kf ⟨?_,?_⟩
  · rw [Kp]; omega
  · rw [Kp]; simp only [maxLen]; omega
def Qd0 (l:List Stowed) (id:Int):List Int×Int:=match Q3f l id with
  | some x=>(J72 l x.Slot,0)
  | none=>([],6)
theorem R81 (l:List Stowed) (id:Int) (hl:l.length≤1000000):Gf8 l id=some (Qd0 l id):=by
  refine Zd ?_
  unfold Gf8 Qd0
  refine Gu (Hf1 l id) ?_
  unfold Q3f
  rcases G4b (fun x:Stowed=>decide (x.Box=id)) l with ⟨h1,_,h3⟩ | ⟨m,x,h1,h2,_,h4⟩
  · rw [h1,h3]
    exact He (fun _=>Gk rfl) (fun h=>absurd (Ke h) (by omega))
  · rw [h1,h4]
    refine He (fun h=>absurd (Kd h) (by omega)) (fun _=>?_)
    refine Hfe (p:=fun y=>decide (H24 y.Slot x.Slot)) (f:=(·.Box)) hl (fun y i st nx hy hst ht hf=>?_) (Gk rfl)
    refine Gbe (fun j=>j=if H24 y.Slot x.Slot then st++[y.Box] else st) (fun K hK=>?_) (fun j hj=>?_)
    · refine Yh rfl h2 (H8 (wp_mono (Rdf y.Slot x.Slot) (fun r hr=>He (fun h=>R6 (R1e hst) (hK _ ?_)) (fun h=>hK _ ?_))))
      · rw [if_pos (hr.1 h)]
      · rw [if_neg (fun ho=>by rw [hr.2 ho] at h; cases h)]
    · by_cases ho:H24 y.Slot x.Slot
      · rw [hj,if_pos ho]; exact ht (Kf ho)
      · rw [hj,if_neg ho]; exact hf (Kg ho)
/-! ### Columns under and upon covers -/
theorem R28 {α:Type} {p:α→Bool} {l:List α} {z:Int}:z∈Gfe p l ↔ ∃ (m:Nat) (x:α),z=(m:Int)∧l[m]? = some x∧p x=true:=by
  unfold Gfe
  rw [Ku]
  constructor
  · rintro⟨⟨x,m⟩,hx,rfl⟩
    rw [Kx] at hx
    exact⟨m,x,rfl,List.mem_zipIdx_iff_getElem?.1 hx.1,hx.2⟩
  · rintro⟨m,x,rfl,h1,h2⟩
    exact⟨(x,m),Kx.2 ⟨List.mem_zipIdx_iff_getElem?.2 h1,h2⟩,rfl⟩
theorem Re1 {s:H0} {k:Nat} {x:G8} (hk:s.Covers[k]? = some x) (hr:∀ x∈s.Covers,x.Rows.length≤1000000) (hc:s.Columns.length≤1000000) :
    H28 s (k:Int)=some (Gfe (fun c:G3=>c.Deck&&Gf1 x c) s.Columns):=by
  have hlt:=(Kh hk).1
  refine Zd ?_
  unfold H28 H4a
  refine H8 (He (fun h=>?_) (fun _=>Gu (x:=Gfe (fun c:G3=>c.Deck&&Gf1 x c) s.Columns) ?_ (Gk (Gk rfl))))
  · simp only [Ky,Kr] at h; omega
  unfold G39
  refine Hff (fun c hcm=>Zd ?_) hc
  unfold Ga6
  cases hd:c.Deck with
  | false=>exact H8 (Gk (H8 (Gk (Gk rfl))))
  | true=>
    refine Gu (x:=x) ?_ (Gu (x:=Gf1 x c) (Jcc x c (hr x (Kk hk))) (Gk rfl))
    show Qm s.Covers (k:Int) some=some x
    exact Z2 hk some
theorem Hc8 (l:List Int) (v:Int):Yg l v=some (l.any (fun y=>decide (v=y))):=by
  unfold Yg G21
  have key:∀ (l:List Int) (i:Nat),∃ j:Int,each (fun(y:Int) (i:Nat) (_:Unit) nx=>bif decide (v=y) then some (i:Int) else nx ()) (fun(_:Unit)=>some (-1:Int)) l i ()=some j∧decide (0≤j)=l.any (fun y=>decide (v=y)):=by
    intro l
    induction l with
    | nil=>intro i; exact⟨-1,rfl,rfl⟩
    | cons x r ih=>
      intro i
      rw [each,List.any_cons]
      cases decide (v=x) with
      | true=>exact⟨(i:Int),rfl,Kf (by omega)⟩
      | false=>exact ih (i+1)
  obtain⟨j,e1,e2⟩:=key l 0
  have e1':G21 l v=some j:=e1
  unfold G21 at e1'
  rw [e1']
  show some (decide (0≤j))=_
  rw [e2]
theorem R80 {s:H0} {m:Nat} {c:G3} (hc:s.Columns[m]? = some c) (hr:∀ x∈s.Covers,x.Rows.length≤1000000) (hl:s.Covers.length≤1000000):Gf6 s (m:Int)=some (if c.Deck=true then -1 else Jj s c):=by
  refine Zd ?_
  unfold Gf6
  refine Yh rfl hc (He (fun h=>Gk (by rw [if_pos h])) (fun h=>Gu (Hbc hc hr hl) (Gk (by rw [if_neg (by rw [h]; exact Bool.false_ne_true)]))))
theorem Q93 {s:H0} (hS:H37 s) {l:List Stowed} {k:Nat} (hk:k < s.Covers.length) (hr:∀ x∈s.Covers,x.Rows.length≤1000000) (hl:l.length≤1000000) :
    Wp (Gde s l (k:Int)) (fun r=>∀ b,b∈r ↔ ∃ y∈l,y.Box=b∧∃ (m:Nat) (c:G3),y.Slot.G3=(m:Int)∧s.Columns[m]? = some c∧c.Deck=true∧Jj s c=(k:Int)):=by
  have hk':s.Covers[k]? = some s.Covers[k]:=Ki hk
  unfold Gde
  refine Gu (Re1 hk' hr (by have:=hS.num.2.1; omega)) ?_
  refine Hfe (p:=fun y=>(Gfe (fun c:G3=>c.Deck&&Gf1 s.Covers[k] c) s.Columns).any (fun z=>decide (y.Slot.G3=z))) (f:=(·.Box)) hl (fun y i st nx hy hst ht hf=>?_) (Gk (fun b=>?_))
  · refine Gbe (fun j=>j=if (Gfe (fun c:G3=>c.Deck&&Gf1 s.Covers[k] c) s.Columns).any (fun z=>decide (y.Slot.G3=z))=true then st++[y.Box] else st) (fun K hK=>?_) (fun j hj=>?_)
    · refine Gu (Hc8 _ _) (He (fun h=>R6 (R1e hst) (hK _ ?_)) (fun h=>hK _ ?_))
      · rw [if_pos h]
      · rw [if_neg (by rw [h]; exact Bool.false_ne_true)]
    · cases h:(Gfe (fun c:G3=>c.Deck&&Gf1 s.Covers[k] c) s.Columns).any (fun z=>decide (y.Slot.G3=z)) with
      | true=>rw [h] at hj; rw [hj]; exact ht h
      | false=>rw [h] at hj; rw [hj]; exact hf h
  · rw [Ku]
    have hiff:∀ y:Stowed,(Gfe (fun c:G3=>c.Deck&&Gf1 s.Covers[k] c) s.Columns).any (fun z=>decide (y.Slot.G3=z))=true ↔ ∃ (m:Nat) (c:G3),y.Slot.G3=(m:Int)∧s.Columns[m]? = some c∧c.Deck=true∧Jj s c=(k:Int):=fun y=>by
      rw [List.any_eq_true]
      constructor
      · rintro⟨z,hz,e⟩
        obtain⟨m,c,rfl,h1,h2⟩:=R28.1 hz
        rw [Kq] at h2
        exact⟨m,c,Kd e,h1,h2.1,(Jd7 hS hk').1 h2.2⟩
      · rintro⟨m,c,e,h1,h2,h3⟩
        exact⟨(m:Int),R28.2 ⟨m,c,rfl,h1,by rw [h2,(Jd7 hS hk').2 h3]; rfl⟩,Kf e⟩
    constructor
    · rintro⟨y,hy,rfl⟩
      rw [Kx] at hy
      exact⟨y,hy.1,rfl,(hiff y).1 hy.2⟩
    · rintro⟨y,hy,e,h⟩
      exact⟨y,Kx.2 ⟨hy,(hiff y).2 h⟩,e⟩
/-! ### The least closed set -/
def Pl (s:H0) (l:List Stowed) (a b:Int):Prop:=∃ x∈l,x.Box=a∧∃ y∈l,y.Box=b∧(H24 y.Slot x.Slot∨upon s x.Slot y.Slot)
structure Grw (s:H0) (l:List Stowed) (L:List Int) (ids:List Int) (m:Hr Int Unit) (L':List Int):Prop where
  inv:Je7 (l.map (·.Box)) m L'
  sub:∀ a∈L,a∈L'
  has:∀ a∈ids,a∈L'
  closed:∀ a∈L',a ∉ L→∀ b,Pl s l a b→b∈L'
  least:∀ C:Int→Prop,(∀ a b,C a→Pl s l a b→C b)→(∀ a∈L,C a)→(∀ a∈ids,C a)→∀ a∈L',C a
theorem J7e {l:List Stowed} (h:l.Pairwise (fun a b=>a.Box < b.Box)) {x y:Stowed} (hx:x∈l) (hy:y∈l) (e:x.Box=y.Box):x=y:=by
  obtain⟨i,hi,rfl⟩:=List.mem_iff_getElem.1 hx
  obtain⟨j,hj,rfl⟩:=List.mem_iff_getElem.1 hy
  have hp:=List.pairwise_iff_getElem.1 h
  rcases Nat.lt_trichotomy i j with g | g | g
  · have:=hp i j hi hj g; omega
  · subst g; rfl
  · have:=hp j i hj hi g; omega
structure Brd (s:H0) (boxes:List Box) (l:List Stowed):Prop where
  ship:H37 s
  right:G66 s boxes l
  rows:∀ x∈s.Covers,x.Rows.length≤1000000
  covs:s.Covers.length≤1000000
  len:l.length≤1000
theorem Brd.col {s:H0} {boxes:List Box} {l:List Stowed} (h:Brd s boxes l) {x:Stowed} (hx:x∈l):Y39 s x.Slot:=by
  obtain⟨b,_,h1,_⟩:=h.right.each x hx
  exact Q21 h1
theorem Reb {s:H0} {boxes:List Box} {l:List Stowed} (hB:Brd s boxes l):∀ (F:Nat) (ids:List Int) (m:Hr Int Unit) (L:List Int),Je7 (l.map (·.Box)) m L→(∀ a∈ids,a∈l.map (·.Box))→l.length+1≤F+L.length →
    Wp (G32 F ids m l s) (fun r=>∃ L',Grw s l L ids r L'):=by
  have hlen:(l.map (·.Box)).length=l.length:=Ks ..
  intro F
  induction F with
  | zero=>intro ids m L hi _ hF; have:=hi.le; omega
  | succ F ih=>
    intro ids m L hi hids hF
    show Wp (Ga8 (G32 F) F ids m l s) _
    unfold Ga8
    refine Jo (fun pre mm=>∃ L1,Grw s l L pre mm L1) ⟨L,hi,fun a h=>h,fun a h=>(Km h).elim,fun a h hn=>(hn h).elim,fun C _ h _=>h⟩ (fun pre y post mm nx e hI hnx=>?_) (fun mm hI=>Gk hI)
    obtain⟨L1,g1⟩:=hI
    have hy:y∈l.map (·.Box):=hids y (by rw [e]; simp)
    have hL1:L.length≤L1.length:=hi.nodup.length_le_of_subset (fun a ha=>g1.sub a ha)
    refine Gbe (fun j=>∃ L',Grw s l L (pre++[y]) j L') (fun K hK=>?_) (fun j hj=>hnx _ hj)
    refine He (fun hh=>hK _ ?_) (fun hh=>?_)
    · rw [g1.inv.has] at hh
      have hm:=Kd hh
      exact⟨L1,g1.inv,g1.sub,Jp g1.has hm,g1.closed,fun C h1 h2 h3=>g1.least C h1 h2 (fun a ha=>h3 a (Kt.2 (.inl ha)))⟩
    rw [g1.inv.has] at hh
    have hm:=Ke hh
    obtain⟨x,hx,hxb⟩:=Ku.1 hy
    obtain⟨x0,hf0⟩:∃ x0,Q3f l y=some x0:=by
      cases h:Q3f l y with
      | some x0=>exact⟨x0,rfl⟩
      | none=>exact absurd (Kf hxb) (by have:=List.find?_eq_none.1 h x hx; simpa using this)
    have hx0m:=List.mem_of_find?_eq_some hf0
    have hx0b:x0.Box=y:=Kd (List.find?_some (p:=fun x:Stowed=>decide (x.Box=y)) hf0)
    have hx0:x0=x:=J7e hB.right.sorted hx0m hx (by rw [hx0b,hxb])
    subst hx0
    have hs1:=g1.inv.snoc hm hy
    refine Gu (R81 l y (by have:=hB.len; omega)) ?_
    have habove:Qd0 l y=(J72 l x0.Slot,0):=by unfold Qd0; rw [hf0]
    rw [habove]
    have hl1:(L1++[y]).length=L1.length+1:=by simp
    refine H8 (wp_mono (ih (J72 l x0.Slot) _ (L1++[y]) hs1 (fun a ha=>by
      obtain⟨z,hz,e,_⟩:=J1c.1 ha
      exact Ku.2 ⟨z,hz,e⟩) (by omega)) (fun m2 h2=>?_))
    obtain⟨L2,g2⟩:=h2
    have hL2:(L1++[y]).length≤L2.length:=hs1.nodup.length_le_of_subset (fun a ha=>g2.sub a ha)
    refine Gu (Hf1 l y) ?_
    rcases G4b (fun x:Stowed=>decide (x.Box=y)) l with ⟨_,h2,_⟩ | ⟨q,x1,h1,h2,h3,_⟩
    · have:=h2 x0 hx; rw [Kf hxb] at this; cases this
    have hx1:x1=x0:=J7e hB.right.sorted (Kk h2) hx (by rw [Kd h3,hxb])
    subst hx1
    obtain⟨mc,c,hmc,hc⟩:=hB.col hx
    have honly:∀ b,Pl s l y b ↔ b∈J72 l x1.Slot∨∃ z∈l,z.Box=b∧upon s x1.Slot z.Slot:=fun b=>by
      rw [J1c]
      constructor
      · rintro⟨z,hz,e,w,hw,ew,h⟩
        have hzx:z=x1:=J7e hB.right.sorted hz hx (by rw [e,hxb])
        subst hzx
        rcases h with h | h
        · exact .inl ⟨w,hw,ew,h⟩
        · exact .inr ⟨w,hw,ew,h⟩
      · rintro(⟨w,hw,ew,h⟩ | ⟨w,hw,ew,h⟩)
        · exact⟨x1,hx,hxb,w,hw,ew,.inl h⟩
        · exact⟨x1,hx,hxb,w,hw,ew,.inr h⟩
    refine Yh h1 h2 ?_
    rw [hmc]
    refine Gu (R80 hc hB.rows hB.covs) (He (fun hh=>?_) (fun hh=>hK _ ?_))
    · have hh:=Kd hh
      by_cases hd:c.Deck=true
      · rw [if_pos hd] at hh; omega
      rw [if_neg hd] at hh ⊢
      have hd:c.Deck=false:=by simpa using hd
      obtain⟨k,hk,hkl⟩:∃ k:Nat,Jj s c=(k:Int)∧k < s.Covers.length:=by
        unfold Jj at hh ⊢
        rcases G4b (fun x=>Gf1 x c) s.Covers with ⟨h1,_,_⟩ | ⟨k,z,h1,h2,_,_⟩
        · omega
        · exact⟨k,h1,(Kh h2).1⟩
      rw [hk]
      refine H8 (wp_mono (Q93 hB.ship hkl hB.rows (by have:=hB.len; omega)) (fun up hup=>?_))
      have hupon:∀ z∈l,upon s x1.Slot z.Slot ↔ ∃ (m:Nat) (c':G3),z.Slot.G3=(m:Int)∧s.Columns[m]? = some c'∧c'.Deck=true∧Jj s c'=(k:Int):=fun z hz=>by
        constructor
        · rintro⟨m0,c0,m1,c1,e1,e2,e3,e4,_,q2,q3,q4⟩
          have:m0=mc:=by omega
          subst this
          rw [hc] at e2; cases e2
          exact⟨m1,c1,e3,e4,q2,by omega⟩
        · rintro⟨m1,c1,e3,e4,q2,q4⟩
          exact⟨mc,c,m1,c1,hmc,hc,e3,e4,hd,q2,hh,by omega⟩
      refine H8 (wp_mono (ih up _ L2 g2.inv (fun a ha=>by
        obtain⟨z,hz,e,_⟩:=(hup a).1 ha
        exact Ku.2 ⟨z,hz,e⟩) (by omega)) (fun m3 h3=>hK _ ?_))
      obtain⟨L3,g3⟩:=h3
      refine⟨L3,g3.inv,fun a ha=>g3.sub a (g2.sub a (Kt.2 (.inl (g1.sub a ha)))),Jp (fun a ha=>g3.sub a (g2.sub a (Kt.2 (.inl (g1.has a ha))))) (g3.sub y (g2.sub y (by simp))),fun a ha hn b hb=>?_,fun C h1 h2 h3=>?_⟩
      · by_cases ha2:a∈L2
        · by_cases ha1:a∈L1++[y]
          · rcases Kt.1 ha1 with ha1 | ha1
            · exact g3.sub b (g2.sub b (Kt.2 (.inl (g1.closed a ha1 hn b hb))))
            · rw [Kv] at ha1; subst ha1
              rcases (honly b).1 hb with h | ⟨z,hz,e,hu⟩
              · exact g3.sub b (g2.has b h)
              · exact g3.has b ((hup b).2 ⟨z,hz,e,(hupon z hz).1 hu⟩)
          · exact g3.sub b (g2.closed a ha2 ha1 b hb)
        · exact g3.closed a ha ha2 b hb
      · have hy':C y:=h3 y (by simp)
        have c1:=g1.least C h1 h2 (fun a ha=>h3 a (Kt.2 (.inl ha)))
        have c2:=g2.least C h1 (Jp c1 hy') (fun a ha=>h1 y a hy' ((honly a).2 (.inl ha)))
        exact g3.least C h1 c2 (fun a ha=>by
          obtain⟨z,hz,e,hu⟩:=(hup a).1 ha
          exact h1 y a hy' ((honly a).2 (.inr ⟨z,hz,e,(hupon z hz).2 hu⟩)))
    · have hh:=Ke hh
      have hno:∀ z,¬ upon s x1.Slot z:=fun z hz=>by
        obtain⟨m0,c0,m1,c1,e1,e2,e3,e4,q1,q2,q3,q4⟩:=hz
        have:m0=mc:=by omega
        subst this
        rw [hc] at e2; cases e2
        rw [if_neg (by rw [q1]; exact Bool.false_ne_true)] at hh
        exact hh q3
      refine⟨L2,g2.inv,fun a ha=>g2.sub a (Kt.2 (.inl (g1.sub a ha))),Jp (fun a ha=>g2.sub a (Kt.2 (.inl (g1.has a ha)))) (g2.sub y (by simp)),fun a ha hn b hb=>?_,fun C h1 h2 h3=>?_⟩
      · by_cases ha1:a∈L1++[y]
        · rcases Kt.1 ha1 with ha1 | ha1
          · exact g2.sub b (Kt.2 (.inl (g1.closed a ha1 hn b hb)))
          · rw [Kv] at ha1; subst ha1
            rcases (honly b).1 hb with h | ⟨z,hz,e,hu⟩
            · exact g2.has b h
            · exact(hno _ hu).elim
        · exact g2.closed a ha ha1 b hb
      · have hy':C y:=h3 y (by simp)
        exact g2.least C h1 (Jp (g1.least C h1 h2 (fun a ha=>h3 a (Kt.2 (.inl ha)))) hy') (fun a ha=>h1 y a hy' ((honly a).2 (.inl ha)))
structure G89 (s:H0) (l:List Stowed) (ids:List Int) (r:List Int):Prop where
  sorted:r.Pairwise (· < ·)
  seeds:∀ a∈ids,a∈r
  closed:∀ a∈r,∀ b,Pl s l a b→b∈r
  least:∀ C:Int→Prop,(∀ a b,C a→Pl s l a b→C b)→(∀ a∈ids,C a)→∀ a∈r,C a
def Ja7 (s:H0) (boxes:List Box) (l:List Stowed) (ids:List Int) (r:List Int×Int):Prop:=
  (¬ (H37 s∧G66 s boxes l)∧r=([],2))∨(H37 s∧G66 s boxes l∧((¬ (∀ a∈ids,a∈l.map (·.Box))∧r=([],6))∨((∀ a∈ids,a∈l.map (·.Box))∧r.2=0∧G89 s l ids r.1)))
theorem R2e (m:Hr Int Unit) (a:Int):a∈(Hr.l m).map (·.1) ↔ Hr.has m a=true:=by
  unfold Hr.has Ge6
  simp
theorem R8a {F:Nat} {s:H0} {boxes:List Box} {l:List Stowed} {ids:List Int} (hp:∀ c∈s.Columns,c.Plugs.length≤1048576) (hr:∀ x∈s.Covers,x.Rows.length≤1000000) (hc:s.Covers.length≤1000000) (hl:l.length≤1000) (hF:l.length+1≤F) :
    Wp (G0a F s boxes l ids) (Ja7 s boxes l ids):=by
  unfold G0a
  refine H8 (wp_mono (Q':=fun r=>r=true ↔ H37 s∧G66 s boxes l) ?_ (fun r4 h4=>He (fun h=>Gk (.inl ⟨fun hh=>?_,rfl⟩)) (fun h=>?_)))
  · unfold Yy
    exact H8 (wp_mono (Qa0 (boxes:=boxes) (l:=l) hp (fun x hx=>by have:=hr x hx; omega) (by omega)) (fun r hr=>Gk hr))
  · rw [h4.2 hh] at h; cases h
  obtain⟨hS,hR⟩:=h4.1 (by simpa using h)
  have hB:Brd s boxes l:=⟨hS,hR,hr,hc,hl⟩
  refine Jo (fun pre _=>∀ a∈pre,a∈l.map (·.Box)) (fun a ha=>(Km ha).elim) (fun pre y post u nx e hI hnx=>Gu (Hf1 l y) ?_) (fun u hI=>?_)
  · rcases G4b (fun x:Stowed=>decide (x.Box=y)) l with ⟨h1,h2,_⟩ | ⟨q,x,h1,h2,h3,_⟩
    · rw [h1]
      refine He (fun _=>Gk (.inr ⟨hS,hR,.inl ⟨fun hh=>?_,rfl⟩⟩)) (fun h=>absurd (Ke h) (by omega))
      obtain⟨x,hx,hb⟩:=Ku.1 (hh y (by rw [e]; simp))
      have:=h2 x hx; rw [Kf hb] at this; cases this
    · rw [h1]
      refine He (fun h=>absurd (Kd h) (by omega)) (fun _=>hnx _ (Jp hI (Ku.2 ⟨x,Kk h2,Kd h3⟩)))
  · refine H8 (wp_mono (Reb hB F ids _ [] .start hI (by simp; omega)) (fun m hm=>?_))
    obtain⟨L,g⟩:=hm
    have hn:=m.nd
    have hkl:(Hr.l m).length≤l.length:=by
      have:((Hr.l m).map (·.1)).length≤(l.map (·.Box)).length:=hn.length_le_of_subset (fun a ha=>by
        rw [R2e,g.inv.has] at ha
        exact g.inv.sub a (Kd ha))
      simpa using this
    have hse:G99 ((Hr.l m).map (·.1))=some (G8b ((Hr.l m).map (·.1))):=by
      unfold G99
      rw [Kf (show ((Hr.l m).map (·.1)).length < 4611686018427387904 by rw [Ks]; omega)]
      rfl
    refine R6 (Kf ⟨by omega,by simp only [maxLen]; omega⟩) (Gu hse (Gk (.inr ⟨hS,hR,.inr ⟨hI,rfl,?_⟩⟩)))
    have hpm:=Gd5 ((Hr.l m).map (·.1))
    have hmem:∀ a,a∈G8b ((Hr.l m).map (·.1)) ↔ a∈L:=fun a=>by
      rw [hpm.mem_iff,R2e,g.inv.has,Kr]
    refine⟨?_,fun a ha=>(hmem a).2 (g.has a ha),fun a ha b hb=>(hmem b).2 (g.closed a ((hmem a).1 ha) (by simp) b hb),fun C h1 h2 a ha=>g.least C h1 (fun a ha=>(Km ha).elim) h2 a ((hmem a).1 ha)⟩
    have hnd:(G8b ((Hr.l m).map (·.1))).Nodup:=hpm.nodup_iff.2 hn
    exact(List.pairwise_and_iff.2 ⟨Gad _,hnd⟩).imp (fun {a b} h=>by have h1:=h.1; have h2:=h.2; omega)

theorem Rea {s:H0} {m:Nat} {c:G3} (hc:s.Columns[m]? = some c):G0b s (m:Int)=some (if c.Deck=true then -1 else Jj s c):=by
  refine Zd ?_
  unfold G0b
  exact Yh rfl hc (He (fun h=>Gk (by rw [if_pos h])) (fun h=>Gu (J15 hc) (Gk (by rw [if_neg (by rw [h]; exact Bool.false_ne_true)]))))
theorem Q9d {s:H0} {m:Nat} {c:G3} {k:Int} (hc:s.Columns[m]? = some c):R9 s (m:Int) k=some (c.Deck&&decide (Jj s c=k)):=by
  refine Zd ?_
  unfold R9
  refine Yh rfl hc ?_
  cases hd:c.Deck with
  | true=>exact Gu (J15 hc) (Gk rfl)
  | false=>exact H8 (Gk (Gk rfl))
def Je2 (bs:List Bool):Nat:=bs.countP (fun b=>!b)
theorem R32:∀ (bs:List Bool) (k:Nat),bs[k]? = some false→Je2 (bs.set k true) < Je2 bs
  | [],k,h=>by simp at h
  | b::r,0,h=>by
    simp at h; subst h
    unfold Je2
    simp
  | b::r,k+1,h=>by
    have:=R32 r k (by simpa using h)
    unfold Je2 at this ⊢
    rw [List.set_cons_succ,List.countP_cons,List.countP_cons]
    omega
theorem Y57 (bs:List Bool):Je2 bs≤bs.length:=List.countP_le_length
structure MkR (s:H0) (l:List Stowed) (ids:List Int) (pre:List Int) (bs:List Bool):Prop where
  len:bs.length=l.length
  seeds:∀ a∈pre,∃ (i:Nat) (x:Stowed),l[i]? = some x∧x.Box=a∧bs[i]? = some true
  sound:∀ (i:Nat) (x:Stowed),l[i]? = some x→bs[i]? = some true→∀ C:Int→Prop,(∀ a b,C a→Pl s l a b→C b)→(∀ a∈ids,C a)→C x.Box
def Ra0 (s:H0) (l:List Stowed) (bs:List Bool) (i k:Nat):Prop:=∀ x y,l[i]? = some x→l[k]? = some y→bs[i]? = some true→(H24 y.Slot x.Slot∨upon s x.Slot y.Slot)→bs[k]? = some true
theorem MkR.set {s:H0} {l:List Stowed} {ids pre:List Int} {bs:List Bool} (h:MkR s l ids pre bs) {k:Nat} {y:Stowed} (hy:l[k]? = some y) (hs:∀ C:Int→Prop,(∀ a b,C a→Pl s l a b→C b)→(∀ a∈ids,C a)→C y.Box):MkR s l ids pre (bs.set k true):=by
  refine⟨by rw [List.length_set]; exact h.len,fun a ha=>?_,fun i x hx hb=>?_⟩
  · obtain⟨i,x,h1,h2,h3⟩:=h.seeds a ha
    refine⟨i,x,h1,h2,?_⟩
    by_cases e:k=i
    · subst e
      rw [List.getElem?_set_self (Kh h3).1]
    · rw [List.getElem?_set_ne e]; exact h3
  · by_cases e:k=i
    · subst e
      rw [hy] at hx; cases hx
      exact hs
    · rw [List.getElem?_set_ne e] at hb
      exact h.sound i x hx hb
theorem Re8 {F:Nat} {s:H0} {boxes:List Box} {l:List Stowed} {ids:List Int} (hp:∀ c∈s.Columns,c.Plugs.length≤1048576) (hr:∀ x∈s.Covers,x.Rows.length≤1000000) (hc:s.Covers.length≤1000000) (hb:∀ b∈boxes,0≤b.Size∧b.Size≤255) (hl:l.length≤1000) (hF:l.length+2≤F) :
    Wp (Rz F s boxes l ids) (Ja7 s boxes l ids):=by
  unfold Rz
  refine H8 (wp_mono (Q27 (F:=F) (boxes:=boxes) (l:=l) hp (fun x hx=>by have:=hr x hx; omega) hb (by omega)) (fun r4 h4=>He (fun h=>Gk (.inl ⟨fun hh=>?_,rfl⟩)) (fun h=>?_)))
  · rw [h4.2 hh] at h; cases h
  obtain⟨hS,hR⟩:=h4.1 (by simpa using h)
  have hB:Brd s boxes l:=⟨hS,hR,hr,hc,hl⟩
  have hn:Gd7 (l.length:Int)=some l.length:=by
    unfold Gd7
    rw [Kf (by omega),cond_true]; rfl
  refine Gu hn (R6 (Kf ⟨by omega,by simp only [maxLen]; omega,by omega⟩) ?_)
  have atL:∀ {a:Int} {i:Nat} {x:Stowed},l[i]? = some x→x.Box=a→a∈l.map (·.Box):=fun h1 h2=>Ku.2 ⟨_,Kk h1,h2⟩
  refine Jo (fun pre bs=>MkR s l ids pre bs∧∀ a∈pre,a∈l.map (·.Box)) ⟨⟨List.length_replicate,fun a ha=>(Km ha).elim,fun i x hx hbt=>?_⟩,fun a ha=>(Km ha).elim⟩ (fun pre y post bs nx e hI hnx=>Gu (Q2d l y) ?_) (fun bs hI=>?_)
  · have:=List.eq_of_mem_replicate (Kk hbt); cases this
  · obtain⟨hM,hI⟩:=hI
    rcases G4b (fun x:Stowed=>decide (x.Box=y)) l with ⟨h1,h2,_⟩ | ⟨q,x,h1,h2,h3,_⟩
    · rw [h1]
      refine He (fun _=>Gk (.inr ⟨hS,hR,.inl ⟨fun hh=>?_,rfl⟩⟩)) (fun h=>absurd (Ke h) (by omega))
      obtain⟨x,hx,hb⟩:=Ku.1 (hh y (by rw [e]; simp))
      have:=h2 x hx; rw [Kf hb] at this; cases this
    · rw [h1]
      have hq:q < bs.length:=by rw [hM.len]; exact(Kh h2).1
      have hxb:x.Box=y:=Kd h3
      refine He (fun h=>absurd (Kd h) (by omega)) (fun _=>Gu (x:=(q:Int)) ((Q2d l y).trans (by rw [h1])) (Yh rfl (Ki hq) (hnx _ ⟨?_,Jp hI (atL h2 hxb)⟩)))
      rw [Int.toNat_natCast]
      have hM':=hM.set h2 (fun C _ h=>by rw [hxb]; exact h y (by rw [e]; simp))
      exact⟨hM'.len,Jp hM'.seeds ⟨q,x,h2,hxb,List.getElem?_set_self hq⟩,hM'.sound⟩
  obtain⟨hM,hIn⟩:=hI
  refine wp_loop (fun st:Bool×List Bool=>MkR s l ids ids st.2∧(st.1=false→∀ i k,Ra0 s l st.2 i k)) (fun st=>Je2 st.2+(if st.1=true then 1 else 0)) ⟨hM,fun h=>by cases h⟩ (by
    have:=Y57 bs
    rw [hM.len] at this
    simp only [if_true]; omega) (fun st nx hI hnx=>?_)
  obtain⟨more,bs0⟩:=st
  obtain⟨hM0,hC0⟩:=hI
  refine He (fun hmore=>?_) (fun hmore=>?_)
  · -- a pass
    have hmore:more=true:=hmore
    subst hmore
    refine Jo (fun pre st=>MkR s l ids ids st.2∧(st.1=false→st.2=bs0∧∀ i,i < pre.length→∀ k,Ra0 s l bs0 i k)∧(st.1=true→Je2 st.2 < Je2 bs0)) ⟨hM0,fun _=>⟨rfl,fun i hi=>absurd hi (Nat.not_lt_zero _)⟩,fun h=>Bool.noConfusion h⟩ (fun pre x post st nx1 e hI hnx1=>?_) (fun st hI=>hnx _ ⟨hI.1,fun h i k x y hx=>?_⟩ ?_)
    · have hxi:l[pre.length]? = some x:=by rw [e]; simp
      have hxm:x∈l:=Kk hxi
      obtain⟨i1,i2,i3⟩:=hI
      refine Jo (fun pre2 st=>MkR s l ids ids st.2∧(st.1=false→st.2=bs0∧(∀ i,i < pre.length→∀ k,Ra0 s l bs0 i k)∧∀ k,k < pre2.length→Ra0 s l bs0 pre.length k)∧(st.1=true→Je2 st.2 < Je2 bs0)) ⟨i1,fun h=>⟨(i2 h).1,(i2 h).2,fun k hk=>by simp at hk⟩,i3⟩ (fun pre2 y post2 st2 nx2 e2 hI2 hnx2=>?_) (fun st2 hI2=>hnx1 _ ⟨hI2.1,fun h=>⟨(hI2.2.1 h).1,fun i hi k=>?_⟩,hI2.2.2⟩)
      · have hyk:l[pre2.length]? = some y:=by rw [e2]; simp
        have hym:y∈l:=Kk hyk
        obtain⟨more2,bs2⟩:=st2
        obtain⟨j1,j2,j3⟩:=hI2
        simp only at j1 j2 j3
        have hil:pre.length < bs2.length:=by rw [j1.len]; exact(Kh hxi).1
        have hkl:pre2.length < bs2.length:=by rw [j1.len]; exact(Kh hyk).1
        refine Gbe (fun j=>MkR s l ids ids j.2∧(j.1=false→j.2=bs0∧(∀ i,i < pre.length→∀ k,Ra0 s l bs0 i k)∧∀ k,k < (pre2++[y]).length→Ra0 s l bs0 pre.length k)∧(j.1=true→Je2 j.2 < Je2 bs0)) (fun K hK=>?_) (fun j hj=>hnx2 _ hj)
        -- nothing turns
        have same:Ra0 s l bs2 pre.length pre2.length→Wp (K (more2,bs2)) (Ja7 s boxes l ids):=fun hcl=>hK _ ⟨j1,fun h=>⟨(j2 h).1,(j2 h).2.1,fun k hk=>by
          rw [Ko,Kp] at hk
          by_cases ek:k=pre2.length
          · subst ek; rw [(j2 h).1] at hcl; exact hcl
          · exact(j2 h).2.2 k (by omega)⟩,j3⟩
        refine Yh rfl (Ki hil) ?_
        obtain⟨q184,e184,h184⟩:=H1a (c:=!(!bs2[pre.length])) (m:=Qm bs2 (pre2.length:Int) some) (x:=bs2[pre2.length]) (fun _=>Z2 (Ki hkl) some)
        refine Gu e184 (He (fun h=>same (fun x' y' hx' hy' hbt _=>?_)) (fun h=>?_))
        · have hbi:bs2[pre.length]=true:=by
            rw [Ki hil] at hbt; exact Kj hbt
          rw [hbi] at h h184
          simp only [Bool.not_true,Bool.false_or,Bool.not_false] at h h184
          rw [Ki hkl,← h184 trivial,h]
        · simp only [Kz,Bool.not_eq_false'] at h
          have hbi:bs2[pre.length]=true:=h.1
          have hbk:bs2[pre2.length]=false:=by rw [← h184 (by rw [hbi]; rfl)]; exact h.2
          obtain⟨mc,c,hmc,hcc⟩:=hB.col hxm
          obtain⟨md,d,hmd,hdd⟩:=hB.col hym
          rw [hmc,hmd]
          refine Gu (Rea hcc) (H8 (wp_mono (Y18 y.Slot x.Slot) (fun r188 h188=>?_)))
          obtain⟨r189,e189,h189⟩:=H1a (c:=(!r188)&&decide (0≤(if c.Deck=true then (-1:Int) else Jj s c))) (m:=R9 s (md:Int) (if c.Deck=true then -1 else Jj s c)) (x:=d.Deck&&decide (Jj s d=(if c.Deck=true then -1 else Jj s c))) (fun _=>Q9d hdd)
          have hup:upon s x.Slot y.Slot ↔ (0≤(if c.Deck=true then (-1:Int) else Jj s c)∧d.Deck=true∧Jj s d=(if c.Deck=true then (-1:Int) else Jj s c)):=by
            constructor
            · rintro⟨n0,d0,n1,d1,e1,e2,e3,e4,q1,q2,q3,q4⟩
              have e5:n0=mc:=by omega
              have e6:n1=md:=by omega
              subst e5 e6
              rw [hcc] at e2; cases e2
              rw [hdd] at e4; cases e4
              rw [if_neg (by rw [q1]; exact Bool.false_ne_true)]
              exact⟨q3,q2,q4⟩
            · rintro⟨q1,q2,q3⟩
              by_cases hd:c.Deck=true
              · rw [if_pos hd] at q1; omega
              · rw [if_neg hd] at q1 q3
                exact⟨mc,c,md,d,hmc,hcc,hmd,hdd,by simpa using hd,q2,q1,q3⟩
          have hiff:(r188||(decide (0≤(if c.Deck=true then (-1:Int) else Jj s c))&&r189))=true ↔ (H24 y.Slot x.Slot∨upon s x.Slot y.Slot):=by
            rw [hup,← h188]
            cases hr:r188 with
            | true=>simp
            | false=>
              by_cases h0:0≤(if c.Deck=true then (-1:Int) else Jj s c)
              · have:=h189 (by rw [hr,Kf h0]; rfl)
                rw [this]
                simp [h0]
              · simp [h0]
          refine Gu e189 (He (fun h=>?_) (fun h=>same (fun x' y' hx' hy' hbt hpl=>?_)))
          · have hpl:Pl s l x.Box y.Box:=⟨x,hxm,rfl,y,hym,rfl,hiff.1 h⟩
            refine Yh rfl (Ki hkl) (hK _ ⟨?_,fun h=>Bool.noConfusion h,fun _=>?_⟩)
            · rw [Int.toNat_natCast]
              exact j1.set hyk (fun C h1 h2=>h1 _ _ (j1.sound pre.length x hxi (by rw [Ki hil,hbi]) C h1 h2) hpl)
            · rw [Int.toNat_natCast]
              have hlt:=R32 bs2 pre2.length (by rw [Ki hkl,hbk])
              cases hm2:more2 with
              | true=>exact Nat.lt_trans hlt (j3 hm2)
              | false=>rw [(j2 hm2).1] at hlt ⊢; exact hlt
          · rw [hxi] at hx'; cases hx'
            rw [hyk] at hy'; cases hy'
            rw [hiff.2 hpl] at h; cases h
      · rw [Ko,Kp] at hi
        by_cases ei:i=pre.length
        · subst ei
          by_cases hk:k < l.length
          · exact(hI2.2.1 h).2.2 k hk
          · intro x' y' _ hy'
            exact absurd (Kh hy').1 hk
        · exact(hI2.2.1 h).2.1 i (by omega) k
    · have h2:=hI.2.1 h
      rw [h2.1]
      exact h2.2 i (Kh hx).1 k x y hx
    · cases hm:st.1 with
      | true=>have:=hI.2.2 hm; simp only [if_true]; omega
      | false=>
        rw [(hI.2.1 hm).1]
        simp
  · have hmore:more=false:=hmore
    subst hmore
    have hcl:=hC0 rfl
    simp only at hM0 hcl
    refine Jo (fun pre out=>out.length≤pre.length∧out.Pairwise (· < ·)∧(∀ a∈out,∃ (i:Nat) (x:Stowed),i < pre.length∧l[i]? = some x∧x.Box=a∧bs0[i]? = some true)∧∀ (i:Nat) (x:Stowed),i < pre.length→l[i]? = some x→bs0[i]? = some true→x.Box∈out) ⟨Kn,List.Pairwise.nil,fun a ha=>(Km ha).elim,fun i x hi=>by simp at hi⟩ (fun pre x post out nx1 e hI hnx1=>?_) (fun out hI=>Gk (.inr ⟨hS,hR,.inr ⟨hIn,rfl,?_⟩⟩))
    · have hxi:l[pre.length]? = some x:=by rw [e]; simp
      have hil:pre.length < bs0.length:=by rw [hM0.len]; exact(Kh hxi).1
      have hpl:pre.length≤l.length:=by rw [e]; simp
      obtain⟨k0,k1,k2,k3⟩:=hI
      refine Gbe (fun j=>j.length≤(pre++[x]).length∧j.Pairwise (· < ·)∧(∀ a∈j,∃ (i:Nat) (x':Stowed),i < (pre++[x]).length∧l[i]? = some x'∧x'.Box=a∧bs0[i]? = some true)∧∀ (i:Nat) (x':Stowed),i < (pre++[x]).length→l[i]? = some x'→bs0[i]? = some true→x'.Box∈j) (fun K hK=>?_) (fun j hj=>hnx1 _ hj)
      refine Yh rfl (Ki hil) (He (fun h=>R6 (R1e (by omega)) (hK _ ?_)) (fun h=>hK _ ?_))
      · refine⟨by simp; omega,H19 k1 (fun a ha=>?_),Jp (fun a ha=>?_) ⟨pre.length,x,by simp,hxi,rfl,by rw [Ki hil,h]⟩,fun i x' hi hx' hbt=>?_⟩
        · obtain⟨i,x',g1,g2,g3,_⟩:=k2 a ha
          have:=List.pairwise_iff_getElem.1 hR.sorted i pre.length (by omega) (Kh hxi).1 g1
          rw [(Kh g2).2,(Kh hxi).2] at this
          omega
        · obtain⟨i,x',g1,g2⟩:=k2 a ha
          exact⟨i,x',by simp; omega,g2⟩
        · rw [Ko,Kp] at hi
          by_cases ei:i=pre.length
          · subst ei; rw [hxi] at hx'; cases hx'; simp
          · exact Kt.2 (.inl (k3 i x' (by omega) hx' hbt))
      · refine⟨by simp; omega,k1,fun a ha=>?_,fun i x' hi hx' hbt=>?_⟩
        · obtain⟨i,x',g1,g2⟩:=k2 a ha
          exact⟨i,x',by simp; omega,g2⟩
        · rw [Ko,Kp] at hi
          by_cases ei:i=pre.length
          · subst ei; rw [Ki hil,h] at hbt; cases hbt
          · exact k3 i x' (by omega) hx' hbt
    · obtain⟨k0,k1,k2,k3⟩:=hI
      refine⟨k1,fun a ha=>?_,fun a ha b hpl=>?_,fun C h1 h2 a ha=>?_⟩
      · obtain⟨i,x,g1,g2,g3⟩:=hM0.seeds a ha
        rw [← g2]
        exact k3 i x (Kh g1).1 g1 g3
      · obtain⟨i,x,g1,g2,g3,g4⟩:=k2 a ha
        obtain⟨x',hx',ex',y,hy,ey,hh⟩:=hpl
        have hxx:x=x':=J7e hR.sorted (Kk g2) hx' (by rw [g3,ex'])
        subst hxx
        obtain⟨k,hk,rfl⟩:=List.mem_iff_getElem.1 hy
        have hky:l[k]? = some l[k]:=Ki hk
        rw [← ey]
        exact k3 k _ hk hky (hcl i k x _ g2 hky g4 hh)
      · obtain⟨i,x,g1,g2,g3,g4⟩:=k2 a ha
        rw [← g3]
        exact hM0.sound i x g2 g4 C h1 h2
structure CovG (s:H0):Prop where
 len:s.Covers.length≤12
structure Rc7 (s:H0):Prop where
 small:Small s
 ship:H37 s
 plugs:∀ c∈s.Columns,c.Plugs.length≤1048576
 covs:CovG s
theorem G38 {s:H0} (h:Rc7 s):Small s:=h.small
theorem Hf8 {s:H0} (h:Rc7 s):H37 s:=h.ship
theorem J9e {s:H0} (h:Rc7 s):∀ c∈s.Columns,c.Plugs.length≤1048576:=h.plugs
structure Sta (s:H0) (boxes:List Box) (l:List Stowed):Prop where
 ship:Rc7 s
 right:G66 s boxes l
 len:l.length≤10
theorem Sta.reach {F:Nat} {s:H0} {boxes:List Box} {l:List Stowed} {ids:List Int} (h:Sta s boxes l) (hF:40≤F) (hi:∀ a∈ids,a∈l.map (·.Box)) :
  Wp (G0a F s boxes l ids) (fun r=>r.2=0∧G89 s l ids r.1):=by
 have hs:=G38 h.ship
 have hl:=h.len
 refine wp_mono (R8a (J9e h.ship) (fun x hx=>by have:=hs.rows x hx; omega) (by have:=hs.covs; omega) (by omega) (by omega)) (fun r hr=>?_)
 rcases hr with ⟨h1,_⟩ | ⟨_,_,⟨h1,_⟩ | ⟨_,h2,h3⟩⟩
 ·exact(h1 ⟨Hf8 h.ship,h.right⟩).elim
 ·exact(h1 hi).elim
 ·exact⟨h2,h3⟩
theorem Sta.colIn {s:H0} {boxes:List Box} {l:List Stowed} (h:Sta s boxes l) {x:Stowed} (hx:x∈l):Y39 s x.Slot:=by
 obtain⟨b,_,h1,_⟩:=h.right.each x hx
 exact Q21 h1
theorem Y14 {n m:Nat} (h:n+m≤1000):decide ((n+m)*8≤140737488355328∧n+m≤maxLen)=true:=Kf ⟨by omega,by simp only [maxLen]; omega⟩
end Go.Proofs.YthcpolfodgjekaaGreat
