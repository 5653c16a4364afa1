/-
 What the functions return that lend and check arguments.
-/
import Derived.Test.YtfkilljboodoaaaGreatXL
import Derived.Test.YtfkilljboodoaaaGreatWp
set_option maxRecDepth 100000
set_option linter.unusedVariables false
namespace Go.Proofs.YtfkilljboodoaaaGreat
open Go.RowKit

theorem roomS {n k:Nat} (hn:n≤10000001) (hk:k≤1000):decide (n*k≤140737488355328∧n≤maxLen)=true:=by
 refine decide_eq_true ⟨?_,by unfold maxLen; omega⟩
 exact Nat.le_trans (Nat.mul_le_mul hn hk) (by omega)
theorem roomM {n k:Nat} (hn:n≤10000001) (hk:k≤1000):decide (k*n≤281474976710656∧n≤maxLen)=true:=by
 refine decide_eq_true ⟨?_,by unfold maxLen; omega⟩
 exact Nat.le_trans (Nat.mul_le_mul hk hn) (by omega)
theorem natOfI {n:Nat} {z:Int} (h:z=(n:Int)):H1a z=some n:=by
 subst h
 unfold H1a
 rw [decide_eq_true (by omega:(0:Int)≤(n:Int))]
 simp
section generic
variable {α β:Type}
theorem H8b {x:α} {k:α→Option β}:bnd (some x) k=k x:=rfl
/-- The marks behind a lent slice. -/
def marks (mv:Nat→α):List α:=(List.range 12).map mv
theorem J76 {mv:Nat→α} {i:Nat} (h:i < 12):(marks mv)[i]? = some (mv i):=by
 unfold marks
 rw [List.getElem?_map,List.getElem?_range h]; rfl
theorem J02 {mv:Nat→α}:(marks mv).length=12:=by simp [marks]
theorem marks_take {mv:Nat→α} {i:Nat} (h:i < 12):(marks mv).take (i+1)=(marks mv).take i++[mv i]:=by
 rw [List.take_add_one,J76 h]; rfl
theorem lentTail {mk:Int→Option β} {mv:Nat→β} (of:β→α) (hmk:∀ i:Nat,i < 12→mk (i:Int)=some (mv i)) {by_:Nat} (hby:by_≤1000) {n:Nat} {s0:List α} (hn:s0.length=n) (hl:n≤1048576) :
  (need (decide ((12:Int)≤9223372036854775807)) <| upto (fun i (s:List α) nx=>bnd (mk (i:Int)) fun r=>need (decide ((s.length+[of r].length)*by_≤140737488355328∧s.length+[of r].length≤maxLen)) <| nx (s++[of r])) (fun s=>bnd (G24 (n:Int) s.length) fun m=>some (s.take m,s.drop m)) (12:Int).toNat 0 s0)=some (s0,(marks mv).map of):=by
 refine G6b (G1d rfl ?_)
 refine H99 (fun i s=>s=s0++((marks mv).map of).take i) (by simp) (fun i s nx hi hI hnx=>?_) (fun s hI=>?_)
 ·have hi:i < 12:=hi
  subst hI
  have hle:(s0++((marks mv).map of).take i).length≤n+12:=by
   rw [List.length_append,List.length_take]; omega
  refine H5 (hmk i hi) (G1d (roomS (by rw [List.length_singleton]; omega) hby) (hnx _ ?_))
  rw [← List.map_take,← List.map_take,marks_take hi,List.map_append,List.append_assoc]
  rfl
 ·have h12:(12:Int).toNat=12:=rfl
  rw [h12,List.take_of_length_le (by rw [List.length_map,J02]; omega)] at hI
  subst hI
  refine H6 (J53 (m:=n) rfl (by rw [List.length_append]; omega) (Gi ?_))
  rw [← hn,List.take_left,List.drop_left]
theorem H82 {mk:Int→Option α} {mv:Nat→α} (hmk:∀ i:Nat,i < 12→mk (i:Int)=some (mv i)) {by_:Nat} (hby:by_≤1000) {l:List α} (hl:l.length≤1048576) :
  (G32 ((l.length:Int)+12) fun v3=>bnd (H1a v3) fun m4=>need (decide (by_*m4≤281474976710656∧m4≤maxLen)) <| need (decide ((([]:List α).length+l.length)*by_≤140737488355328∧([]:List α).length+l.length≤maxLen)) <|
   need (decide ((12:Int)≤9223372036854775807)) <| upto (fun i (s:List α) nx=>bnd (mk (i:Int)) fun r=>need (decide ((s.length+[r].length)*by_≤140737488355328∧s.length+[r].length≤maxLen)) <| nx (s++[r])) (fun s=>bnd (G24 (l.length:Int) s.length) fun m=>some (s.take m,s.drop m)) (12:Int).toNat 0 (([]:List α)++l))=some (l,marks mv):=by
 refine G6b (G2a ⟨by omega,by omega⟩ (H5 (natOfI (n:=l.length+12) (by omega)) (G1d (roomM (by omega) hby) (G1d (roomS (by rw [List.length_nil]; omega) hby) ⟨_,lentTail (fun x=>x) hmk hby (s0:=([]:List α)++l) (n:=l.length) (by simp) hl,?_⟩))))
 rw [List.map_id'',List.nil_append]
 exact fun _=>rfl
theorem Hc4 {lx:β→Option α} {lv:β→α} {mk:Int→Option β} {mv:Nat→β} (of:β→α) (hmk:∀ i:Nat,i < 12→mk (i:Int)=some (mv i)) {by_:Nat} (hby:by_≤1000) {l:List β} (hlx:∀ x∈l,lx x=some (lv x)) (hl:l.length≤1048576) :
  (G32 ((l.length:Int)+12) fun v3=>bnd (H1a v3) fun m4=>need (decide (by_*m4≤281474976710656∧m4≤maxLen)) <|
   each (fun y (i:Nat) (s:List α) nx=>bnd (lx y) fun r=>need (decide ((s.length+[r].length)*by_≤140737488355328∧s.length+[r].length≤maxLen)) <| nx (s++[r]))
   (fun(s0:List α)=>need (decide ((12:Int)≤9223372036854775807)) <| upto (fun i (s:List α) nx=>bnd (mk (i:Int)) fun r=>need (decide ((s.length+[of r].length)*by_≤140737488355328∧s.length+[of r].length≤maxLen)) <| nx (s++[of r])) (fun s=>bnd (G24 (l.length:Int) s.length) fun m=>some (s.take m,s.drop m)) (12:Int).toNat 0 s0) l 0 [])=some (l.map lv,(marks mv).map of):=by
 refine G6b (G2a ⟨by omega,by omega⟩ (H5 (natOfI (n:=l.length+12) (by omega)) (G1d (roomM (by omega) hby) ?_)))
 refine Qg (fun pre s=>s=pre.map lv) rfl (fun pre y post s nx e hI hnx=>?_) (fun s hI=>?_)
 ·subst hI
  have hp:pre.length < l.length:=by rw [e]; simp
  refine H5 (hlx y (by rw [e]; simp)) (G1d (roomS (by rw [List.length_singleton,List.length_map]; omega) hby) (hnx _ ?_))
  rw [List.map_append]; rfl
 ·subst hI
  exact⟨_,lentTail of hmk hby (by simp) hl,rfl⟩
/-- Each element is what it was: the checks pass. -/
theorem keptGen [Inhabited α] [Inhabited β] {mk:Int→Option β} {mv:Nat→β} (hmk:∀ i:Nat,i < 12→mk (i:Int)=some (mv i)) {l:List β} (hl:l.length≤1048576) {xs:List α} {ys:List α} (hx:xs.length=l.length) (hy:ys.length=12)
  {body:α→Nat→Unit→(Unit→Option Bool)→Option Bool}
  (h1:∀ (i:Nat) y z nx,i < l.length→xs[i]? = some y→l[i]? = some z→body y i () nx=nx ())
  (h2:∀ (i:Nat) y nx,i < 12→ys[i]? = some y→body y (l.length+i) () nx=nx ()) :
  (bif decide ((((xs,ys):Ln α).1.length:Int)≠(l.length:Int)) then some false else (G32 ((l.length:Int)+12) fun v6=>bnd (G24 v6 (((xs,ys):Ln α).1++((xs,ys):Ln α).2).length) fun m7=>each body (fun(_:Unit)=>some true) ((((xs,ys):Ln α).1++((xs,ys):Ln α).2).take m7) 0 ()))=some true:=by
 have hd:decide ((((xs,ys):Ln α).1.length:Int)≠(l.length:Int))=false:=decide_eq_false (by simp only [ne_eq,Decidable.not_not]; omega)
 rw [hd,cond_false]
 refine G6b (G2a ⟨by omega,by omega⟩ (H6 (J53 (m:=l.length+12) (by omega) (by simp only [List.length_append]; omega) ?_)))
 have ht:(((xs,ys):Ln α).1++((xs,ys):Ln α).2).take (l.length+12)=xs++ys:=List.take_of_length_le (by simp only [List.length_append]; omega)
 rw [ht]
 refine Qg (fun _ _=>True) trivial (fun pre y post s nx e _ hnx=>?_) (fun s _=>Gi rfl)
 have hg:(xs++ys)[pre.length]? = some y:=by rw [e]; simp
 rcases Nat.lt_or_ge pre.length l.length with h | h
 ·rw [List.getElem?_append_left (by omega)] at hg
  rw [h1 pre.length y _ nx h hg (List.getElem?_eq_getElem h)]
  exact hnx _ trivial
 ·rw [List.getElem?_append_right (by omega)] at hg
  have hp:pre.length < l.length+12:=by
   have:=congrArg List.length e
   simp only [List.length_append,List.length_cons] at this
   omega
  have:=h2 (pre.length - l.length) y nx (by omega) (by rw [← hx]; exact hg)
  rw [show l.length+(pre.length - l.length)=pre.length by omega] at this
  rw [this]
  exact hnx _ trivial
theorem H83 [DecidableEq α] [Inhabited α] {mk:Int→Option α} {mv:Nat→α} (hmk:∀ i:Nat,i < 12→mk (i:Int)=some (mv i)) {l:List α} (hl:l.length≤1048576) :
  (bif decide ((((l,marks mv):Ln α).1.length:Int)≠(l.length:Int)) then some false else (G32 ((l.length:Int)+12) fun v6=>bnd (G24 v6 (((l,marks mv):Ln α).1++((l,marks mv):Ln α).2).length) fun m7=>
   each (fun y29 i29 (s29:Unit) nx29=>
    bnd (bif decide ((i29:Int) < (l.length:Int)) then Q3 l (i29:Int) some else some default) fun y34=>
    bnd (bif ((!((decide ((i29:Int) < (l.length:Int)))&&(!(decide (y29=y34)))))&&(decide ((l.length:Int)≤(i29:Int)))) then G32 ((i29:Int) - (l.length:Int)) some else some 0) fun v35=>
    bnd (bif ((!((decide ((i29:Int) < (l.length:Int)))&&(!(decide (y29=y34)))))&&(decide ((l.length:Int)≤(i29:Int)))) then mk v35 else some default) fun r36=>
    bif (((decide ((i29:Int) < (l.length:Int)))&&(!(decide (y29=y34))))||((decide ((l.length:Int)≤(i29:Int)))&&(!(decide (y29=r36))))) then (some false) else (nx29 ()))
   (fun(_:Unit)=>some true) ((((l,marks mv):Ln α).1++((l,marks mv):Ln α).2).take m7) 0 ()))=some true:=by
 refine keptGen hmk hl rfl J02 (fun i y z nx hi hy hz=>?_) (fun i y nx hi hy=>?_)
 ·rw [hy] at hz
  cases hz
  have hg:Q3 l (i:Int) some=some y:=by
   unfold Q3
   rw [decide_eq_true (by omega:(0:Int)≤(i:Int)),cond_true,show (i:Int).toNat=i by omega,hy]; rfl
  rw [decide_eq_true (by omega:(i:Int) < (l.length:Int)),cond_true,hg]
  simp only [bnd,decide_true,Bool.not_true,Bool.and_false,Bool.not_false,Bool.true_and,Bool.false_or]
  rw [decide_eq_false (by omega:¬ (l.length:Int)≤(i:Int))]
  rfl
 ·rw [J76 hi] at hy
  cases hy
  have hc:((l.length+i:Nat):Int) - (l.length:Int)=(i:Int):=by omega
  rw [decide_eq_false (by omega:¬ ((l.length+i:Nat):Int) < (l.length:Int)),cond_false,hc,decide_eq_true (by omega:(l.length:Int)≤((l.length+i:Nat):Int))]
  have hk:G32 (i:Int) some=some (i:Int):=G6b (G2a ⟨by omega,by omega⟩ (Gi rfl))
  simp only [bnd,Bool.false_and,Bool.not_false,Bool.and_self,cond_true,hk,hmk i hi,decide_true,Bool.not_true,Bool.and_false,Bool.or_self,cond_false]
theorem Hc6 [Inhabited α] [Inhabited β] {mk:Int→Option β} {mv:Nat→β} (hmk:∀ i:Nat,i < 12→mk (i:Int)=some (mv i)) {lv of:β→α} {pl:α→β} {keep:α→β→Option Bool} {same:β→β→Option Bool} {l:List β} (hl:l.length≤1048576)
  (hkeep:∀ x∈l,keep (lv x) x=some true) (hsame:∀ i:Nat,i < 12→same (pl (of (mv i))) (mv i)=some true) :
  (bif decide ((((l.map lv,(marks mv).map of):Ln α).1.length:Int)≠(l.length:Int)) then some false else (G32 ((l.length:Int)+12) fun v6=>bnd (G24 v6 (((l.map lv,(marks mv).map of):Ln α).1++((l.map lv,(marks mv).map of):Ln α).2).length) fun m7=>
   each (fun y33 i33 (s33:Unit) nx33=>
    bnd (bif decide ((i33:Int) < (l.length:Int)) then Q3 l (i33:Int) some else some default) fun y38=>
    bnd (bif decide ((i33:Int) < (l.length:Int)) then keep y33 y38 else some default) fun r39=>
    bnd (bif ((!((decide ((i33:Int) < (l.length:Int)))&&(!r39)))&&(decide ((l.length:Int)≤(i33:Int)))) then G32 ((i33:Int) - (l.length:Int)) some else some 0) fun v40=>
    bnd (bif ((!((decide ((i33:Int) < (l.length:Int)))&&(!r39)))&&(decide ((l.length:Int)≤(i33:Int)))) then mk v40 else some default) fun r41=>
    bnd (bif ((!((decide ((i33:Int) < (l.length:Int)))&&(!r39)))&&(decide ((l.length:Int)≤(i33:Int)))) then same (pl y33) r41 else some default) fun r42=>
    bif (((decide ((i33:Int) < (l.length:Int)))&&(!r39))||((decide ((l.length:Int)≤(i33:Int)))&&(!r42))) then (some false) else (nx33 ()))
   (fun(_:Unit)=>some true) ((((l.map lv,(marks mv).map of):Ln α).1++((l.map lv,(marks mv).map of):Ln α).2).take m7) 0 ()))=some true:=by
 refine keptGen hmk hl (by simp) (by simp [J02]) (fun i y z nx hi hy hz=>?_) (fun i y nx hi hy=>?_)
 ·rw [List.getElem?_map,hz] at hy
  cases hy
  have hg:Q3 l (i:Int) some=some z:=by
   unfold Q3
   rw [decide_eq_true (by omega:(0:Int)≤(i:Int)),cond_true,show (i:Int).toNat=i by omega,hz]; rfl
  rw [decide_eq_true (by omega:(i:Int) < (l.length:Int)),cond_true,hg]
  simp only [bnd,cond_true,hkeep z (List.mem_of_getElem? hz),Bool.not_true,Bool.and_false,Bool.not_false,Bool.true_and,Bool.false_or]
  rw [decide_eq_false (by omega:¬ (l.length:Int)≤(i:Int))]
  rfl
 ·rw [List.getElem?_map,J76 hi] at hy
  cases hy
  have hc:((l.length+i:Nat):Int) - (l.length:Int)=(i:Int):=by omega
  rw [decide_eq_false (by omega:¬ ((l.length+i:Nat):Int) < (l.length:Int)),cond_false,hc,decide_eq_true (by omega:(l.length:Int)≤((l.length+i:Nat):Int))]
  have hk:G32 (i:Int) some=some (i:Int):=G6b (G2a ⟨by omega,by omega⟩ (Gi rfl))
  simp only [bnd,cond_false,Bool.false_and,Bool.not_false,Bool.and_self,cond_true,hk,hmk i hi,hsame i hi,Bool.not_true,Bool.and_false,Bool.or_self]
/-- A list is the same as itself. -/
theorem H9c {l:List α} {body:α→Nat→Unit→(Unit→Option Bool)→Option Bool} (h:∀ (i:Nat) y nx,l[i]? = some y→body y i () nx=nx ()) :
  (bif decide ((l.length:Int)≠(l.length:Int)) then some false else each body (fun(_:Unit)=>some true) l 0 ())=some true:=by
 rw [decide_eq_false (by simp),cond_false]
 refine G6b (Qg (fun _ _=>True) trivial (fun pre y post s nx e _ hnx=>?_) (fun s _=>Gi rfl))
 rw [h pre.length y nx (by rw [e]; simp)]
 exact hnx _ trivial
theorem Qa {γ:Type} {l:List α} {i:Nat} {y:α} (h:l[i]? = some y) (k:α→Option γ):Q3 l (i:Int) k=k y:=by
 unfold Q3
 rw [decide_eq_true (by omega:(0:Int)≤(i:Int)),cond_true,show (i:Int).toNat=i by omega,h]; rfl
end generic

/-- The marks' numbers. -/
def mkN (i:Nat):Int:=8000024+(i:Int)
theorem mark_eq (i:Nat) (h:i < 12):Ji 1 (i:Int)=some (mkN i):=by
 refine G6b ?_
 unfold Ji mkN
 exact G2a ⟨by decide,by decide⟩ (G2a ⟨by decide,by decide⟩ (G2a ⟨by omega,by omega⟩ (Gi (by omega))))
theorem Gb0 (a:List Int):J9 a a=some true:=by
 unfold J9
 exact H9c (fun i y nx h=>by rw [Qa h]; simp)
theorem SameRows_self (a:List Row):Yt a a=some true:=by
 unfold Yt
 exact H9c (fun i y nx h=>by rw [Qa h]; simp)
theorem J43 (a:List Frame):Y5 a a=some true:=by
 unfold Y5
 exact H9c (fun i y nx h=>by rw [Qa h]; simp)
abbrev J01:=mkN
theorem mkInts (i:Nat) (h:i < 12):Ji 1 (i:Int)=some (J01 i):=mark_eq i h
theorem H92 {l:List Int} (hl:l.length≤1048576):R1 l=some (l,marks J01):=by
 unfold R1
 exact H82 mkInts (by omega) hl
theorem H95 {l:List Int} (hl:l.length≤1048576):J7 (l,marks J01) l=some true:=by
 unfold J7
 exact H83 mkInts hl
def J00 (i:Nat):Row:=(Ra 1 (i:Int)).getD default
theorem mkRows (i:Nat) (h:i < 12):Ra 1 (i:Int)=some (J00 i):=by
 unfold J00 Ra
 rw [mark_eq i h]; rfl
theorem LentRows_eq {l:List Row} (hl:l.length≤1048576):Yw l=some (l,marks J00):=by
 unfold Yw
 exact H82 mkRows (by omega) hl
theorem KeptRows_eq {l:List Row} (hl:l.length≤1048576):Rm (l,marks J00) l=some true:=by
 unfold Rm
 exact H83 mkRows hl
def H2e (i:Nat):Frame:=(Qr 1 (i:Int)).getD default
theorem mkFrames (i:Nat) (h:i < 12):Qr 1 (i:Int)=some (H2e i):=by
 unfold H2e Qr
 rw [mark_eq i h]; rfl
theorem LentFrames_eq {l:List Frame} (hl:l.length≤1048576):Y7 l=some (l,marks H2e):=by
 unfold Y7
 exact H82 mkFrames (by omega) hl
theorem KeptFrames_eq {l:List Frame} (hl:l.length≤1048576):R6 (l,marks H2e) l=some true:=by
 unfold R6
 exact H83 mkFrames hl
def J51 (i:Nat):Gv:=(Rb 1 (i:Int)).getD default
theorem mkBoxes (i:Nat) (h:i < 12):Rb 1 (i:Int)=some (J51 i):=by
 unfold J51 Rb
 rw [mark_eq i h]; rfl
theorem LentBoxes_eq {l:List Gv} (hl:l.length≤1048576):Yj l=some (l,marks J51):=by
 unfold Yj
 exact H82 mkBoxes (by omega) hl
theorem KeptBoxes_eq {l:List Gv} (hl:l.length≤1048576):Yk (l,marks J51) l=some true:=by
 unfold Yk
 exact H83 mkBoxes hl
def Ha2 (i:Nat):G6:=(Qm 1 (i:Int)).getD default
theorem mkStoweds (i:Nat) (h:i < 12):Qm 1 (i:Int)=some (Ha2 i):=by
 unfold Ha2 Qm
 rw [mark_eq i h]; rfl
theorem H91 {l:List G6} (hl:l.length≤1048576):R0 l=some (l,marks Ha2):=by
 unfold R0
 exact H82 mkStoweds (by omega) hl
theorem H94 {l:List G6} (hl:l.length≤1048576):R2 (l,marks Ha2) l=some true:=by
 unfold R2
 exact H83 mkStoweds hl
def Ga6 (i:Nat):G4:=(Qn 1 (i:Int)).getD default
theorem mkColumns (i:Nat) (h:i < 12):Qn 1 (i:Int)=some (Ga6 i):=by
 unfold Ga6 Qn
 rw [mark_eq i h]; rfl
def G42 (x:G4):Gy:={ Gy.of x with Plugs:=(x.Plugs,marks J01) }
theorem LentColumn_eq {x:G4} (h:x.Plugs.length≤1048576):Y9 x=some (G42 x):=by
 unfold Y9
 rw [H92 h]; rfl
theorem Gc4 (a:G4):Jj a a=some true:=by
 unfold Jj
 simp [Gb0,bnd]
theorem KeptColumn_eq {x:G4} (h:x.Plugs.length≤1048576):R8 (G42 x) x=some true:=by
 have e1:Jj (Gy.pl (G42 x)) x=some true:=Gc4 x
 have e2:J7 (G42 x).Plugs x.Plugs=some true:=H95 h
 unfold R8
 show bnd (Jj (Gy.pl (G42 x)) x) (fun r3=>bnd (bif r3 then J7 (G42 x).Plugs x.Plugs else some default) fun r4=>some (r3&&r4))=some true
 rw [e1,H8b,cond_true,e2,H8b]; rfl
theorem J90 {l:List G4} (hl:l.length≤1048576) (h:∀ x∈l,x.Plugs.length≤1048576):Ru l=some (l.map G42,(marks Ga6).map Gy.of):=by
 unfold Ru
 exact Hc4 Gy.of mkColumns (by omega) (fun x hx=>LentColumn_eq (h x hx)) hl
theorem J09 (a:List G4):Rt a a=some true:=by
 unfold Rt
 exact H9c (fun i y nx h=>by rw [Qa h,Gc4]; rfl)
theorem J91 {l:List G4} (hl:l.length≤1048576) (h:∀ x∈l,x.Plugs.length≤1048576):R3 (l.map G42,(marks Ga6).map Gy.of) l=some true:=by
 unfold R3
 exact Hc6 (keep:=R8) (same:=Jj) (pl:=Gy.pl) mkColumns hl (fun x hx=>KeptColumn_eq (h x hx)) (fun i hi=>Gc4 (Ga6 i))
theorem plColumns (l:List G4):(l.map G42).map Gy.pl=l:=by
 rw [List.map_map]
 exact(List.map_congr_left (fun x _=>rfl)).trans (List.map_id l)
def Ge8 (i:Nat):Gg:=(Qs 1 (i:Int)).getD default
theorem mkCovers (i:Nat) (h:i < 12):Qs 1 (i:Int)=some (Ge8 i):=by
 unfold Ge8 Qs
 rw [mark_eq i h]; rfl
def G7b (x:Gg):Ha:={ Ha.of x with Rows:=(x.Rows,marks J01) }
theorem LentCover_eq {x:Gg} (h:x.Rows.length≤1048576):Yi x=some (G7b x):=by
 unfold Yi
 rw [H92 h]; rfl
theorem Gef (a:Gg):Jp a a=some true:=by
 unfold Jp
 simp [Gb0,bnd]
theorem KeptCover_eq {x:Gg} (h:x.Rows.length≤1048576):Rf (G7b x) x=some true:=by
 have e1:Jp (Ha.pl (G7b x)) x=some true:=Gef x
 have e2:J7 (G7b x).Rows x.Rows=some true:=H95 h
 unfold Rf
 show bnd (Jp (Ha.pl (G7b x)) x) (fun r3=>bnd (bif r3 then J7 (G7b x).Rows x.Rows else some default) fun r4=>some (r3&&r4))=some true
 rw [e1,H8b,cond_true,e2,H8b]; rfl
theorem LentCovers_eq {l:List Gg} (hl:l.length≤1048576) (h:∀ x∈l,x.Rows.length≤1048576):Y8 l=some (l.map G7b,(marks Ge8).map Ha.of):=by
 unfold Y8
 exact Hc4 Ha.of mkCovers (by omega) (fun x hx=>LentCover_eq (h x hx)) hl
theorem J44 (a:List Gg):Y6 a a=some true:=by
 unfold Y6
 exact H9c (fun i y nx h=>by rw [Qa h,Gef]; rfl)
theorem KeptCovers_eq {l:List Gg} (hl:l.length≤1048576) (h:∀ x∈l,x.Rows.length≤1048576):R7 (l.map G7b,(marks Ge8).map Ha.of) l=some true:=by
 unfold R7
 exact Hc6 (keep:=Rf) (same:=Jp) (pl:=Ha.pl) mkCovers hl (fun x hx=>KeptCover_eq (h x hx)) (fun i hi=>Gef (Ge8 i))
theorem plCovers (l:List Gg):(l.map G7b).map Ha.pl=l:=by
 rw [List.map_map]
 exact(List.map_congr_left (fun x _=>rfl)).trans (List.map_id l)
def H54 (i:Nat):Gr:=(Qz 1 (i:Int)).getD default
theorem mkTanks (i:Nat) (h:i < 12):Qz 1 (i:Int)=some (H54 i):=by
 unfold H54 Qz
 rw [mark_eq i h]; rfl
def Gc1 (x:Gr):Hh:={ Hh.of x with Steps:=(x.Steps,marks J01) }
theorem LentTank_eq {x:Gr} (h:x.Steps.length≤1048576):Yu x=some (Gc1 x):=by
 unfold Yu
 rw [H92 h]; rfl
theorem H24 (a:Gr):Jt a a=some true:=by
 unfold Jt
 simp [Gb0,bnd]
theorem KeptTank_eq {x:Gr} (h:x.Steps.length≤1048576):Rk (Gc1 x) x=some true:=by
 have e1:Jt (Hh.pl (Gc1 x)) x=some true:=H24 x
 have e2:J7 (Gc1 x).Steps x.Steps=some true:=H95 h
 unfold Rk
 show bnd (Jt (Hh.pl (Gc1 x)) x) (fun r3=>bnd (bif r3 then J7 (Gc1 x).Steps x.Steps else some default) fun r4=>some (r3&&r4))=some true
 rw [e1,H8b,cond_true,e2,H8b]; rfl
theorem LentTanks_eq {l:List Gr} (hl:l.length≤1048576) (h:∀ x∈l,x.Steps.length≤1048576):Yh l=some (l.map Gc1,(marks H54).map Hh.of):=by
 unfold Yh
 exact Hc4 Hh.of mkTanks (by omega) (fun x hx=>LentTank_eq (h x hx)) hl
theorem J87 (a:List Gr):Yg a a=some true:=by
 unfold Yg
 exact H9c (fun i y nx h=>by rw [Qa h,H24]; rfl)
theorem KeptTanks_eq {l:List Gr} (hl:l.length≤1048576) (h:∀ x∈l,x.Steps.length≤1048576):Re (l.map Gc1,(marks H54).map Hh.of) l=some true:=by
 unfold Re
 exact Hc6 (keep:=Rk) (same:=Jt) (pl:=Hh.pl) mkTanks hl (fun x hx=>KeptTank_eq (h x hx)) (fun i hi=>H24 (H54 i))
theorem plTanks (l:List Gr):(l.map Gc1).map Hh.pl=l:=by
 rw [List.map_map]
 exact(List.map_congr_left (fun x _=>rfl)).trans (List.map_id l)
/-- No list of a ship is longer than it may be. -/
structure Ha9 (s:Hb):Prop where
 cols:s.Columns.length≤1048576
 plugs:∀ c∈s.Columns,c.Plugs.length≤1048576
 covs:s.Covers.length≤1048576
 crows:∀ x∈s.Covers,x.Rows.length≤1048576
 rows:s.Rows.length≤1048576
 frames:s.Frames.length≤1048576
 tanks:s.Tanks.length≤1048576
 steps:∀ x∈s.Tanks,x.Steps.length≤1048576
def H55 (s:Hb):Y4:=⟨(s.Columns.map G42,(marks Ga6).map Gy.of),(s.Covers.map G7b,(marks Ge8).map Ha.of),s.Light,(s.Rows,marks J00),(s.Frames,marks H2e),(s.Tanks.map Gc1,(marks H54).map Hh.of),s.G3⟩
theorem LentShip_eq {s:Hb} (h:Ha9 s):Yv s=some (H55 s):=by
 unfold Yv
 rw [J90 h.cols h.plugs,LentCovers_eq h.covs h.crows,LentRows_eq h.rows,LentFrames_eq h.frames,LentTanks_eq h.tanks h.steps]
 rfl
theorem plShip (s:Hb):Hb.mk ((H55 s).Columns.1.map Gy.pl) ((H55 s).Covers.1.map Ha.pl) (H55 s).Light (H55 s).Rows.1 (H55 s).Frames.1 ((H55 s).Tanks.1.map Hh.pl) (H55 s).G3=s:=by
 show Hb.mk ((s.Columns.map G42).map Gy.pl) ((s.Covers.map G7b).map Ha.pl) s.Light s.Rows s.Frames ((s.Tanks.map Gc1).map Hh.pl) s.G3=s
 rw [plColumns,plCovers,plTanks]
theorem SameShip_self (s:Hb):Ys s s=some true:=by
 unfold Ys
 simp [J09,J44,SameRows_self,J43,J87,bnd]
theorem KeptShip_eq {s:Hb} (h:Ha9 s):Yx (H55 s) s=some true:=by
 have e1:=J91 h.cols h.plugs
 have e2:=KeptCovers_eq h.covs h.crows
 have e3:=KeptRows_eq h.rows
 have e4:=KeptFrames_eq h.frames
 have e5:=KeptTanks_eq h.tanks h.steps
 unfold Yx
 rw [plShip,SameShip_self,H8b,cond_true]
 show bnd (R3 (s.Columns.map G42,(marks Ga6).map Gy.of) s.Columns) _=_
 rw [e1,H8b,Bool.and_self,cond_true]
 show bnd (R7 (s.Covers.map G7b,(marks Ge8).map Ha.of) s.Covers) _=_
 rw [e2,H8b,Bool.and_self,cond_true]
 show bnd (Rm (s.Rows,marks J00) s.Rows) _=_
 rw [e3,H8b,Bool.and_self,cond_true]
 show bnd (R6 (s.Frames,marks H2e) s.Frames) _=_
 rw [e4,H8b,Bool.and_self,cond_true]
 show bnd (Re (s.Tanks.map Gc1,(marks H54).map Hh.of) s.Tanks) _=_
 rw [e5,H8b]
 rfl
end Go.Proofs.YtfkilljboodoaaaGreat
