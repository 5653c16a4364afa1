/-
 What the functions return that lend and check arguments.
-/
import Derived.Test.YthcpolfodgjekaaGreatXL
import Derived.Test.YthcpolfodgjekaaGreatWp
set_option maxRecDepth 100000
set_option linter.unusedVariables false
namespace Go.Proofs.YthcpolfodgjekaaGreat
open Go.RowKit

theorem roomS {n k:Nat} (hn:n≤10000001) (hk:k≤1000):decide (n*k≤140737488355328∧n≤maxLen)=true:=by
 refine decide_eq_true ⟨?_,by unfold maxLen; omega⟩
 exact Nat.le_trans (Nat.mul_le_mul hn hk) (by omega)
theorem roomM {n k:Nat} (hn:n≤10000001) (hk:k≤1000):decide (k*n≤281474976710656∧n≤maxLen)=true:=by
 refine decide_eq_true ⟨?_,by unfold maxLen; omega⟩
 exact Nat.le_trans (Nat.mul_le_mul hk hn) (by omega)
theorem natOfI {n:Nat} {z:Int} (h:z=(n:Int)):Gf1 z=some n:=by
 subst h
 unfold Gf1
 rw [decide_eq_true (by omega:(0:Int)≤(n:Int))]
 simp
section generic
variable {α β:Type}
theorem Hd6 {x:α} {k:α→Option β}:bnd (some x) k=k x:=rfl
def marks (mv:Nat→α):List α:=(List.range 12).map mv
theorem Jf3 {mv:Nat→α} {i:Nat} (h:i < 12):(marks mv)[i]? = some (mv i):=by
 unfold marks
 rw [List.getElem?_map,List.getElem?_range h]; rfl
theorem J6c {mv:Nat→α}:(marks mv).length=12:=by simp [marks]
theorem marks_take {mv:Nat→α} {i:Nat} (h:i < 12):(marks mv).take (i+1)=(marks mv).take i++[mv i]:=by
 rw [List.take_add_one,Jf3 h]; rfl
theorem lentTail {mk:Int→Option β} {mv:Nat→β} (of:β→α) (hmk:∀ i:Nat,i < 12→mk (i:Int)=some (mv i)) {by_:Nat} (hby:by_≤1000) {n:Nat} {s0:List α} (hn:s0.length=n) (hl:n≤1048576) :
  (need (decide ((12:Int)≤9223372036854775807)) <| upto (fun i (s:List α) nx=>bnd (mk (i:Int)) fun r=>need (decide ((s.length+[of r].length)*by_≤140737488355328∧s.length+[of r].length≤maxLen)) <| nx (s++[of r])) (fun s=>bnd (G5d (n:Int) s.length) fun m=>some (s.take m,s.drop m)) (12:Int).toNat 0 s0)=some (s0,(marks mv).map of):=by
 refine Zz (G0b rfl ?_)
 refine Jb8 (fun i s=>s=s0++((marks mv).map of).take i) (by simp) (fun i s nx hi hI hnx=>?_) (fun s hI=>?_)
 ·have hi:i < 12:=hi
  subst hI
  have hle:(s0++((marks mv).map of).take i).length≤n+12:=by
   rw [List.length_append,List.length_take]; omega
  refine H1 (hmk i hi) (G0b (roomS (by rw [List.length_singleton]; omega) hby) (hnx _ ?_))
  rw [← List.map_take,← List.map_take,marks_take hi,List.map_append,List.append_assoc]
  rfl
 ·have h12:(12:Int).toNat=12:=rfl
  rw [h12,List.take_of_length_le (by rw [List.length_map,J6c]; omega)] at hI
  subst hI
  refine Hs (Jc5 (m:=n) rfl (by rw [List.length_append]; omega) (Gt ?_))
  rw [← hn,List.take_left,List.drop_left]
theorem Hcc {mk:Int→Option α} {mv:Nat→α} (hmk:∀ i:Nat,i < 12→mk (i:Int)=some (mv i)) {by_:Nat} (hby:by_≤1000) {l:List α} (hl:l.length≤1048576) :
  (G35 ((l.length:Int)+12) fun v3=>bnd (Gf1 v3) fun m4=>need (decide (by_*m4≤281474976710656∧m4≤maxLen)) <| need (decide ((([]:List α).length+l.length)*by_≤140737488355328∧([]:List α).length+l.length≤maxLen)) <|
   need (decide ((12:Int)≤9223372036854775807)) <| upto (fun i (s:List α) nx=>bnd (mk (i:Int)) fun r=>need (decide ((s.length+[r].length)*by_≤140737488355328∧s.length+[r].length≤maxLen)) <| nx (s++[r])) (fun s=>bnd (G5d (l.length:Int) s.length) fun m=>some (s.take m,s.drop m)) (12:Int).toNat 0 (([]:List α)++l))=some (l,marks mv):=by
 refine Zz (G3e ⟨by omega,by omega⟩ (H1 (natOfI (n:=l.length+12) (by omega)) (G0b (roomM (by omega) hby) (G0b (roomS (by rw [List.length_nil]; omega) hby) ⟨_,lentTail (fun x=>x) hmk hby (s0:=([]:List α)++l) (n:=l.length) (by simp) hl,?_⟩))))
 rw [List.map_id'',List.nil_append]
 exact fun _=>rfl
theorem J26 {lx:β→Option α} {lv:β→α} {mk:Int→Option β} {mv:Nat→β} (of:β→α) (hmk:∀ i:Nat,i < 12→mk (i:Int)=some (mv i)) {by_:Nat} (hby:by_≤1000) {l:List β} (hlx:∀ x∈l,lx x=some (lv x)) (hl:l.length≤1048576) :
  (G35 ((l.length:Int)+12) fun v3=>bnd (Gf1 v3) fun m4=>need (decide (by_*m4≤281474976710656∧m4≤maxLen)) <|
   each (fun y (i:Nat) (s:List α) nx=>bnd (lx y) fun r=>need (decide ((s.length+[r].length)*by_≤140737488355328∧s.length+[r].length≤maxLen)) <| nx (s++[r]))
   (fun(s0:List α)=>need (decide ((12:Int)≤9223372036854775807)) <| upto (fun i (s:List α) nx=>bnd (mk (i:Int)) fun r=>need (decide ((s.length+[of r].length)*by_≤140737488355328∧s.length+[of r].length≤maxLen)) <| nx (s++[of r])) (fun s=>bnd (G5d (l.length:Int) s.length) fun m=>some (s.take m,s.drop m)) (12:Int).toNat 0 s0) l 0 [])=some (l.map lv,(marks mv).map of):=by
 refine Zz (G3e ⟨by omega,by omega⟩ (H1 (natOfI (n:=l.length+12) (by omega)) (G0b (roomM (by omega) hby) ?_)))
 refine Qi (fun pre s=>s=pre.map lv) rfl (fun pre y post s nx e hI hnx=>?_) (fun s hI=>?_)
 ·subst hI
  have hp:pre.length < l.length:=by rw [e]; simp
  refine H1 (hlx y (by rw [e]; simp)) (G0b (roomS (by rw [List.length_singleton,List.length_map]; omega) hby) (hnx _ ?_))
  rw [List.map_append]; rfl
 ·subst hI
  exact⟨_,lentTail of hmk hby (by simp) hl,rfl⟩
theorem keptGen [Inhabited α] [Inhabited β] {mk:Int→Option β} {mv:Nat→β} (hmk:∀ i:Nat,i < 12→mk (i:Int)=some (mv i)) {l:List β} (hl:l.length≤1048576) {xs:List α} {ys:List α} (hx:xs.length=l.length) (hy:ys.length=12)
  {body:α→Nat→Unit→(Unit→Option Bool)→Option Bool}
  (h1:∀ (i:Nat) y z nx,i < l.length→xs[i]? = some y→l[i]? = some z→body y i () nx=nx ())
  (h2:∀ (i:Nat) y nx,i < 12→ys[i]? = some y→body y (l.length+i) () nx=nx ()) :
  (bif decide ((((xs,ys):Ln α).1.length:Int)≠(l.length:Int)) then some false else (G35 ((l.length:Int)+12) fun v6=>bnd (G5d v6 (((xs,ys):Ln α).1++((xs,ys):Ln α).2).length) fun m7=>each body (fun(_:Unit)=>some true) ((((xs,ys):Ln α).1++((xs,ys):Ln α).2).take m7) 0 ()))=some true:=by
 have hd:decide ((((xs,ys):Ln α).1.length:Int)≠(l.length:Int))=false:=decide_eq_false (by simp only [ne_eq,Decidable.not_not]; omega)
 rw [hd,cond_false]
 refine Zz (G3e ⟨by omega,by omega⟩ (Hs (Jc5 (m:=l.length+12) (by omega) (by simp only [List.length_append]; omega) ?_)))
 have ht:(((xs,ys):Ln α).1++((xs,ys):Ln α).2).take (l.length+12)=xs++ys:=List.take_of_length_le (by simp only [List.length_append]; omega)
 rw [ht]
 refine Qi (fun _ _=>True) trivial (fun pre y post s nx e _ hnx=>?_) (fun s _=>Gt rfl)
 have hg:(xs++ys)[pre.length]? = some y:=by rw [e]; simp
 rcases Nat.lt_or_ge pre.length l.length with h | h
 ·rw [List.getElem?_append_left (by omega)] at hg
  rw [h1 pre.length y _ nx h hg (List.getElem?_eq_getElem h)]
  exact hnx _ trivial
 ·rw [List.getElem?_append_right (by omega)] at hg
  have hp:pre.length < l.length+12:=by
   have:=congrArg List.length e
   simp only [List.length_append,List.length_cons] at this
   omega
  have:=h2 (pre.length - l.length) y nx (by omega) (by rw [← hx]; exact hg)
  rw [show l.length+(pre.length - l.length)=pre.length by omega] at this
  rw [this]
  exact hnx _ trivial
theorem Hcd [DecidableEq α] [Inhabited α] {mk:Int→Option α} {mv:Nat→α} (hmk:∀ i:Nat,i < 12→mk (i:Int)=some (mv i)) {l:List α} (hl:l.length≤1048576) :
  (bif decide ((((l,marks mv):Ln α).1.length:Int)≠(l.length:Int)) then some false else (G35 ((l.length:Int)+12) fun v6=>bnd (G5d v6 (((l,marks mv):Ln α).1++((l,marks mv):Ln α).2).length) fun m7=>
   each (fun y29 i29 (s29:Unit) nx29=>
    bnd (bif decide ((i29:Int) < (l.length:Int)) then Qr l (i29:Int) some else some default) fun y34=>
    bnd (bif ((!((decide ((i29:Int) < (l.length:Int)))&&(!(decide (y29=y34)))))&&(decide ((l.length:Int)≤(i29:Int)))) then G35 ((i29:Int) - (l.length:Int)) some else some 0) fun v35=>
    bnd (bif ((!((decide ((i29:Int) < (l.length:Int)))&&(!(decide (y29=y34)))))&&(decide ((l.length:Int)≤(i29:Int)))) then mk v35 else some default) fun r36=>
    bif (((decide ((i29:Int) < (l.length:Int)))&&(!(decide (y29=y34))))||((decide ((l.length:Int)≤(i29:Int)))&&(!(decide (y29=r36))))) then (some false) else (nx29 ()))
   (fun(_:Unit)=>some true) ((((l,marks mv):Ln α).1++((l,marks mv):Ln α).2).take m7) 0 ()))=some true:=by
 refine keptGen hmk hl rfl J6c (fun i y z nx hi hy hz=>?_) (fun i y nx hi hy=>?_)
 ·rw [hy] at hz
  cases hz
  have hg:Qr l (i:Int) some=some y:=by
   unfold Qr
   rw [decide_eq_true (by omega:(0:Int)≤(i:Int)),cond_true,show (i:Int).toNat=i by omega,hy]; rfl
  rw [decide_eq_true (by omega:(i:Int) < (l.length:Int)),cond_true,hg]
  simp only [bnd,decide_true,Bool.not_true,Bool.and_false,Bool.not_false,Bool.true_and,Bool.false_or]
  rw [decide_eq_false (by omega:¬ (l.length:Int)≤(i:Int))]
  rfl
 ·rw [Jf3 hi] at hy
  cases hy
  have hc:((l.length+i:Nat):Int) - (l.length:Int)=(i:Int):=by omega
  rw [decide_eq_false (by omega:¬ ((l.length+i:Nat):Int) < (l.length:Int)),cond_false,hc,decide_eq_true (by omega:(l.length:Int)≤((l.length+i:Nat):Int))]
  have hk:G35 (i:Int) some=some (i:Int):=Zz (G3e ⟨by omega,by omega⟩ (Gt rfl))
  simp only [bnd,Bool.false_and,Bool.not_false,Bool.and_self,cond_true,hk,hmk i hi,decide_true,Bool.not_true,Bool.and_false,Bool.or_self,cond_false]
theorem J28 [Inhabited α] [Inhabited β] {mk:Int→Option β} {mv:Nat→β} (hmk:∀ i:Nat,i < 12→mk (i:Int)=some (mv i)) {lv of:β→α} {pl:α→β} {keep:α→β→Option Bool} {same:β→β→Option Bool} {l:List β} (hl:l.length≤1048576)
  (hkeep:∀ x∈l,keep (lv x) x=some true) (hsame:∀ i:Nat,i < 12→same (pl (of (mv i))) (mv i)=some true) :
  (bif decide ((((l.map lv,(marks mv).map of):Ln α).1.length:Int)≠(l.length:Int)) then some false else (G35 ((l.length:Int)+12) fun v6=>bnd (G5d v6 (((l.map lv,(marks mv).map of):Ln α).1++((l.map lv,(marks mv).map of):Ln α).2).length) fun m7=>
   each (fun y33 i33 (s33:Unit) nx33=>
    bnd (bif decide ((i33:Int) < (l.length:Int)) then Qr l (i33:Int) some else some default) fun y38=>
    bnd (bif decide ((i33:Int) < (l.length:Int)) then keep y33 y38 else some default) fun r39=>
    bnd (bif ((!((decide ((i33:Int) < (l.length:Int)))&&(!r39)))&&(decide ((l.length:Int)≤(i33:Int)))) then G35 ((i33:Int) - (l.length:Int)) some else some 0) fun v40=>
    bnd (bif ((!((decide ((i33:Int) < (l.length:Int)))&&(!r39)))&&(decide ((l.length:Int)≤(i33:Int)))) then mk v40 else some default) fun r41=>
    bnd (bif ((!((decide ((i33:Int) < (l.length:Int)))&&(!r39)))&&(decide ((l.length:Int)≤(i33:Int)))) then same (pl y33) r41 else some default) fun r42=>
    bif (((decide ((i33:Int) < (l.length:Int)))&&(!r39))||((decide ((l.length:Int)≤(i33:Int)))&&(!r42))) then (some false) else (nx33 ()))
   (fun(_:Unit)=>some true) ((((l.map lv,(marks mv).map of):Ln α).1++((l.map lv,(marks mv).map of):Ln α).2).take m7) 0 ()))=some true:=by
 refine keptGen hmk hl (by simp) (by simp [J6c]) (fun i y z nx hi hy hz=>?_) (fun i y nx hi hy=>?_)
 ·rw [List.getElem?_map,hz] at hy
  cases hy
  have hg:Qr l (i:Int) some=some z:=by
   unfold Qr
   rw [decide_eq_true (by omega:(0:Int)≤(i:Int)),cond_true,show (i:Int).toNat=i by omega,hz]; rfl
  rw [decide_eq_true (by omega:(i:Int) < (l.length:Int)),cond_true,hg]
  simp only [bnd,cond_true,hkeep z (List.mem_of_getElem? hz),Bool.not_true,Bool.and_false,Bool.not_false,Bool.true_and,Bool.false_or]
  rw [decide_eq_false (by omega:¬ (l.length:Int)≤(i:Int))]
  rfl
 ·rw [List.getElem?_map,Jf3 hi] at hy
  cases hy
  have hc:((l.length+i:Nat):Int) - (l.length:Int)=(i:Int):=by omega
  rw [decide_eq_false (by omega:¬ ((l.length+i:Nat):Int) < (l.length:Int)),cond_false,hc,decide_eq_true (by omega:(l.length:Int)≤((l.length+i:Nat):Int))]
  have hk:G35 (i:Int) some=some (i:Int):=Zz (G3e ⟨by omega,by omega⟩ (Gt rfl))
  simp only [bnd,cond_false,Bool.false_and,Bool.not_false,Bool.and_self,cond_true,hk,hmk i hi,hsame i hi,Bool.not_true,Bool.and_false,Bool.or_self]
theorem He8 {l:List α} {body:α→Nat→Unit→(Unit→Option Bool)→Option Bool} (h:∀ (i:Nat) y nx,l[i]? = some y→body y i () nx=nx ()) :
  (bif decide ((l.length:Int)≠(l.length:Int)) then some false else each body (fun(_:Unit)=>some true) l 0 ())=some true:=by
 rw [decide_eq_false (by simp),cond_false]
 refine Zz (Qi (fun _ _=>True) trivial (fun pre y post s nx e _ hnx=>?_) (fun s _=>Gt rfl))
 rw [h pre.length y nx (by rw [e]; simp)]
 exact hnx _ trivial
theorem Z2 {γ:Type} {l:List α} {i:Nat} {y:α} (h:l[i]? = some y) (k:α→Option γ):Qr l (i:Int) k=k y:=by
 unfold Qr
 rw [decide_eq_true (by omega:(0:Int)≤(i:Int)),cond_true,show (i:Int).toNat=i by omega,h]; rfl
end generic

def mkN (i:Nat):Int:=8000024+(i:Int)
theorem mark_eq (i:Nat) (h:i < 12):Jo 1 (i:Int)=some (mkN i):=by
 refine Zz ?_
 unfold Jo mkN
 exact G3e ⟨by decide,by decide⟩ (G3e ⟨by decide,by decide⟩ (G3e ⟨by omega,by omega⟩ (Gt (by omega))))
theorem G52 (a:List Int):J0 a a=some true:=by
 unfold J0
 exact He8 (fun i y nx h=>by rw [Z2 h]; simp)
theorem SameRows_self (a:List Row):Zc a a=some true:=by
 unfold Zc
 exact He8 (fun i y nx h=>by rw [Z2 h]; simp)
theorem Jb2 (a:List Frame):Yj a a=some true:=by
 unfold Yj
 exact He8 (fun i y nx h=>by rw [Z2 h]; simp)
abbrev J6b:=mkN
theorem mkInts (i:Nat) (h:i < 12):Jo 1 (i:Int)=some (J6b i):=mark_eq i h
theorem He3 {l:List Int} (hl:l.length≤1048576):R6 l=some (l,marks J6b):=by
 unfold R6
 exact Hcc mkInts (by omega) hl
theorem He4 {l:List Int} (hl:l.length≤1048576):Je (l,marks J6b) l=some true:=by
 unfold Je
 exact Hcd mkInts hl
def J6a (i:Nat):Row:=(Ri 1 (i:Int)).getD default
theorem mkRows (i:Nat) (h:i < 12):Ri 1 (i:Int)=some (J6a i):=by
 unfold J6a Ri
 rw [mark_eq i h]; rfl
theorem LentRows_eq {l:List Row} (hl:l.length≤1048576):Zf l=some (l,marks J6a):=by
 unfold Zf
 exact Hcc mkRows (by omega) hl
theorem KeptRows_eq {l:List Row} (hl:l.length≤1048576):Y5 (l,marks J6a) l=some true:=by
 unfold Y5
 exact Hcd mkRows hl
def H71 (i:Nat):Frame:=(Qy 1 (i:Int)).getD default
theorem mkFrames (i:Nat) (h:i < 12):Qy 1 (i:Int)=some (H71 i):=by
 unfold H71 Qy
 rw [mark_eq i h]; rfl
theorem LentFrames_eq {l:List Frame} (hl:l.length≤1048576):Ym l=some (l,marks H71):=by
 unfold Ym
 exact Hcc mkFrames (by omega) hl
theorem KeptFrames_eq {l:List Frame} (hl:l.length≤1048576):Re (l,marks H71) l=some true:=by
 unfold Re
 exact Hcd mkFrames hl
def Jbe (i:Nat):Gg:=(Rj 1 (i:Int)).getD default
theorem mkBoxes (i:Nat) (h:i < 12):Rj 1 (i:Int)=some (Jbe i):=by
 unfold Jbe Rj
 rw [mark_eq i h]; rfl
theorem LentBoxes_eq {l:List Gg} (hl:l.length≤1048576):Z0 l=some (l,marks Jbe):=by
 unfold Z0
 exact Hcc mkBoxes (by omega) hl
theorem KeptBoxes_eq {l:List Gg} (hl:l.length≤1048576):Z1 (l,marks Jbe) l=some true:=by
 unfold Z1
 exact Hcd mkBoxes hl
def Hee (i:Nat):Stowed:=(Qs 1 (i:Int)).getD default
theorem mkStoweds (i:Nat) (h:i < 12):Qs 1 (i:Int)=some (Hee i):=by
 unfold Hee Qs
 rw [mark_eq i h]; rfl
theorem Q16 {l:List Stowed} (hl:l.length≤1048576):Y8 l=some (l,marks Hee):=by
 unfold Y8
 exact Hcc mkStoweds (by omega) hl
theorem Q18 {l:List Stowed} (hl:l.length≤1048576):Ya (l,marks Hee) l=some true:=by
 unfold Ya
 exact Hcd mkStoweds hl
def Gdf (i:Nat):G4:=(Qt 1 (i:Int)).getD default
theorem mkColumns (i:Nat) (h:i < 12):Qt 1 (i:Int)=some (Gdf i):=by
 unfold Gdf Qt
 rw [mark_eq i h]; rfl
def G6c (x:G4):Gz:={ Gz.of x with Plugs:=(x.Plugs,marks J6b) }
theorem LentColumn_eq {x:G4} (h:x.Plugs.length≤1048576):Yo x=some (G6c x):=by
 unfold Yo
 rw [He3 h]; rfl
theorem H01 (a:G4):Jq a a=some true:=by
 unfold Jq
 simp [G52,bnd]
theorem KeptColumn_eq {x:G4} (h:x.Plugs.length≤1048576):Rg (G6c x) x=some true:=by
 have e1:Jq (Gz.pl (G6c x)) x=some true:=H01 x
 have e2:Je (G6c x).Plugs x.Plugs=some true:=He4 h
 unfold Rg
 show bnd (Jq (Gz.pl (G6c x)) x) (fun r3=>bnd (bif r3 then Je (G6c x).Plugs x.Plugs else some default) fun r4=>some (r3&&r4))=some true
 rw [e1,Hd6,cond_true,e2,Hd6]; rfl
theorem Q17 {l:List G4} (hl:l.length≤1048576) (h:∀ x∈l,x.Plugs.length≤1048576):Y9 l=some (l.map G6c,(marks Gdf).map Gz.of):=by
 unfold Y9
 exact J26 Gz.of mkColumns (by omega) (fun x hx=>LentColumn_eq (h x hx)) hl
theorem J73 (a:List G4):Y7 a a=some true:=by
 unfold Y7
 exact He8 (fun i y nx h=>by rw [Z2 h,H01]; rfl)
theorem Q19 {l:List G4} (hl:l.length≤1048576) (h:∀ x∈l,x.Plugs.length≤1048576):R7 (l.map G6c,(marks Gdf).map Gz.of) l=some true:=by
 unfold R7
 exact J28 (keep:=Rg) (same:=Jq) (pl:=Gz.pl) mkColumns hl (fun x hx=>KeptColumn_eq (h x hx)) (fun i hi=>H01 (Gdf i))
theorem plColumns (l:List G4):(l.map G6c).map Gz.pl=l:=by
 rw [List.map_map]
 exact(List.map_congr_left (fun x _=>rfl)).trans (List.map_id l)
def H2c (i:Nat):G9:=(Qz 1 (i:Int)).getD default
theorem mkCovers (i:Nat) (h:i < 12):Qz 1 (i:Int)=some (H2c i):=by
 unfold H2c Qz
 rw [mark_eq i h]; rfl
def Gaf (x:G9):H8:={ H8.of x with Rows:=(x.Rows,marks J6b) }
theorem LentCover_eq {x:G9} (h:x.Rows.length≤1048576):Yz x=some (Gaf x):=by
 unfold Yz
 rw [He3 h]; rfl
theorem H32 (a:G9):Jz a a=some true:=by
 unfold Jz
 simp [G52,bnd]
theorem KeptCover_eq {x:G9} (h:x.Rows.length≤1048576):Ru (Gaf x) x=some true:=by
 have e1:Jz (H8.pl (Gaf x)) x=some true:=H32 x
 have e2:Je (Gaf x).Rows x.Rows=some true:=He4 h
 unfold Ru
 show bnd (Jz (H8.pl (Gaf x)) x) (fun r3=>bnd (bif r3 then Je (Gaf x).Rows x.Rows else some default) fun r4=>some (r3&&r4))=some true
 rw [e1,Hd6,cond_true,e2,Hd6]; rfl
theorem LentCovers_eq {l:List G9} (hl:l.length≤1048576) (h:∀ x∈l,x.Rows.length≤1048576):Yn l=some (l.map Gaf,(marks H2c).map H8.of):=by
 unfold Yn
 exact J26 H8.of mkCovers (by omega) (fun x hx=>LentCover_eq (h x hx)) hl
theorem Jb3 (a:List G9):Yk a a=some true:=by
 unfold Yk
 exact He8 (fun i y nx h=>by rw [Z2 h,H32]; rfl)
theorem KeptCovers_eq {l:List G9} (hl:l.length≤1048576) (h:∀ x∈l,x.Rows.length≤1048576):Rf (l.map Gaf,(marks H2c).map H8.of) l=some true:=by
 unfold Rf
 exact J28 (keep:=Ru) (same:=Jz) (pl:=H8.pl) mkCovers hl (fun x hx=>KeptCover_eq (h x hx)) (fun i hi=>H32 (H2c i))
theorem plCovers (l:List G9):(l.map Gaf).map H8.pl=l:=by
 rw [List.map_map]
 exact(List.map_congr_left (fun x _=>rfl)).trans (List.map_id l)
def H99 (i:Nat):Gh:=(R5 1 (i:Int)).getD default
theorem mkTanks (i:Nat) (h:i < 12):R5 1 (i:Int)=some (H99 i):=by
 unfold H99 R5
 rw [mark_eq i h]; rfl
def Gfe (x:Gh):Hg:={ Hg.of x with Steps:=(x.Steps,marks J6b) }
theorem LentTank_eq {x:Gh} (h:x.Steps.length≤1048576):Zd x=some (Gfe x):=by
 unfold Zd
 rw [He3 h]; rfl
theorem H6a (a:Gh):Q2 a a=some true:=by
 unfold Q2
 simp [G52,bnd]
theorem KeptTank_eq {x:Gh} (h:x.Steps.length≤1048576):Y4 (Gfe x) x=some true:=by
 have e1:Q2 (Hg.pl (Gfe x)) x=some true:=H6a x
 have e2:Je (Gfe x).Steps x.Steps=some true:=He4 h
 unfold Y4
 show bnd (Q2 (Hg.pl (Gfe x)) x) (fun r3=>bnd (bif r3 then Je (Gfe x).Steps x.Steps else some default) fun r4=>some (r3&&r4))=some true
 rw [e1,Hd6,cond_true,e2,Hd6]; rfl
theorem LentTanks_eq {l:List Gh} (hl:l.length≤1048576) (h:∀ x∈l,x.Steps.length≤1048576):Yy l=some (l.map Gfe,(marks H99).map Hg.of):=by
 unfold Yy
 exact J26 Hg.of mkTanks (by omega) (fun x hx=>LentTank_eq (h x hx)) hl
theorem Q08 (a:List Gh):Yx a a=some true:=by
 unfold Yx
 exact He8 (fun i y nx h=>by rw [Z2 h,H6a]; rfl)
theorem KeptTanks_eq {l:List Gh} (hl:l.length≤1048576) (h:∀ x∈l,x.Steps.length≤1048576):Rt (l.map Gfe,(marks H99).map Hg.of) l=some true:=by
 unfold Rt
 exact J28 (keep:=Y4) (same:=Q2) (pl:=Hg.pl) mkTanks hl (fun x hx=>KeptTank_eq (h x hx)) (fun i hi=>H6a (H99 i))
theorem plTanks (l:List Gh):(l.map Gfe).map Hg.pl=l:=by
 rw [List.map_map]
 exact(List.map_congr_left (fun x _=>rfl)).trans (List.map_id l)
structure Hf7 (s:H2):Prop where
 cols:s.Columns.length≤1048576
 plugs:∀ c∈s.Columns,c.Plugs.length≤1048576
 covs:s.Covers.length≤1048576
 crows:∀ x∈s.Covers,x.Rows.length≤1048576
 rows:s.Rows.length≤1048576
 frames:s.Frames.length≤1048576
 tanks:s.Tanks.length≤1048576
 steps:∀ x∈s.Tanks,x.Steps.length≤1048576
def H9a (s:H2):Yd:=⟨(s.Columns.map G6c,(marks Gdf).map Gz.of),(s.Covers.map Gaf,(marks H2c).map H8.of),s.Light,(s.Rows,marks J6a),(s.Frames,marks H71),(s.Tanks.map Gfe,(marks H99).map Hg.of),s.G2⟩
theorem LentShip_eq {s:H2} (h:Hf7 s):Ze s=some (H9a s):=by
 unfold Ze
 rw [Q17 h.cols h.plugs,LentCovers_eq h.covs h.crows,LentRows_eq h.rows,LentFrames_eq h.frames,LentTanks_eq h.tanks h.steps]
 rfl
theorem plShip (s:H2):H2.mk ((H9a s).Columns.1.map Gz.pl) ((H9a s).Covers.1.map H8.pl) (H9a s).Light (H9a s).Rows.1 (H9a s).Frames.1 ((H9a s).Tanks.1.map Hg.pl) (H9a s).G2=s:=by
 show H2.mk ((s.Columns.map G6c).map Gz.pl) ((s.Covers.map Gaf).map H8.pl) s.Light s.Rows s.Frames ((s.Tanks.map Gfe).map Hg.pl) s.G2=s
 rw [plColumns,plCovers,plTanks]
theorem SameShip_self (s:H2):Zb s s=some true:=by
 unfold Zb
 simp [J73,Jb3,SameRows_self,Jb2,Q08,bnd]
theorem KeptShip_eq {s:H2} (h:Hf7 s):Zg (H9a s) s=some true:=by
 have e1:=Q19 h.cols h.plugs
 have e2:=KeptCovers_eq h.covs h.crows
 have e3:=KeptRows_eq h.rows
 have e4:=KeptFrames_eq h.frames
 have e5:=KeptTanks_eq h.tanks h.steps
 unfold Zg
 rw [plShip,SameShip_self,Hd6,cond_true]
 show bnd (R7 (s.Columns.map G6c,(marks Gdf).map Gz.of) s.Columns) _=_
 rw [e1,Hd6,Bool.and_self,cond_true]
 show bnd (Rf (s.Covers.map Gaf,(marks H2c).map H8.of) s.Covers) _=_
 rw [e2,Hd6,Bool.and_self,cond_true]
 show bnd (Y5 (s.Rows,marks J6a) s.Rows) _=_
 rw [e3,Hd6,Bool.and_self,cond_true]
 show bnd (Re (s.Frames,marks H71) s.Frames) _=_
 rw [e4,Hd6,Bool.and_self,cond_true]
 show bnd (Rt (s.Tanks.map Gfe,(marks H99).map Hg.of) s.Tanks) _=_
 rw [e5,Hd6]
 rfl
end Go.Proofs.YthcpolfodgjekaaGreat
