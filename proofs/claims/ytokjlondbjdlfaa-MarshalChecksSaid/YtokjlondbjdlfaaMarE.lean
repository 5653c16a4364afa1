/- Check; -/
import Derived.Test.YtokjlondbjdlfaaAwake36
import Derived.Test.YtokjlondbjdlfaaAwake36
import Derived.Test.YtokjlondbjdlfaaXF
set_option maxRecDepth 100000
set_option linter.unusedVariables false
namespace Go.Proofs.Ytokjlondbjdlfaa
open Go.RowKit

theorem H7d {α β:Type} {Q:β→Prop} {c:Bool} {m d:Option α} {x:α} {k:α→Option β} (hc:c=true) (e:m=some x) (h:Wp (k x) Q):Wp (bnd (bif c then m else d) k) Q:=by
 subst hc
 exact Ja e h
theorem R15 {α β:Type} {Q:β→Prop} {c:Bool} {m:Option α} {x:α} {k:α→Option β} (hc:c=false) (h:Wp (k x) Q):Wp (bnd (bif c then m else some x) k) Q:=by
 subst hc
 exact h
theorem Q66 (y:Gp):Wp (Ry y) (fun r=>r=true→(∀ s∈y.Stacks,s.length≤10)∧y.Stacks.length≤32):=by
 unfold Ry
 refine Yg (fun pre s=>∀ x∈pre,x.length≤10) (by simp) (fun pre x post s nx e hI h0=>?_) (fun s hI=>Jp fun h=>⟨hI,by have:=Es h; omega⟩)
 refine Zb (fun h=>Jp (fun h=>by cases h)) (fun h=>h0 _ fun z hz=>?_)
 have h:=Eu h
 rcases Ko.1 hz with hz | hz
 ·exact hI z hz
 ·rw [Kq] at hz; subst hz; omega
theorem Q29 (l:List G5):Jm l l=some true:=by
 unfold Jm
 refine Je7 (fun i y nx hy=>?_)
 rw [J3c hy,Ev rfl]; rfl
theorem Ha1 {ss:List (List Int)} {H:Int} {l:List G5} (h:(Zt ss H l).2.2.2=0):Qi (Zt ss H l).1 (Zt ss H l).2.1:=by
 by_cases hr:Qi ss H
 ·by_cases hl:10000 < l.length
  ·rw [H40 hr hl] at h; exact absurd h (by decide)
  ·rw [H86 hr hl] at h ⊢
   by_cases h0:(Z3 H.toNat ss 0 l).2.2=0
   ·rw [if_pos h0]; exact Ha0 l 0 hr h0
   ·rw [if_neg h0] at h; exact absurd h h0
 ·rw [Hdc hr] at h; exact absurd h (by decide)
def Q55 (ss:List (List Int)) (H:Int) (order:List Int) (l:List G5):Bool×Int:=
 if G82 ss H order then (decide ((Zt ss H l).2.2.2=0)&&decide ((G5d order (Zt ss H l).1).length=0),0) else (false,2)
theorem Q68 (ss:List (List Int)) (H:Int) (order:List Int) (l:List G5):Y8 ⟨ss,H⟩ order l=some (Q55 ss H order l):=by
 unfold Y8 Q55
 rw [Q6a,Gf7]
 by_cases h:G82 ss H order
 ·rw [if_pos h,if_pos h,Q97]
  show (bnd (bif decide ((Zt ss H l).2.2.2=0) then R3 ⟨(Zt ss H l).1,(Zt ss H l).2.1⟩ order else some default) fun r10=>some ((decide ((Zt ss H l).2.2.2=0))&&(decide ((r10.length:Int)=0)),(0:Int)))=_
  by_cases h0:(Zt ss H l).2.2.2=0
  ·rw [Ev h0,cond_true,Q8c (Ha1 h0).all,Gf7,H83]
   congr 3
   exact decide_eq_decide.2 (by omega)
  ·rw [Ew h0]; rfl
 ·rw [if_neg h,if_neg h]; rfl
theorem Q2c (F:Nat) (ss:List (List Int)) (H:Int) (order:List Int) (l:List G9):R6 F ⟨ss,H⟩ order l=some (Q55 ss H order (l.map mv)):=by
 unfold R6 Q55
 rw [Jd2,Gf7]
 by_cases h:G82 ss H order
 ·rw [if_pos h,Ev h,Q58]
  generalize l.map mv=l'
  show (bnd (bif decide ((Zt ss H l').2.2.2=0) then J1 F ⟨(Zt ss H l').1,(Zt ss H l').2.1⟩ order else some default) fun r9=>some ((decide ((Zt ss H l').2.2.2=0))&&(decide ((r9.length:Int)=0)),(0:Int)))=_
  by_cases h0:(Zt ss H l').2.2.2=0
  ·rw [Ev h0,cond_true,Q52 F (Ha1 h0).all,Gf7]
   congr 3
   exact decide_eq_decide.2 (by omega)
  ·rw [Ew h0]; rfl
 ·rw [if_neg h,Ew h]; rfl
def rmv (y:G5):G9:=⟨y.From,y.To⟩
theorem Qcf (l:List G5):(l.map rmv).map mv=l:=by
 rw [List.map_map]
 exact(List.map_congr_left (fun _ _=>rfl)).trans (List.map_id l)
theorem Q27 (F:Nat) {y:Gp} {order:List Int} {l:List G5} (h1:∀ s∈y.Stacks,s.length≤10) (h2:y.Stacks.length≤32) (h3:order.length≤60) (h4:l.length≤60):Qz F y order l=some true:=by
 refine G48 ?_
 unfold Qz
 have hs:∀ s∈y.Stacks,s.length≤1048576:=fun s hs=>by have:=h1 s hs; omega
 refine Ja (Qde (by omega) hs) (Ja (Hab (by omega)) (Yf (G86 (by rw [List.length_nil]; omega) (by decide)) ?_))
 rw [List.nil_append]
 show Wp (bnd (Y8 ⟨(y.Stacks.map J24).map Prod.fst,y.Height⟩ order l) _) _
 rw [Q1a]
 refine Ja (Q68 _ _ _ _) ?_
 refine Yg (fun pre s=>s=pre.map rmv) rfl (fun pre x post s nx e hI h0=>?_) (fun s hI=>?_)
 ·subst hI
  have hp:pre.length < 60:=by
   have:=congrArg List.length e
   simp only [Ki,Ke] at this; omega
  refine Yf (G86 (by rw [Kn,Kj]; omega) (by decide)) (h0 _ ?_)
  rw [List.map_append]; rfl
 ·have hI:s=l.map rmv:=hI
  subst hI
  refine Ja (Q2c F _ _ _ _) ?_
  rw [Qcf]
  generalize Q55 y.Stacks y.Height order l=r
  have hb:(r.1==r.1&&decide (r.2=r.2))=true:=by simp
  rw [hb]
  exact H7d rfl (Q29 l) (H7d rfl (Q98 (by omega) hs) (H7d rfl (Hac (by omega)) (Jp rfl)))
theorem Q20 (y:Gp) (order:List Int) (l:List G5):Qk 60 y order l=some true:=by
 refine G48 ?_
 unfold Qk
 refine J32 (wp_mono (Q66 y) (fun r hr=>?_))
 cases hc:(((!r)||(decide (60 < (order.length:Int))))||(decide (60 < (l.length:Int)))) with
 | true=>
  refine R15 rfl ?_
  rw [Bool.true_or]
  exact H7d rfl Jfd (Jp rfl)
 | false=>
  simp only [Ku,decide_eq_false_iff_not,Bool.not_eq_false'] at hc
  obtain⟨h1,h2⟩:=hr hc.1.1
  refine H7d rfl (Q27 60 h1 h2 (by omega) (by omega)) ?_
  rw [Bool.or_true]
  exact H7d rfl Jfd (Jp rfl)
end Go.Proofs.Ytokjlondbjdlfaa
