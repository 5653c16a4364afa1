/-
 The reference's simulator: SimPlays:
-/
import Derived.Test.YtmfhaflabpnaoaaGreatSimEp
set_option maxRecDepth 100000
set_option linter.unusedVariables false
namespace Go.Proofs.YtmfhaflabpnaoaaGreat
open Go.RowKit
structure R22 (s:G6) (boxes:List Box):Prop where
 plugs:∀ c∈s.Columns,c.Plugs.length≤1048576
 rows:∀ x∈s.Covers,x.Rows.length≤1000
 size:∀ b∈boxes,0≤b.Size∧b.Size≤255
 cols:s.Columns.length≤40
 covs:s.Covers.length≤40
theorem R22.rows8 {s:G6} {boxes:List Box} (h:R22 s boxes):∀ x∈s.Covers,x.Rows.length≤1048576:=fun x hx=>by have:=h.rows x hx; omega
theorem R22.right {F:Nat} {s:G6} {boxes:List Box} {l:List G3} (h:R22 s boxes) (hS:H06 s) (hR:G27 s boxes l) (hl:l.length≤1000):Qu F s boxes l=some true:=by
 obtain⟨r,h1,h2⟩:=Qff (F:=F) h.plugs h.rows8 h.size (l:=l) (by omega)
 rw [h1,h2.2 ⟨hS,hR⟩]
theorem R22.lim {s:G6} {boxes:List Box} (h:R22 s boxes) (hS:H06 s):Q4d s:=by
 obtain⟨c,hc,h0⟩:=Q16 s h.plugs h.rows8
 rw [h0.2 hS] at hc
 exact⟨⟨hc,⟨hS.num.1,h.cols⟩,fun c hc=>by have:=(hS.col c hc).place; omega,by have:=h.covs; omega,fun x hx=>by have:=h.rows x hx; omega⟩,hS,h.plugs,⟨h.covs⟩⟩
theorem R05 {F:Nat} {s:G6} {boxes:List Box} {l:List G3} {o:List Int} (h5:s.Covers.length≤1000) (hR:Qu F s boxes l=some true) (hO:Q44 s o):Hv F s boxes l o=some true:=by
 refine Z3 ?_
 unfold Hv
 refine Q8 (fun _ _=>True) trivial (fun pre y post u nx e _ h1=>?_) (fun u _=>Gy hR (Gg rfl))
 have hy:=hO.mem y (by rw [e]; simp)
 have hc:(decide (y < 0)||decide ((s.Covers.length:Int)≤y))=false:=by
  rw [Mo]; exact⟨Kz (by omega),Kz (by omega)⟩
 rw [hc]
 simp only [Bool.not_false,Bool.true_and,Bool.false_or]
 by_cases hp:0 < pre.length
 ·obtain⟨p,h3,h6,h4⟩:=Hf2 e hp
  rw [Ky (show 0 < (pre.length:Int) by omega)]
  simp only [cond_true,Bool.true_and]
  have h2:=hO.sorted
  have h0:=hO.len
  rw [e] at h2 h0
  rw [Mc] at h0
  have h7:=G92 h2 p h4
  refine H8 (Z2 ⟨by omega,by omega⟩ (Gg (H8 (Zr (m:=pre.length - 1) (by omega) h3 (Gg (Hb (fun h=>?_) (fun _=>h1 _ trivial)))))))
  have:=Kw h
  omega
 ·rw [Kz (show ¬ 0 < (pre.length:Int) by omega)]
  exact H8 (Gg (H8 (Gg (Hb (fun h=>by cases h) (fun _=>h1 _ trivial)))))
theorem Q83 (l:List Int) (n:Int):Yx l n=some (decide (n∈l)):=by
 refine Z3 ?_
 unfold Yx
 refine Q8 (fun pre _=>n ∉ pre) (fun h=>(M4 h).elim) (fun pre y post u nx e hI h0=>Hb (fun h=>Gg ?_) (fun h=>h0 _ ?_)) (fun u hI=>Gg (Kz hI).symm)
 ·have h:=Kw h
  exact(Ky (by rw [e,h]; simp)).symm
 ·have h:=Kx h
  rw [Mh,Mj]
  exact fun hh=>hh.elim hI (fun e=>h e.symm)
theorem Hfc {α R:Type} {Q:R→Prop} {p:α→Bool} {b:α→Nat→List α→(List α→Option R)→Option R} {kx:List α→Option R} {l s0:List α} (hl:s0.length+l.length≤1000000)
  (hb:∀ x i st nx,x∈l→st.length≤1000000→(p x=true→Wp (nx (st++[x])) Q)→(p x=false→Wp (nx st) Q)→Wp (b x i st nx) Q) (hk:Wp (kx (s0++l.filter p)) Q):Wp (each b kx l 0 s0) Q:=by
 refine Q8 (fun pre st=>st=s0++pre.filter p) (by simp) (fun pre x post st nx e hI h0=>?_) (fun st hI=>by rw [hI]; exact hk)
 subst hI
 have h1:(pre.filter p).length≤pre.length:=Kt _ _
 have h2:pre.length≤l.length:=by rw [e]; simp
 refine hb x _ _ nx (by rw [e]; simp) (by rw [Mc]; omega) (fun h=>h0 _ ?_) (fun h=>h0 _ ?_)
 ·rw [List.filter_append,List.filter_cons_of_pos h,List.append_assoc]; rfl
 ·rw [List.filter_append,List.filter_cons_of_neg (by rw [h]; exact Bool.false_ne_true)]; simp
theorem J78 {R:Type} {Q:R→Prop} {p:Bool} {st:List Int} {y:Int} {nx:List Int→Option R} (h0:st.length≤1000000) (ht:p=true→Wp (nx (st++[y])) Q) (hf:p=false→Wp (nx st) Q) :
  Wp (jp (fun kj25=>bif p then (need (decide ((st.length+[y].length)*8≤140737488355328∧st.length+[y].length≤maxLen)) <| kj25 (st++[y])) else (kj25 st)) fun(j25:(List Int))=>nx j25) Q:=by
 unfold jp
 exact Hb (fun h=>Zq (Qfd h0) (ht h)) hf
theorem J0d {l:List Int} (n:Int) (hl:l.length≤1000):Rt l n=some (Hc5 n l):=by
 refine Z3 ?_
 unfold Rt
 exact Hfc (p:=fun z=>decide (z≠n)) (by rw [List.length_nil]; omega) (fun y i st nx _ h0 ht hf=>J78 h0 ht hf) (Gg rfl)
theorem R6c {l:List Int} (n:Int) (hl:l.length≤1000):Zj l n=some (H66 n l):=by
 refine Z3 ?_
 unfold Zj
 refine Hfc (p:=fun z=>decide (z < n)) (by rw [List.length_nil]; omega) (fun y i st nx _ h0 ht hf=>J78 h0 ht hf) ?_
 have h1:(l.filter (fun z=>decide (z < n))).length≤l.length:=Kt _ _
 refine Zq (Qfd (by rw [List.nil_append]; omega)) ?_
 refine Hfc (p:=fun z=>decide (n < z)) (by simp only [List.nil_append,Mc,Md]; omega) (fun y i st nx _ h0 ht hf=>J78 h0 ht hf) (Gg ?_)
 rw [List.nil_append,List.append_assoc]
 rfl
section
variable {F:Nat} {s:G6} {boxes:List Box} {t:St} {x:Move}
theorem Y60 (hG:Good s boxes t) (h:(⟨x.Box,x.Slot⟩:G3)∈t.l):J7c t.l x.Box=some ⟨x.Box,x.Slot⟩:=by
 unfold J7c
 rcases Gc1 (fun y:G3=>decide (y.Box=x.Box)) t.l with ⟨h1,h2,h3⟩ | ⟨m,y,h1,h2,h3,h4⟩
 ·have:=h2 _ h
  simp at this
 ·rw [h4]
  exact congrArg some (Jd4 hG.right.sorted (M3 h2) h (Kw h3))
open Classical in
noncomputable def H7e (s:G6) (t:St) (x:Slot):Int:=if H3a t.l x=[] then (if H6a s t.o x then 91 else 0) else 90
theorem R6e (hG:Good s boxes t) (hC:Hv F s boxes t.l t.o=some true) (h:(⟨x.Box,x.Slot⟩:G3)∈t.l):Zn F s boxes t.l t.o x.Box=some (H7e s t x.Slot):=by
 have hl:=hG.num
 refine Z3 ?_
 unfold Zn
 refine Gy hC (Hb (fun h=>by cases h) (fun _=>Gy (Rd9 t.l x.Box (by omega)) ?_))
 have hf:=Y60 hG h
 unfold R83
 rw [hf]
 refine Hb (fun h=>by cases h) (fun _=>Hb (fun hh=>Gg ?_) (fun hh=>?_))
 ·have hh:0 < ((H3a t.l x.Slot).length:Int):=Kw hh
  unfold H7e
  rw [if_neg (fun e=>by rw [e] at hh; simp at hh)]
 ·have hh:¬ 0 < ((H3a t.l x.Slot).length:Int):=Kx hh
  have h0:H3a t.l x.Slot=[]:=Kr (by omega)
  obtain⟨i,c,hi,hc⟩:=hG.sta.colIn h
  have hi:x.Slot.G1=(i:Int):=hi
  have h7:H6a s t.o x.Slot ↔ (c.Deck=false∧0≤Qo s c∧Qo s c ∉ t.o):=by
   constructor
   ·rintro⟨j,d,e1,e2,e3⟩
    have:=Jd3 hi e1 hc e2
    subst this
    exact e3
   ·exact fun e=>⟨i,c,hi,hc,e⟩
  refine Gy (Q1d t.l x.Box) ?_
  unfold J7c at hf
  rcases Gc1 (fun y:G3=>decide (y.Box=x.Box)) t.l with ⟨h1,h2,h3⟩ | ⟨m,y,h1,h2,h3,h4⟩
  ·rw [h3] at hf; cases hf
  ·rw [h4] at hf
   cases hf
   rw [h1]
   refine Zr rfl h2 ?_
   have hh:Y7 s x.Slot.G1=some (if c.Deck=true then -1 else Qo s c):=by rw [hi]; exact Rd7 hc
   refine Gy hh ?_
   unfold H7e
   rw [if_pos h0]
   cases hd:c.Deck with
   | true=>
    rw [if_pos rfl,if_neg (fun g=>by have:=(h7.1 g).1; rw [hd] at this; cases this)]
    exact H8 (Gg (Gg rfl))
   | false=>
    rw [if_neg (by decide)]
    by_cases h5:0≤Qo s c
    ·rw [Ky h5]
     refine Gy (J24 t.o _) ?_
     by_cases h6:Qo s c∈t.o
     ·rw [Ky h6,if_neg (fun g=>(h7.1 g).2.2 h6)]; exact Gg rfl
     ·rw [Kz h6,if_pos (h7.2 ⟨hd,h5,h6⟩)]; exact Gg rfl
    ·rw [Kz h5,if_neg (fun g=>h5 (h7.1 g).2.1)]
     exact H8 (Gg (Gg rfl))
theorem Y06 {β:Type} {st:List β} {y:β} (h:st.length≤1000000):decide ((st.length+[y].length)*32≤140737488355328∧st.length+[y].length≤maxLen)=true:=by
 refine Ky ⟨?_,?_⟩
 ·rw [Md]; omega
 ·rw [Md]; simp only [maxLen]; omega
theorem R6d (hG:Good s boxes t) (hC:Hv F s boxes t.l t.o=some true) (h:(⟨x.Box,x.Slot⟩:G3)∈t.l) :
  Zk F s boxes t.l t.o x.Box=some (if H7e s t x.Slot=0 then (H24 x.Box t.l,0) else ([],H7e s t x.Slot)):=by
 have hl:=hG.num
 refine Z3 ?_
 unfold Zk
 refine Gy (R6e hG hC h) ?_
 by_cases h0:H7e s t x.Slot=0
 ·rw [if_pos h0,h0]
  refine Hb (fun h=>(Kw h rfl).elim) (fun _=>?_)
  refine Hfc (p:=fun y=>decide (y.Box≠x.Box)) (by rw [List.length_nil]; omega) (fun y i st nx _ h1 ht hf=>?_) (Gg rfl)
  unfold jp
  exact Hb (fun h=>Zq (Y06 h1) (ht h)) hf
 ·rw [if_neg h0]
  exact Hb (fun _=>Gg rfl) (fun h=>((Kx h) h0).elim)
theorem Rdc (h1:x.Ga=0) (h2:(⟨x.Box,x.Slot⟩:G3)∈t.l):Hd9 s t x=if H7e s t x.Slot=0 then 0 else if H7e s t x.Slot=90 then 314 else 315:=by
 unfold Hd9 H7e
 rw [if_pos h1,if_pos h2]
 by_cases h3:H3a t.l x.Slot=[]
 ·rw [if_pos h3,if_pos h3]
  by_cases h4:H6a s t.o x.Slot
  ·rw [if_pos h4,if_pos h4]; rfl
  ·rw [if_neg h4,if_neg h4]; rfl
 ·rw [if_neg h3,if_neg h3]; rfl
def J21 (s:G6) (boxes:List Box) (t:St) (n:Int):Gq:=Gq.mk s boxes t.l t.a t.o n
def H65 (s:G6) (boxes:List Box) (t:St) (n:Int) (x:Move) (e:Int):Gq×Int:=if e=0 then (J21 s boxes (nxt t x) (n+G77 x),0) else (J21 s boxes t n,e)
theorem J49 {n:Int}:H65 s boxes t n x 0=(J21 s boxes (nxt t x) (n+G77 x),0):=by unfold H65; rw [if_pos rfl]
theorem G4c {n e:Int} (h:e≠0):H65 s boxes t n x e=(J21 s boxes t n,e):=by unfold H65; rw [if_neg h]
theorem R14 (s:G6) (t:St) (y:Slot):H7e s t y=0∨H7e s t y=90∨H7e s t y=91:=by
 unfold H7e
 by_cases h3:H3a t.l y=[]
 ·rw [if_pos h3]
  by_cases h4:H6a s t.o y
  ·rw [if_pos h4]; exact .inr (.inr rfl)
  ·rw [if_neg h4]; exact .inl rfl
 ·rw [if_neg h3]; exact .inr (.inl rfl)
theorem Rd6 {n:Int} (hG:Good s boxes t) (hC:Hv F s boxes t.l t.o=some true) (hn:0≤n∧n≤1000000) (hk:x.Kind=2) :
  Qh F (J21 s boxes t n) x=some (H65 s boxes t n x (Hd9 s t x)):=by
 have hl:=hG.num
 refine Z3 ?_
 unfold Qh
 rw [hk]
 refine Hb (fun h=>by cases h) (fun _=>?_)
 simp only [ne_eq,not_true_eq_false,decide_false,Bool.false_and,Bool.false_or]
 refine Hb (fun h=>Gg ?_) (fun h=>?_)
 ·have h:=Kw h
  unfold Hd9
  rw [if_neg h,G4c (by decide)]
 have h1:x.Ga=0:=Classical.not_not.1 (Kx h)
 refine Hb (fun _=>?_) (fun h=>by cases h)
 refine Gy (Q1d t.l x.Box) ?_
 have no:(⟨x.Box,x.Slot⟩:G3) ∉ t.l→(J21 s boxes t n,(313:Int))=H65 s boxes t n x (Hd9 s t x):=fun h2=>by
  unfold Hd9
  rw [if_pos h1,if_neg h2,G4c (by decide)]
 rcases Gc1 (fun y:G3=>decide (y.Box=x.Box)) t.l with ⟨e1,e2,e3⟩ | ⟨m,y,e1,e2,e3,e4⟩
 ·rw [e1]
  refine H8 (Gg (Hb (fun _=>Gg (no fun h2=>?_)) (fun h=>by cases h)))
  have:=e2 _ h2
  simp at this
 ·rw [e1]
  have hy:=M3 e2
  have h3:y.Box=x.Box:=Kw e3
  rw [Kz (show ¬ (m:Int) < 0 by omega)]
  simp only [Bool.not_false,cond_true,Bool.false_or]
  refine H8 (Zr rfl e2 (Gg (Hb (fun h=>Gg (no fun h2=>?_)) (fun h=>?_))))
  ·have:y=⟨x.Box,x.Slot⟩:=Jd4 hG.right.sorted hy h2 h3
   rw [this,Ky rfl] at h
   cases h
  ·have h4:y.Slot=x.Slot:=by simpa using h
   have h2:(⟨x.Box,x.Slot⟩:G3)∈t.l:=by rw [← h3,← h4]; exact hy
   rw [Rdc h1 h2]
   have ht:=R6d hG hC h2
   rcases R14 s t x.Slot with h0 | h0 | h0
   ·rw [h0,if_pos rfl] at ht
    rw [h0,if_pos rfl,J49]
    refine Gy ht (Hb (fun h=>by cases h) (fun _=>Hb (fun h=>by cases h) (fun _=>?_)))
    refine Gy (R6c x.Box (show t.a.length≤1000 by omega)) (Z2 (by show -9223372036854775808≤n+1∧n+1≤9223372036854775807; omega) (Gg ?_))
    rw [Y14 hk]
    unfold G77
    rw [if_pos (.inl hk)]
    rfl
   ·rw [h0,if_neg (by decide)] at ht
    rw [h0,if_neg (by decide),if_pos rfl,G4c (by decide)]
    exact Gy ht (Hb (fun _=>Gg rfl) (fun h=>by cases h))
   ·rw [h0,if_neg (by decide)] at ht
    rw [h0,if_neg (by decide),if_neg (by decide),G4c (by decide)]
    exact Gy ht (Hb (fun h=>by cases h) (fun _=>Hb (fun _=>Gg rfl) (fun h=>by cases h)))
theorem Y0b {n:Int} (hG:Good s boxes t) (hC:Hv F s boxes t.l t.o=some true) (hn:0≤n∧n≤1000000) (hk:x.Kind=3) :
  Qh F (J21 s boxes t n) x=some (H65 s boxes t n x (inE s boxes t x)):=by
 have hl:=hG.num
 refine Z3 ?_
 unfold Qh
 rw [hk]
 refine Hb (fun h=>by cases h) (fun _=>?_)
 simp only [ne_eq,not_true_eq_false,decide_false,Bool.and_false,Bool.false_or]
 refine Hb (fun h=>Gg ?_) (fun h=>?_)
 ·have h:=Kw h
  unfold inE
  rw [if_neg h,G4c (by decide)]
 have h1:x.Ga=0:=Classical.not_not.1 (Kx h)
 refine Hb (fun h=>by cases h) (fun _=>?_)
 refine Gy (Q83 t.a x.Box) ?_
 unfold inE
 rw [if_pos h1]
 by_cases h2:x.Box∈t.a
 ·rw [Ky h2,if_pos h2]
  refine Hb (fun h=>by cases h) (fun _=>?_)
  obtain⟨b,hb,hz⟩:=hG.box _ h2
  have h0:=hG.disj _ h2
  have h8:=hG.right.sorted
  rw [R5c hb]
  refine H8 (wp_mono (Rd5 hG.sta hC (x:=⟨x.Box,x.Slot⟩) hb hz h0) (fun r hr=>?_))
  rcases hr with ⟨h3,e⟩ | ⟨h3,⟨h4,e⟩ | ⟨h4,⟨h5,e⟩ | ⟨h5,⟨h6,e⟩ | ⟨h6,q,hq,⟨h7,e⟩ | ⟨h7,e⟩⟩⟩⟩⟩
  ·rw [if_neg h3,e,G4c (by decide)]; exact Gg rfl
  ·rw [if_pos h3,if_pos h4,e,G4c (by decide)]; exact Gg rfl
  ·rw [if_pos h3,if_neg h4,if_pos h5,e,G4c (by decide)]; exact Gg rfl
  ·rw [if_pos h3,if_neg h4,if_neg h5,if_neg h6,e,G4c (by decide)]; exact Gg rfl
  ·rw [R0f h8 h0 hq] at h7
   rw [if_pos h3,if_neg h4,if_neg h5,if_pos h6,if_neg h7,e,G4c (by decide)]; exact Gg rfl
  ·have h9:=R0f h8 h0 hq
   rw [h9] at h7 e
   rw [if_pos h3,if_neg h4,if_neg h5,if_pos h6,if_pos h7,e,J49]
   refine Gy (J0d x.Box (show t.a.length≤1000 by omega)) (Z2 (by show -9223372036854775808≤n+1∧n+1≤9223372036854775807; omega) (Gg ?_))
   rw [Y13 hk]
   unfold G77
   rw [if_pos (.inr hk)]
   rfl
 ·rw [Kz h2,if_neg h2,G4c (by decide)]
  exact Hb (fun _=>Gg rfl) (fun h=>by cases h)
theorem Rd8 {n:Int} (hG:Good s boxes t) (hC:Hv F s boxes t.l t.o=some true) (hk:x.Kind=1∨x.Kind=4) :
  Z7 F (J21 s boxes t n) x=some (H65 s boxes t n x (G47 s t x)):=by
 have h6:=hG.opn.len
 have h7:=hG.ship.covs.len
 refine Z3 ?_
 unfold Z7
 by_cases h1:x.Box=0∧x.Slot=⟨0,0,0⟩∧0≤x.Ga∧x.Ga < (s.Covers.length:Int)
 ·have hc:((((decide (x.Box≠0))||(!decide (x.Slot=(Slot.mk 0 0 0))))||(decide (x.Ga < 0)))||(decide (((J21 s boxes t n).G6.Covers.length:Int)≤x.Ga)))=false:=by
   show ((((decide (x.Box≠0))||(!decide (x.Slot=(Slot.mk 0 0 0))))||(decide (x.Ga < 0)))||(decide ((s.Covers.length:Int)≤x.Ga)))=false
   rw [Kz (fun h=>h h1.1),Ky h1.2.1,Kz (show ¬ x.Ga < 0 by omega),Kz (show ¬ (s.Covers.length:Int)≤x.Ga by omega)]; rfl
  rw [hc,cond_false]
  refine Gy (Q83 t.o x.Ga) ?_
  unfold G47
  rw [if_pos h1]
  have h0:(decide (x.Ga∈t.o)==decide (x.Kind=1))=true ↔ (x.Ga∈t.o ↔ x.Kind=1):=by
   rw [beq_iff_eq,decide_eq_decide]
  by_cases h2:(x.Ga∈t.o ↔ x.Kind=1)
  ·rw [h0.2 h2,if_pos h2,G4c (by decide)]; exact Gg rfl
  ·have:(decide (x.Ga∈t.o)==decide (x.Kind=1))=false:=by rw [← Bool.not_eq_true]; exact fun h=>h2 (h0.1 h)
   rw [this,if_neg h2,cond_false]
   rcases hk with hk | hk
   ·rw [hk]
    refine Hb (fun h=>by cases h) (fun _=>?_)
    obtain⟨k,h5⟩:∃ k:Nat,x.Ga=(k:Int):=⟨x.Ga.toNat,by omega⟩
    have h8:x.Ga ∉ t.o:=fun h=>h2 ⟨fun _=>hk,fun _=>h⟩
    have h4:=Q65 hG.sta hG.opn hC (k:=k) (by omega)
    rw [← h5] at h4
    refine H8 (wp_mono h4 (fun r hr=>?_))
    rcases hr with ⟨h3,e⟩ | ⟨h3,e1,e2,e3⟩
    ·rw [if_pos ⟨rfl,h3⟩,e,G4c (by decide)]; exact Gg rfl
    ·rw [if_neg (fun g=>g.2 h3),e1,J49]
     refine Hb (fun h=>(Kw h rfl).elim) (fun _=>Gg ?_)
     rw [Y15 hk]
     have:r.1=H66 x.Ga t.o:=H23 e2.sorted (H7d hG.opn.sorted) fun a=>by rw [e3,G63]; exact⟨fun h=>h.symm,fun h=>h.symm⟩
     rw [this]
     unfold G77
     rw [if_neg (by omega),Int.add_zero]
     rfl
   ·rw [hk]
    refine Hb (fun _=>?_) (fun h=>by cases h)
    rw [if_neg (fun g=>absurd g.1 (by decide)),J49]
    refine Gy (J0d x.Ga (show t.o.length≤1000 by omega)) (Gg ?_)
    rw [Y12 hk]
    unfold G77
    rw [if_neg (by omega),Int.add_zero]
    rfl
 ·have hc:((((decide (x.Box≠0))||(!decide (x.Slot=(Slot.mk 0 0 0))))||(decide (x.Ga < 0)))||(decide (((J21 s boxes t n).G6.Covers.length:Int)≤x.Ga)))=true:=by
   show ((((decide (x.Box≠0))||(!decide (x.Slot=(Slot.mk 0 0 0))))||(decide (x.Ga < 0)))||(decide ((s.Covers.length:Int)≤x.Ga)))=true
   rw [← Bool.not_eq_false]
   intro h
   simp only [Mo,decide_eq_false_iff_not,Bool.not_eq_false',Mf] at h
   exact h1 ⟨Classical.not_not.1 h.1.1.1,h.1.1.2,by omega,by omega⟩
  rw [hc,cond_true]
  unfold G47
  rw [if_neg h1,G4c (by decide)]
  exact Gg rfl
theorem Y0c {n:Int} (hG:Good s boxes t) (hC:Hv F s boxes t.l t.o=some true) (hn:0≤n∧n≤1000000) (x:Move) :
  Qh F (J21 s boxes t n) x=some (H65 s boxes t n x (doE s boxes t x)):=by
 unfold doE
 by_cases hk:x.Kind=1∨x.Kind=4
 ·rw [if_pos hk]
  unfold Qh
  have:(decide (x.Kind=1)||decide (x.Kind=4))=true:=by simpa using hk
  rw [this,cond_true,Rd8 hG hC hk]
  rfl
 ·rw [if_neg hk]
  by_cases h2:x.Kind=2
  ·rw [if_pos h2]; exact Rd6 hG hC hn h2
  ·rw [if_neg h2]
   by_cases h3:x.Kind=3
   ·rw [if_pos h3]; exact Y0b hG hC hn h3
   ·rw [if_neg h3]
    unfold Qh
    have:(decide (x.Kind=1)||decide (x.Kind=4))=false:=by rw [← Bool.not_eq_true]; simpa using hk
    rw [this,cond_false,Ky h2,Ky h3,G4c (by decide)]
    rfl
theorem R1a {β:Type} {boxes:List Box} {state:List G3} {a:List Int} {i:Nat} {y:Int} (hi:i≤1000000) (hy:a[i]? = some y) {A B:Option β} :
  (Q68 boxes state a i y∧(bnd (Qe boxes y) fun r40=>
   bnd (bif ((!((!r40.2)||((decide (r40.1.Size≠20))&&(decide (r40.1.Size≠40)))))&&(decide (0 < (i:Int)))) then chk ((i:Int) - 1) some else some 0) fun v42=>
   bnd (bif ((!((!r40.2)||((decide (r40.1.Size≠20))&&(decide (r40.1.Size≠40)))))&&(decide (0 < (i:Int)))) then Qr a v42 some else some default) fun y43=>
   bnd (bif (!(((!r40.2)||((decide (r40.1.Size≠20))&&(decide (r40.1.Size≠40))))||((decide (0 < (i:Int)))&&(decide (y≤y43))))) then Qi state y else some default) fun r44=>
   bif ((((!r40.2)||((decide (r40.1.Size≠20))&&(decide (r40.1.Size≠40))))||((decide (0 < (i:Int)))&&(decide (y≤y43))))||(decide (0≤r44))) then A else B)=A) ∨
  (¬ Q68 boxes state a i y∧(bnd (Qe boxes y) fun r40=>
   bnd (bif ((!((!r40.2)||((decide (r40.1.Size≠20))&&(decide (r40.1.Size≠40)))))&&(decide (0 < (i:Int)))) then chk ((i:Int) - 1) some else some 0) fun v42=>
   bnd (bif ((!((!r40.2)||((decide (r40.1.Size≠20))&&(decide (r40.1.Size≠40)))))&&(decide (0 < (i:Int)))) then Qr a v42 some else some default) fun y43=>
   bnd (bif (!(((!r40.2)||((decide (r40.1.Size≠20))&&(decide (r40.1.Size≠40))))||((decide (0 < (i:Int)))&&(decide (y≤y43))))) then Qi state y else some default) fun r44=>
   bif ((((!r40.2)||((decide (r40.1.Size≠20))&&(decide (r40.1.Size≠40))))||((decide (0 < (i:Int)))&&(decide (y≤y43))))||(decide (0≤r44))) then A else B)=B):=by
 rw [J48]
 cases hf:Jp boxes y with
 | none=>exact .inl ⟨.inl (fun b hb=>by rw [hf] at hb; cases hb),rfl⟩
 | some b=>
  simp only [Qt]
  by_cases hz:b.Size=20∨b.Size=40
  ·have h5:(decide (b.Size≠20)&&decide (b.Size≠40))=false:=by
    rw [← Bool.not_eq_true,Me,Mf,Mf]; omega
   rw [h5]
   simp only [Bool.not_true,Bool.not_false,Bool.true_and,Bool.false_or]
   have h3:decide (0≤H67 (fun x:G3=>decide (x.Box=y)) state)=true ↔ y∈state.map (·.Box):=by
    rw [H04,List.any_eq_true,Mi]
    exact⟨fun⟨x,hx,e⟩=>⟨x,hx,Kw e⟩,fun⟨x,hx,e⟩=>⟨x,hx,Ky e⟩⟩
   have h6:¬ (∀ d,some b=some d→¬ (d.Size=20∨d.Size=40)):=fun h=>h b rfl hz
   rw [Q1d]
   by_cases hp:0 < (i:Int)
   ·have hl:i - 1 < a.length:=by have:=(M0 hy).1; omega
    have hq:a[i - 1]? = some a[i - 1]:=M1 hl
    rw [Ky hp]
    simp only [cond_true,Bool.true_and]
    rw [Y29 (by omega),Qt,Jd0 (show (i:Int) - 1=((i - 1:Nat):Int) by omega) hq,Qt]
    by_cases h4:y≤a[i - 1]
    ·rw [Ky h4]
     exact .inl ⟨.inr (.inl ⟨_,by omega,hq,h4⟩),rfl⟩
    ·rw [Kz h4]
     simp only [Bool.not_false,cond_true,Bool.false_or,Qt]
     by_cases hm:y∈state.map (·.Box)
     ·rw [h3.2 hm]; exact .inl ⟨.inr (.inr hm),rfl⟩
     ·have:decide (0≤H67 (fun x:G3=>decide (x.Box=y)) state)=false:=by rw [← Bool.not_eq_true]; exact fun h=>hm (h3.1 h)
      rw [this]
      refine .inr ⟨?_,rfl⟩
      rintro(h | ⟨p,_,h1,h2⟩ | h)
      ·rw [hf] at h; exact h6 h
      ·rw [hq] at h1; cases h1; exact h4 h2
      ·exact hm h
   ·rw [Kz hp]
    simp only [cond_false,Bool.false_and,Bool.not_false,cond_true,Bool.false_or,Qt]
    by_cases hm:y∈state.map (·.Box)
    ·rw [h3.2 hm]; exact .inl ⟨.inr (.inr hm),rfl⟩
    ·have:decide (0≤H67 (fun x:G3=>decide (x.Box=y)) state)=false:=by rw [← Bool.not_eq_true]; exact fun h=>hm (h3.1 h)
     rw [this]
     refine .inr ⟨?_,rfl⟩
     rintro(h | ⟨p,h0,_⟩ | h)
     ·rw [hf] at h; exact h6 h
     ·omega
     ·exact hm h
  ·have h5:(decide (b.Size≠20)&&decide (b.Size≠40))=true:=by
    rw [Me,Mf,Mf]; omega
   rw [h5]
   exact .inl ⟨.inl (fun d hd=>by rw [hf] at hd; cases hd; exact hz),rfl⟩
end
theorem R00 {F:Nat} {s:G6} {boxes:List Box} {l:List G3} {a:List Int} (h:R22 s boxes) (hl:l.length≤1000) (h6:a.length≤1000) :
  (Gfa s boxes l a→Rn F s boxes l a=some (J21 s boxes ⟨l,[],a⟩ 0,0))∧(¬ Gfa s boxes l a→∃ r,Rn F s boxes l a=some r∧r.2=2):=by
 obtain⟨r,h5,h4⟩:=Qff (F:=F) h.plugs h.rows8 h.size (l:=l) (by omega)
 have hj:∀ j y,a[j]? = some y→0+j≤1000000∧a[0+j]? = some y:=fun j y hj=>⟨by have:=(M0 hj).1; omega,by rw [Nat.zero_add]; exact hj⟩
 unfold Rn
 rw [h5,Qt]
 constructor
 ·intro hS
  rw [h4.2 ⟨hS.ship,hS.right⟩]
  refine Jd1 (fun _=>rfl) _ _ _ (fun j y h0 s nx=>?_)
  rcases R1a (boxes:=boxes) (state:=l) (hj j y h0).1 (hj j y h0).2 (A:=some ((Gq.mk (G6.mk [] [] (Light.mk 0 0 0 0) [] [] [] (G5.mk 0 0 0 0)) [] [] [] [] 0),(2:Int))) (B:=nx ()) with ⟨h1,_⟩ | ⟨_,h2⟩
  ·exact(hS.each (0+j) y (hj j y h0).2 h1).elim
  ·exact⟨(),h2⟩
 ·intro hS
  cases r with
  | false=>exact⟨_,rfl,rfl⟩
  | true=>
   obtain⟨g1,g2⟩:=h4.1 rfl
   have h3:∃ j y,a[j]? = some y∧Q68 boxes l a (0+j) y:=by
    apply Classical.byContradiction
    intro g
    refine hS ⟨g1,g2,fun i y hy hb=>g ⟨i,y,hy,by rw [Nat.zero_add]; exact hb⟩⟩
   refine⟨((Gq.mk (G6.mk [] [] (Light.mk 0 0 0 0) [] [] [] (G5.mk 0 0 0 0)) [] [] [] [] 0),2),?_,rfl⟩
   refine J52 (Q68 boxes l a) _ _ _ (fun j y h0 s nx=>?_) h3
   rcases R1a (boxes:=boxes) (state:=l) (hj j y h0).1 (hj j y h0).2 (A:=some ((Gq.mk (G6.mk [] [] (Light.mk 0 0 0 0) [] [] [] (G5.mk 0 0 0 0)) [] [] [] [] 0),(2:Int))) (B:=nx ()) with ⟨h1,h2⟩ | ⟨h1,h2⟩
   ·exact .inl ⟨h1,h2⟩
   ·exact .inr ⟨h1,(),h2⟩
theorem Jd8 {α β:Type} {Q:β→Prop} {c:Bool} {m:Option α} {x d:α} {k:α→Option β} (hc:c=true) (hm:m=some x) (h:Wp (k x) Q):Wp (bnd (bif c then m else some d) k) Q:=by
 subst hc hm
 exact h
theorem Y65:G17=some true:=by kernel_rfl
theorem Ydc {s:G6} {boxes:List Box} {state:List G3} (hb:∀ b∈boxes,0≤b.Size∧b.Size≤255) :
  Wp (G01 s boxes state) (fun r=>r=true→R22 s boxes∧state.length≤40):=by
 unfold G01
 refine Hb (fun _=>Gg (fun h=>by cases h)) (fun h=>?_)
 simp only [Mo,decide_eq_false_iff_not] at h
 obtain⟨⟨⟨h4,h5⟩,h6⟩,h7⟩:=h
 refine Q8 (fun pre _=>∀ c∈pre,c.Plugs.length≤20) (fun c hc=>by cases hc) (fun pre y post u nx e hI h0=>Hb (fun _=>Gg (fun h=>by cases h)) (fun h=>h0 _ (Y0 hI (by have:=Kx h; omega)))) (fun _ hp=>?_)
 refine Q8 (fun pre _=>∀ c∈pre,c.Rows.length≤40) (fun c hc=>by cases hc) (fun pre y post u nx e hI h0=>Hb (fun _=>Gg (fun h=>by cases h)) (fun h=>h0 _ (Y0 hI (by have:=Kx h; omega)))) (fun _ hr=>?_)
 exact R2c (R2c (Gg (fun _=>⟨⟨fun c hc=>by have:=hp c hc; omega,fun x hx=>by have:=hr x hx; omega,hb,by omega,by omega⟩,by omega⟩)))
theorem Q7d (l:List Int):R7 l l=some true:=by
 refine Z3 ?_
 unfold R7
 refine Hb (fun h=>((Kw h) rfl).elim) (fun _=>?_)
 refine Q8 (fun _ _=>True) trivial (fun pre y post u nx e _ h0=>?_) (fun u _=>Gg rfl)
 refine Zr (x:=y) rfl (by rw [e]; simp) (Hb (fun h=>((Kw h) rfl).elim) (fun _=>h0 _ trivial))
theorem Rce (l:List G3):R6 l l=some true:=by
 refine Z3 ?_
 unfold R6
 refine Hb (fun h=>((Kw h) rfl).elim) (fun _=>?_)
 refine Q8 (fun _ _=>True) trivial (fun pre y post u nx e _ h0=>?_) (fun u _=>Gg rfl)
 refine Zr (x:=y) rfl (by rw [e]; simp) (Hb (fun h=>?_) (fun _=>h0 _ trivial))
 rw [Ky (rfl:y=y)] at h
 cases h
theorem Y05 {s:G6} {boxes:List Box} {m:Gh} {t:St} (hG:Good s boxes t) (hR:H07 s boxes m t):Yj m (J21 s boxes t m.lifts)=some true:=by
 refine Z3 ?_
 unfold Yj
 refine Gy (Y00 hG hR) (Gy (Rce t.l) (Gy (x:=t.a) (Ree hG hR) (Gy (x:=true) (Q7d t.a) (Gy (x:=t.o) (Y56 hG hR) (Gy (x:=true) (Q7d t.o) (Gy (x:=m.lifts) rfl (Gg ?_)))))))
 show ((true&&true)&&true&&decide (m.lifts=m.lifts))=true
 rw [Ky rfl]; rfl
noncomputable def plR (s:G6) (boxes:List Box):St→Int→List Move→Nat×Int×St×Int
 | t,n,[]=>(0,0,t,n)
 | t,n,x::r=>if doE s boxes t x=0 then ((plR s boxes (nxt t x) (n+G77 x) r).1+1,(plR s boxes (nxt t x) (n+G77 x) r).2) else (0,doE s boxes t x,t,n)
theorem R0c (x:Move):0≤G77 x∧G77 x≤1:=by
 unfold G77; split <;> omega
section
variable {s:G6} {boxes:List Box}
theorem Qb4 {t:St} {n:Int} {x:Move} {r:List Move} (h:doE s boxes t x=0):plR s boxes t n (x::r)=((plR s boxes (nxt t x) (n+G77 x) r).1+1,(plR s boxes (nxt t x) (n+G77 x) r).2):=by rw [plR,if_pos h]
theorem Jcd {t:St} {n:Int} {x:Move} {r:List Move} (h:doE s boxes t x≠0):plR s boxes t n (x::r)=(0,doE s boxes t x,t,n):=by rw [plR,if_neg h]
theorem Y0d {m:Gh} {t:St} (l:List Move) (hl:l.length≤100) (hG:Good s boxes t) (hR:H07 s boxes m t) (h0:m.lifts=0) :
  Wp (G54 m l) (fun r=>r.1=((plR s boxes t 0 l).1:Int)∧r.2.1=(plR s boxes t 0 l).2.1∧H07 s boxes r.2.2 (plR s boxes t 0 l).2.2.1∧r.2.2.lifts=(plR s boxes t 0 l).2.2.2):=by
 unfold G54
 refine Q8 (fun pre (q:Gh)=>∃ t',Good s boxes t'∧H07 s boxes q t'∧0≤q.lifts∧q.lifts≤pre.length∧∀ post,l=pre++post→plR s boxes t 0 l=(pre.length+(plR s boxes t' q.lifts post).1,(plR s boxes t' q.lifts post).2)) ⟨t,hG,hR,by omega,by rw [h0]; exact Int.le_refl 0,fun post e=>by rw [h0,e]; simp⟩ (fun pre y post q nx e hI h2=>?_) (fun q hI=>?_)
 ·obtain⟨t',g1,g2,g3,g4,g5⟩:=hI
  have hp:pre.length≤100:=by rw [e,Mc] at hl; omega
  have h1:=g5 (y::post) e
  refine H8 (wp_mono (Y61 g1 g2 ⟨g3,by omega⟩ y) (fun r hr=>?_))
  obtain⟨d1,d2,d3⟩:=hr
  have hb:=R0c y
  refine Hb (fun h=>Gg ?_) (fun h=>h2 _ ?_)
  ·have h:=Kw h
   rw [d1] at h
   rw [Jcd h] at h1
   rw [h1,d3 h]
   exact⟨by show (pre.length:Int)=((pre.length+0:Nat):Int); omega,d1,g2,rfl⟩
  ·have h:doE s boxes t' y=0:=by have:=Kx h; rw [d1] at this; omega
   obtain⟨e1,e2⟩:=d2 h
   rw [Qb4 h] at h1
   refine⟨nxt t' y,(Qbe g1 h).step g1,e1,by omega,by rw [Mc,Md]; omega,fun post' e'=>?_⟩
   have:post'=post:=by rw [e] at e'; simpa using e'.symm
   subst this
   rw [h1,e2,Mc,Md]
   exact Prod.ext (by show pre.length+(_+1)=pre.length+1+_; omega) rfl
 ·obtain⟨t',g1,g2,g3,g4,g5⟩:=hI
  have:=g5 [] (by simp)
  refine Gg ?_
  rw [this]
  exact⟨by show (l.length:Int)=((l.length+0:Nat):Int); omega,rfl,g2,rfl⟩
abbrev tupR (k e:Int) (r:Gq):Int×Int×(List G1)×(List Ga)×Int×Int×Int×Int×(List Row)×(List Frame)×(List Gr)×Int×Int×Int×Int×(List Box)×(List G3)×(List Int)×(List Int)×Int:=
 (k,e,r.G6.Columns,r.G6.Covers,r.G6.Light.Kilos,r.G6.Light.X,r.G6.Light.Y,r.G6.Light.Z,r.G6.Rows,r.G6.Frames,r.G6.Tanks,r.G6.G5.Tolerance,r.G6.G5.Trim,r.G6.G5.List_,r.G6.G5.Stability,r.Boxes,r.State,r.Ashore,r.Open,r.Lifts)
end
theorem R7a {F:Nat} (hF:100≤F) (s:G6) (boxes:List Box) (state:List G3) (ashore:List Int) (l:List Move) (hb:∀ b∈boxes,0≤b.Size∧b.Size≤255) :
  Zf F s boxes state ashore l=some true:=by
 obtain⟨s1,s2,⟨s3,s4,s5,s6⟩,s7,s8,s9,⟨s10,s11,s12,s13⟩⟩:=s
 obtain⟨s,hs⟩:∃ s:G6,s=⟨s1,s2,⟨s3,s4,s5,s6⟩,s7,s8,s9,⟨s10,s11,s12,s13⟩⟩:=⟨_,rfl⟩
 rw [← hs]
 refine Z3 ?_
 unfold Zf
 suffices hp:Wp (Za F s boxes state ashore l) (·=true) by
  exact H8 (wp_mono hp (fun r hr=>Jd8 hr Y65 (Gg (by rw [hr]; rfl))))
 unfold Za
 refine H8 (wp_mono (Ydc (state:=state) hb) (fun r4 h4=>Hb (fun _=>Gg rfl) (fun h=>?_)))
 simp only [Mo,decide_eq_false_iff_not,Bool.not_eq_false'] at h
 obtain⟨⟨g1,g2⟩,g3⟩:=h
 obtain⟨h1,a6⟩:=h4 g1
 have a7:=h1.covs
 obtain⟨r1,r2⟩:=R00 (F:=F) h1 (l:=state) (a:=ashore) (by omega) (by omega)
 by_cases hS:Gfa s boxes state ashore
 ·have hL:=h1.lim hS.ship
  obtain⟨q,hq,a1,h3,a2⟩:=R5e hL hS.right (by omega) (by omega) hS.box hS.asc hS.dis
  have hG:Good s boxes ⟨state,[],ashore⟩:=⟨hL,hS.right,Rdd,fun k hk=>(by cases hk),hS.box,hS.asc,hS.dis,by show state.length+ashore.length≤80; omega⟩
  rw [hq]
  refine Hb (fun _=>?_) (fun h=>by cases h)
  refine H8 (Gg (Gy (r1 hS) ?_))
  rw [a1]
  refine Hb (fun h=>(Kw h rfl).elim) (fun _=>Hb (fun h=>(Kw h rfl).elim) (fun _=>?_))
  have a0:∀ t,Good s boxes t→Hv F s boxes t.l t.o=some true:=fun t ht=>R05 (by omega) (h1.right (R0b ht.ship) ht.right (by have:=ht.num; omega)) ht.opn
  obtain⟨t0,a3⟩:∃ t0:St,t0=⟨state,[],ashore⟩:=⟨_,rfl⟩
  rw [← a3] at hG h3 ⊢
  refine wp_loop (fun σ=>∃ (pre post:List Move) (t:St) (n e:Int),l=pre++post∧Good s boxes t∧0≤n∧n≤pre.length∧σ=tupR pre.length e (J21 s boxes t n) ∧
    ((e=0∧plR s boxes t0 0 l=(pre.length+(plR s boxes t n post).1,(plR s boxes t n post).2))∨(e≠0∧plR s boxes t0 0 l=(pre.length,e,t,n))))
   (fun σ=>if σ.2.1=0 then 1+(l.length - σ.1.toNat) else 0) ⟨[],l,t0,0,0,rfl,hG,by omega,by simp,rfl,.inl ⟨rfl,by simp⟩⟩ (by show (if (0:Int)=0 then 1+(l.length - (0:Int).toNat) else 0) < F; rw [if_pos rfl]; omega) (fun σ nx hI h6=>?_)
  obtain⟨pre,post,t,n,e,el,h2,h7,a4,rfl,hc⟩:=hI
  have h8:pre.length+post.length=l.length:=by rw [el,Mc]
  -- what stands behind the loop
  have fin:∀ k:Nat,∀ e':Int,plR s boxes t0 0 l=(k,e',t,n)→(pre.length:Int)=k→e=e'→Wp ((bnd (Qx l) fun r47=>
       bnd (G54 q.1 r47.1) fun r49=>
       bnd (bif ((decide (r49.1=(pre.length:Int)))&&(decide (r49.2.1=e))) then Yj r49.2.2 (J21 s boxes t n) else some default) fun r51=>
       bnd (bif (((decide (r49.1=(pre.length:Int)))&&(decide (r49.2.1=e)))&&r51) then Ru r47 l else some default) fun r52=>
       some ((((decide (r49.1=(pre.length:Int)))&&(decide (r49.2.1=e)))&&r51)&&r52))) (·=true):=fun k e' hp hk he=>by
   refine Gy (Qc8 (by omega)) ?_
   have h9:=Y0d l (by omega) hG h3 a2
   rw [hp] at h9
   refine H8 (wp_mono h9 (fun r hr=>?_))
   obtain⟨k1,k2,k3,k4⟩:=hr
   rw [Ky (k1.trans hk.symm),Ky (k2.trans he.symm)]
   have hs:=Y05 h2 k3
   rw [k4] at hs
   exact Jd8 rfl hs (Jd8 rfl (Qc9 (by omega)) (Gg rfl))
  show Wp (bif ((decide ((pre.length:Int) < (l.length:Int)))&&(decide (e=0))) then _ else _) _
  refine Hb (fun h=>?_) (fun h=>?_)
  ·rw [Me,Mf,Mf] at h
   obtain⟨h5,rfl⟩:=h
   obtain⟨_,hc⟩:=hc.resolve_right (fun g=>g.1 rfl)
   cases post with
   | nil=>simp at h8; omega
   | cons y post=>
    have hy:l[pre.length]? = some y:=by rw [el]; simp
    refine Zr rfl hy ?_
    have hd:=Y0c (F:=F) h2 (a0 t h2) (n:=n) ⟨h7,by omega⟩ y
    refine Gy (x:=H65 s boxes t n y (doE s boxes t y)) hd ?_
    have hb:=R0c y
    by_cases h0:doE s boxes t y=0
    ·rw [h0,J49]
     rw [Qb4 h0] at hc
     refine Hb (fun _=>Z2 (by show -9223372036854775808≤(pre.length:Int)+1∧(pre.length:Int)+1≤9223372036854775807; omega) (h6 _ ?_ ?_)) (fun h=>(Kx h rfl).elim)
     ·refine⟨pre++[y],post,nxt t y,n+G77 y,0,by rw [el]; simp,(Qbe h2 h0).step h2,by omega,by rw [Mc,Md]; omega,?_,.inl ⟨rfl,?_⟩⟩
      ·rw [Mc,Md]; rfl
      ·rw [hc,Mc,Md]
       exact Prod.ext (by show pre.length+(_+1)=pre.length+1+_; omega) rfl
     ·show (if (0:Int)=0 then 1+(l.length - ((pre.length:Int)+1).toNat) else 0) < (if (0:Int)=0 then 1+(l.length - ((pre.length:Int)).toNat) else 0)
      rw [if_pos rfl,if_pos rfl]
      simp only [M8] at h8
      omega
    ·rw [G4c h0]
     rw [Jcd h0] at hc
     refine Hb (fun h=>(h0 (Kw h)).elim) (fun _=>h6 _ ?_ ?_)
     ·exact⟨pre,y::post,t,n,doE s boxes t y,el,h2,h7,a4,rfl,.inr ⟨h0,by rw [hc]; rfl⟩⟩
     ·show (if doE s boxes t y=0 then 1+(l.length - ((pre.length:Int)).toNat) else 0) < (if (0:Int)=0 then 1+(l.length - ((pre.length:Int)).toNat) else 0)
      rw [if_neg h0,if_pos rfl]
      omega
  ·rcases hc with ⟨he,hc⟩ | ⟨he,hc⟩
   ·subst he
    rw [Ky rfl,Bool.and_true,decide_eq_false_iff_not] at h
    have:post=[]:=Kr (by omega)
    subst this
    exact fin pre.length 0 (by rw [hc]; rfl) rfl rfl
   ·exact fin pre.length e hc rfl rfl
 ·obtain⟨s1,s2⟩:=R5f h1.plugs (fun x hx=>by have:=h1.rows x hx; omega) (by have:=h1.cols; omega) (by omega) (l:=state) (a:=ashore) (by omega) (by omega) hS
  obtain⟨r,hr,a5⟩:=r2 hS
  rw [s1]
  refine Hb (fun h=>by cases h) (fun _=>Gy s2 (Gy hr ?_))
  rw [a5]
  exact Hb (fun h=>(Kw h rfl).elim) (fun _=>Hb (fun _=>Gg rfl) (fun h=>by cases h))
end Go.Proofs.YtmfhaflabpnaoaaGreat
