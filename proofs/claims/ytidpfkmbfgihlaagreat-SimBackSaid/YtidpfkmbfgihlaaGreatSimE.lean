/-
 What doing a move does: the move can be done,and is done,or an error is told,and nothing changes. What putting a box does,and doing any move. How a simulator begins,and what the chapter's statements make.
-/
import Derived.Test.YtidpfkmbfgihlaaGreatSimB
set_option maxRecDepth 100000
set_option linter.unusedVariables false
namespace Go.Proofs.YtidpfkmbfgihlaaGreat
open Go.RowKit

theorem Z3 {v:Option Bool} {P:Prop} {e:Int} {rest:List (Option Bool×Int)} {Q:Int→Prop} (hv:Wp v (fun r=>r=true ↔ P)) (h1:P→Wp (H1c rest) Q) (h2:¬ P→Q e):Wp (H1c ((v,e)::rest)) Q:=by
 obtain⟨r,rfl,hr⟩:=hv
 cases r with
 | true=>exact h1 (hr.1 rfl)
 | false=>exact⟨e,rfl,h2 (fun hp=>by have:=hr.2 hp; cases this)⟩
theorem Hc7 {Q:Int→Prop} (h:Q 0):Wp (H1c []) Q:=⟨0,rfl,h⟩
def R95 (s:Gk) (boxes:List Box) (m:Gb) (t:St) (x:Move) (r:Int×Gb):Prop:=
 (Can s boxes t x∧r.1=0∧H2d s boxes r.2 (nxt t x)∧r.2.lifts=m.lifts+G7d x)∨(¬ Can s boxes t x∧r.1≠0∧r.2=m)
section
variable {s:Gk} {boxes:List Box} {m:Gb} {t:St} {x:Move}
open Classical in
theorem Q9c (hG:Good s boxes t) (hR:H2d s boxes m t) {is:Slot→Option Bool} {P:Slot→Prop} (h:∀ y∈t.l,Wp (is y.Slot) (fun r=>r=true ↔ P y.Slot)):Wp (Zz m is) (fun r=>r=true ↔ ∃ y∈t.l,P y.Slot):=by
 refine⟨_,Z13 hG hR (p:=fun y=>decide (P y)) (fun y hy=>Y71 (h y hy)),?_⟩
 show (t.l.any _=true) ↔ _
 rw [List.any_eq_true]
 exact⟨fun⟨y,hy,e⟩=>⟨y,hy,of_decide_eq_true e⟩,fun⟨y,hy,e⟩=>⟨y,hy,decide_eq_true e⟩⟩
theorem R2d {s:Gk} {z:Int} {i j:Nat} {c d:G2} (h1:z=(i:Int)) (h2:z=(j:Int)) (hc:s.Columns[i]? = some c) (hd:s.Columns[j]? = some d):d=c:=by
 have:j=i:=by omega
 subst this
 rw [hc] at hd
 cases hd; rfl
theorem Qde (hG:Good s boxes t) (hR:H2d s boxes m t) (b:Bool) (y:Move):Wp (G0a b m y) (fun r=>r=true ↔ (b=true→J5a s t.l y.G8)):=by
 unfold G0a
 cases b with
 | false=>exact H5 (Gj (Gj ⟨fun _ h=>(by cases h),fun _=>rfl⟩))
 | true=>
  simp only [Bool.not_true,Bool.not_false,cond_true]
  refine H5 (wp_mono (Q9c hG hR (P:=fun z=>∃ (i:Nat) (c:G2),z.G2=(i:Int)∧s.Columns[i]? = some c∧c.Deck=true∧R4 s c=y.G8) (fun z hz=>?_)) (fun r hr=>Gj ?_))
  ·obtain⟨i,c,hi,hc⟩:=hG.sta.colIn hz
   have hcl:(∃ (i:Nat) (c:G2),z.Slot.G2=(i:Int)∧s.Columns[i]? = some c∧c.Deck=true∧R4 s c=y.G8) ↔ (c.Deck=true∧R4 s c=y.G8):=by
    constructor
    ·rintro⟨j,d,h1,h2,h3⟩
     have:=R2d hi h1 hc h2
     subst this
     exact h3
    ·exact fun h=>⟨i,c,hi,hc,h⟩
   unfold G14
   rw [hi] at hcl ⊢
   refine Yg rfl (show m.ship.Columns[i]? = some c by rw [hR.cols]; exact hc) ?_
   rw [hcl]
   cases hd:c.Deck with
   | false=>exact H5 (Gj (Gj ⟨fun h=>(by cases h),fun h=>(by cases h.1)⟩))
   | true=>exact H2 (Qe9 hG hR hc) (Gj ⟨fun h=>⟨rfl,of_decide_eq_true h⟩,fun h=>decide_eq_true h.2⟩)
  ·show ((false||!r)=true) ↔ _
   rw [Bool.false_or,Bool.not_eq_true',← Bool.not_eq_true,hr]
   constructor
   ·exact fun h _ z hz i c h1 h2 h3 h4=>h ⟨z,hz,i,c,h1,h2,h3,h4⟩
   ·rintro h ⟨z,hz,i,c,h1,h2,h3,h4⟩
    exact h trivial z hz i c h1 h2 h3 h4
theorem Q89 (hR:H2d s boxes m t):Wp (Z2 ((((decide (x.Box=0))&&(decide (x.Slot=(Slot.mk 0 0 0))))&&(decide (0≤x.G8)))&&(decide (x.G8 < (m.ship.Covers.length:Int))))) (fun r=>r=true ↔ (x.Box=0∧x.Slot=⟨0,0,0⟩∧0≤x.G8∧x.G8 < (s.Covers.length:Int))):=by
 refine Gj ?_
 rw [hR.covs]
 simp only [Bool.and_eq_true,decide_eq_true_eq,and_assoc]
theorem Rfa (hG:Good s boxes t) (hR:H2d s boxes m t) (hk:x.Kind=1):Wp (G0e m x) (R95 s boxes m t x):=by
 have hcan:Can s boxes t x ↔ Jbe s t x:=by
  constructor
  ·rintro(h | h | h | h)
   ·exact h.2
   all_goals exact absurd h.1 (by omega)
  ·exact fun h=>.inl ⟨hk,h⟩
 unfold G0e
 refine H2 rfl (H2 rfl (H2 rfl (H5 (wp_mono (Q':=fun r=>(r=0∧Jbe s t x)∨(r≠0∧¬ Jbe s t x)) ?_ (fun r8 h8=>?_)))))
 ·rw [R1c hR,decide_eq_true hk]
  refine Z3 (Q89 hR) (fun h1=>?_) (fun h1=>.inr ⟨by decide,fun h=>h1 ⟨h.1,h.2.1,h.2.2.1,h.2.2.2.1⟩⟩)
  refine Z3 (P:=x.G8 ∉ t.o) (Gj ?_) (fun h2=>?_) (fun h2=>.inr ⟨by decide,fun h=>h2 h.2.2.2.2.1⟩)
  ·simp
  refine Z3 (Qde hG hR true _) (fun h3=>Hc7 (.inl ⟨rfl,h1.1,h1.2.1,h1.2.2.1,h1.2.2.2,h2,h3 rfl⟩)) (fun h3=>.inr ⟨by decide,fun h=>h3 fun _=>h.2.2.2.2.2⟩)
 ·refine Hr (fun h=>Gj (.inr ?_)) (fun h=>?_)
  ·have h0:=of_decide_eq_true h
   rcases h8 with ⟨e,_⟩ | ⟨e,h8⟩
   ·exact(h0 e).elim
   ·exact⟨fun g=>h8 (hcan.1 g),e,rfl⟩
  ·have h0:r8=0:=by have:=of_decide_eq_false h; omega
   have h8:Jbe s t x:=h8.elim (·.2) (fun h=>(h.1 h0).elim)
   have hz:Gt.get m.open_ x.G8 0=0:=Y0d _ (fun v hv=>h8.2.2.2.2.1 ((hR.opn _ v).1 hv).1)
   refine G7c (fun j=>j=Gb.mk m.ship m.on m.quay (Gt.put m.open_ x.G8 1) m.lifts) (fun K hK=>Hr (fun _=>?_) (fun h=>absurd hk (of_decide_eq_false h))) (fun j hj=>Gj (.inl ⟨hcan.2 h8,rfl,?_,?_⟩))
   ·refine H2 rfl (R1 (by rw [hz]; omega) (hK _ (by rw [hz]; rfl)))
   ·subst hj
    rw [Yc9 hk]
    refine⟨hR.cols,hR.covs,hR.on,hR.quay,fun k v=>?_⟩
    show (k,v)∈Gt.He (Gt.put m.open_ x.G8 1) ↔ k∈He6 x.G8 t.o∧v=1
    rw [Q42,G8a,hR.opn]
    constructor
    ·rintro(h | h)
     ·exact⟨.inl h.1,h.2⟩
     ·exact⟨.inr h.2.1,h.2.2⟩
    ·rintro⟨h | h,e⟩
     ·exact .inl ⟨h,e⟩
     ·exact .inr ⟨fun e2=>h8.2.2.2.2.1 (e2 ▸ h),h,e⟩
   ·subst hj
    show m.lifts=m.lifts+G7d x
    unfold G7d
    rw [if_neg (by omega)]; omega
theorem Rf9 (hG:Good s boxes t) (hR:H2d s boxes m t) (hk:x.Kind=4):Wp (G0e m x) (R95 s boxes m t x):=by
 have hcan:Can s boxes t x ↔ Jbd s t x:=by
  constructor
  ·rintro(h | h | h | h)
   ·exact absurd h.1 (by omega)
   ·exact h.2
   all_goals exact absurd h.1 (by omega)
  ·exact fun h=>.inr (.inl ⟨hk,h⟩)
 unfold G0e
 refine H2 rfl (H2 rfl (H2 rfl (H5 (wp_mono (Q':=fun r=>(r=0∧Jbd s t x)∨(r≠0∧¬ Jbd s t x)) ?_ (fun r8 h8=>?_)))))
 ·rw [R1c hR,decide_eq_false (show ¬ x.Kind=1 by omega)]
  refine Z3 (Q89 hR) (fun h1=>?_) (fun h1=>.inr ⟨by decide,fun h=>h1 ⟨h.1,h.2.1,h.2.2.1,h.2.2.2.1⟩⟩)
  refine Z3 (P:=x.G8∈t.o) (Gj ?_) (fun h2=>?_) (fun h2=>.inr ⟨by decide,fun h=>h2 h.2.2.2.2⟩)
  ·simp
  refine Z3 (Qde hG hR false _) (fun h3=>Hc7 (.inl ⟨rfl,h1.1,h1.2.1,h1.2.2.1,h1.2.2.2,h2⟩)) (fun h3=>(h3 (fun h=>by cases h)).elim)
 ·refine Hr (fun h=>Gj (.inr ?_)) (fun h=>?_)
  ·have h0:=of_decide_eq_true h
   rcases h8 with ⟨e,_⟩ | ⟨e,h8⟩
   ·exact(h0 e).elim
   ·exact⟨fun g=>h8 (hcan.1 g),e,rfl⟩
  ·have h0:r8=0:=by have:=of_decide_eq_false h; omega
   have h8:Jbd s t x:=h8.elim (·.2) (fun h=>(h.1 h0).elim)
   refine G7c (fun j=>j=Gb.mk m.ship m.on m.quay (Gt.del m.open_ x.G8) m.lifts) (fun K hK=>Hr (fun h=>absurd (of_decide_eq_true h) (by omega)) (fun _=>hK _ rfl)) (fun j hj=>Gj (.inl ⟨hcan.2 h8,rfl,?_,?_⟩))
   ·subst hj
    rw [Yc6 hk]
    refine⟨hR.cols,hR.covs,hR.on,hR.quay,fun k v=>?_⟩
    show (k,v)∈Gt.He (Gt.del m.open_ x.G8) ↔ k∈J25 x.G8 t.o∧v=1
    rw [Ra6,G8b,hR.opn]
    exact⟨fun h=>⟨⟨h.2.1,h.1⟩,h.2.2⟩,fun h=>⟨h.1.2,h.1.1,h.2⟩⟩
   ·subst hj
    show m.lifts=m.lifts+G7d x
    unfold G7d
    rw [if_neg (by omega)]; omega
theorem Y7b (hG:Good s boxes t) (hR:H2d s boxes m t) {y z:Stowed} (hy:y∈t.l) (hz:z∈t.l) (e:y.Slot=z.Slot):y=z:=by
 obtain⟨b,hb,_⟩:=hG.right.each y hy
 obtain⟨d,hd,_⟩:=hG.right.each z hz
 have h1:=(hR.on y.Slot b).2 ⟨by rw [G61 hb]; exact hy,by rw [G61 hb]; exact hb⟩
 have h2:=(hR.on z.Slot d).2 ⟨by rw [G61 hd]; exact hz,by rw [G61 hd]; exact hd⟩
 rw [e] at h1
 have h3:b=d:=(J0c m.on (z:=default) h1).symm.trans (J0c m.on (z:=default) h2)
 exact Jaa hG.right.sorted hy hz (by rw [← G61 hb,← G61 hd,h3])
theorem Y83 (hG:Good s boxes t) (hR:H2d s boxes m t) (hk:x.Kind=2) (hl:0≤m.lifts∧m.lifts≤1000000):Wp (Gc7 m x) (R95 s boxes m t x):=by
 have hcan:Can s boxes t x ↔ Qbf s t x:=by
  constructor
  ·rintro(h | h | h | h)
   ·exact absurd h.1 (by omega)
   ·exact absurd h.1 (by omega)
   ·exact h.2
   ·exact absurd h.1 (by omega)
  ·exact fun h=>.inr (.inr (.inl ⟨hk,h⟩))
 unfold Gc7
 have hat:((Gt.has m.on x.Slot)&&(decide ((Gt.get m.on x.Slot (Box.mk 0 ByteArray.empty 0 false 0 0 0 0 false)).ID=x.Box)))=true ↔ (⟨x.Box,x.Slot⟩:Stowed)∈t.l:=by
  rw [Bool.and_eq_true,Y76,decide_eq_true_eq]
  constructor
  ·rintro⟨⟨b,hb⟩,h⟩
   rw [J0c m.on hb] at h
   rw [← h]
   exact((hR.on _ b).1 hb).1
  ·intro h
   obtain⟨b,hb,_⟩:=hG.right.each _ h
   have hb':Qj boxes x.Box=some b:=hb
   have h1:=(hR.on x.Slot b).2 ⟨by rw [G61 hb']; exact h,by rw [G61 hb']; exact hb'⟩
   exact⟨⟨b,h1⟩,by rw [J0c m.on h1]; exact G61 hb'⟩
 refine H2 rfl (H2 rfl (H2 rfl (H5 (wp_mono (Q':=fun r=>(r=0∧Qbf s t x)∨(r≠0∧¬ Qbf s t x)) ?_ (fun r7 h7=>?_)))))
 ·refine Z3 (P:=x.G8=0) (Gj (by rw [decide_eq_true_eq])) (fun h1=>?_) (fun h1=>.inr ⟨by decide,fun h=>h1 h.1⟩)
  refine Z3 (Gj hat) (fun h2=>?_) (fun h2=>.inr ⟨by decide,fun h=>h2 h.2.1⟩)
  refine Z3 (P:=H6d t.l x.Slot=[]) ?_ (fun h3=>?_) (fun h3=>.inr ⟨by decide,fun h=>h3 h.2.2.1⟩)
  ·unfold G6d
   refine H5 (wp_mono (Q9c hG hR (P:=fun z=>H9c z x.Slot) (fun y hy=>?_)) (fun r hr=>Gj ?_))
   ·unfold G3b
    exact H5 (wp_mono (Qe8 _ _) (fun r hr=>Gj hr))
   ·rw [Bool.not_eq_true',← Bool.not_eq_true,hr]
    constructor
    ·intro h
     refine List.eq_nil_iff_forall_not_mem.2 fun a ha=>?_
     obtain⟨z,hz,_,ho⟩:=Hb4.1 ha
     exact h ⟨z,hz,ho⟩
    ·rintro h ⟨z,hz,ho⟩
     have:=Hb4.2 ⟨z,hz,rfl,ho⟩
     rw [h] at this; cases this
  refine Z3 (P:=¬ Hee s t.o x.Slot) ?_ (fun h4=>Hc7 (.inl ⟨rfl,h1,h2,h3,h4⟩)) (fun h4=>.inr ⟨by decide,fun h=>h4 h.2.2.2⟩)
  obtain⟨i,c,hi,hc⟩:=hG.sta.colIn h2
  have hi:x.Slot.G2=(i:Int):=hi
  have hcl:Hee s t.o x.Slot ↔ (c.Deck=false∧0≤R4 s c∧R4 s c ∉ t.o):=by
   constructor
   ·rintro⟨j,d,e1,e2,e3⟩
    have:=R2d hi e1 hc e2
    subst this
    exact e3
   ·exact fun e=>⟨i,c,hi,hc,e⟩
  have hcp:Hba s t.o x.Slot ↔ (0≤R4 s c∧(c.Deck=true ↔ R4 s c∈t.o)):=by
   constructor
   ·rintro⟨j,d,e1,e2,e3⟩
    have:=R2d hi e1 hc e2
    subst this
    exact e3
   ·exact fun e=>⟨i,c,hi,hc,e⟩
  unfold G6c
  show Wp (Yy m.ship.Columns x.Slot.G2 _) _
  refine Yg hi (show m.ship.Columns[i]? = some c by rw [hR.cols]; exact hc) ?_
  rw [hcl]
  cases hd:c.Deck with
  | true=>exact H5 (Gj (Gj ⟨fun _ h=>(by cases h.1),fun _=>rfl⟩))
  | false=>
   refine H5 (wp_mono (R6c hG hR hi hc) (fun r hr=>Gj ?_))
   show ((false||!r)=true) ↔ _
   rw [Bool.false_or,Bool.not_eq_true',← Bool.not_eq_true,hr,hcp,hd]
   refine not_congr ⟨fun h=>⟨rfl,h.1,fun g=>by cases h.2.2 g⟩,fun h=>⟨h.2.1,⟨fun g=>(by cases g),fun g=>(h.2.2 g).elim⟩⟩⟩
 ·refine Hr (fun h=>Gj (.inr ?_)) (fun h=>?_)
  ·have h0:=of_decide_eq_true h
   rcases h7 with ⟨e,_⟩ | ⟨e,h7⟩
   ·exact(h0 e).elim
   ·exact⟨fun g=>h7 (hcan.1 g),e,rfl⟩
  ·have h0:r7=0:=by have:=of_decide_eq_false h; omega
   have h7:Qbf s t x:=h7.elim (·.2) (fun h=>(h.1 h0).elim)
   refine R1 (by omega) (Gj (.inl ⟨hcan.2 h7,rfl,?_,?_⟩))
   ·obtain⟨h1,h2,h3,h4⟩:=h7
    obtain⟨b,hb,_⟩:=hG.right.each _ h2
    have hb:Qj boxes x.Box=some b:=hb
    have hid:=G61 hb
    have hin:=(hR.on x.Slot b).2 ⟨by rw [hid]; exact h2,by rw [hid]; exact hb⟩
    rw [Yc8 hk,J0c m.on hin]
    refine⟨hR.cols,hR.covs,fun y d=>?_,fun i d=>?_,hR.opn⟩
    ·show (y,d)∈Gt.He (Gt.del m.on x.Slot) ↔ (⟨d.ID,y⟩:Stowed)∈H75 x.Box t.l∧Qj boxes d.ID=some d
     rw [Ra6,Q82,hR.on]
     constructor
     ·rintro⟨g1,g2,g3⟩
      refine⟨⟨g2,fun e=>g1 ?_⟩,g3⟩
      exact congrArg Stowed.Slot (Jaa hG.right.sorted g2 h2 e)
     ·rintro⟨⟨g1,g2⟩,g3⟩
      refine⟨fun e=>g2 ?_,g1,g3⟩
      exact congrArg Stowed.Box (Y7b hG hR g1 h2 e)
    ·show (i,d)∈Gt.He (Gt.put m.quay b.ID b) ↔ i∈He6 x.Box t.a∧Qj boxes i=some d
     rw [Q42,G8a,hR.quay,hid]
     constructor
     ·rintro(⟨rfl,rfl⟩ | ⟨g1,g2,g3⟩)
      ·exact⟨.inl rfl,hb⟩
      ·exact⟨.inr g2,g3⟩
     ·rintro⟨g | g,g3⟩
      ·subst g
       exact .inl ⟨rfl,by rw [hb] at g3; cases g3; rfl⟩
      ·exact .inr ⟨fun e=>hG.disj i g (List.mem_map.2 ⟨_,h2,e.symm⟩),g,g3⟩
   ·show m.lifts+1=m.lifts+G7d x
    unfold G7d
    rw [if_pos (.inl hk)]
end
end Go.Proofs.YtidpfkmbfgihlaaGreat
set_option maxRecDepth 100000
set_option linter.unusedVariables false
namespace Go.Proofs.YtidpfkmbfgihlaaGreat
open Go.RowKit
section
variable {s:Gk} {boxes:List Box} {m:Gb} {t:St} {x:Move}
theorem Y7d (hR:H2d s boxes m t) (y:Slot) (size:Int):Wp (G39 m.ship y size) (fun r=>r=true ↔ G62 s y size):=by
 refine wp_mono (J6e m.ship y size) (fun r hr=>hr.trans ⟨fun h=>⟨?_,h.tier,h.half⟩,fun h=>⟨?_,h.tier,h.half⟩⟩)
 ·obtain⟨i,c,h1,h2,h3⟩:=h.col
  exact⟨i,c,h1,by rw [← hR.cols]; exact h2,h3⟩
 ·obtain⟨i,c,h1,h2,h3⟩:=h.col
  exact⟨i,c,h1,by rw [hR.cols]; exact h2,h3⟩
theorem Yd0 (hG:Good s boxes t) (hR:H2d s boxes m t) (hk:x.Kind=3) (hl:0≤m.lifts∧m.lifts≤1000000):Wp (Gf6 m x) (R95 s boxes m t x):=by
 have hcan:Can s boxes t x ↔ R96 s boxes t x:=by
  constructor
  ·rintro(h | h | h | h)
   ·exact absurd h.1 (by omega)
   ·exact absurd h.1 (by omega)
   ·exact absurd h.1 (by omega)
   ·exact h.2
  ·exact fun h=>.inr (.inr (.inr ⟨hk,h⟩))
 have hsm:=G76 hG.ship
 unfold Gf6
 have hat:Gt.has m.quay x.Box=true ↔ x.Box∈t.a:=by
  rw [Y76]
  constructor
  ·rintro⟨b,hb⟩
   exact((hR.quay _ b).1 hb).1
  ·intro h
   obtain⟨b,hb,_⟩:=hG.box _ h
   exact⟨b,(hR.quay _ b).2 ⟨h,hb⟩⟩
 refine H2 rfl (H2 rfl (H2 rfl (H5 (wp_mono (Q':=fun r=>(r=0∧R96 s boxes t x)∨(r≠0∧¬ R96 s boxes t x)) ?_ (fun r7 h7=>?_)))))
 ·refine Z3 (P:=x.G8=0) (Gj (by rw [decide_eq_true_eq])) (fun h1=>?_) (fun h1=>.inr ⟨by decide,fun h=>h1 h.1⟩)
  refine Z3 (Gj hat) (fun h2=>?_) (fun h2=>.inr ⟨by decide,fun h=>h2 h.2.1⟩)
  obtain⟨b,hb,hz⟩:=hG.box _ h2
  rw [J0c m.quay ((hR.quay _ b).2 ⟨h2,hb⟩)]
  have hno:x.Box ∉ t.l.map (·.Box):=hG.disj _ h2
  refine Z3 (P:=G62 s x.Slot b.Size) ?_ (fun h3=>?_) (fun h3=>.inr ⟨by decide,fun⟨_,_,d,g1,g2,_⟩=>h3 (by rw [hb] at g1; cases g1; exact g2)⟩)
  ·unfold G9b
   exact H5 (wp_mono (Y7d hR x.Slot b.Size) (fun r hr=>Gj hr))
  obtain⟨i,c,hi,hc,htier⟩:=h3.col
  have htr : -1000000≤x.Slot.Tier∧x.Slot.Tier≤1000000:=by
   have:=hsm.tiers c (List.mem_of_getElem? hc)
   have:=h3.tier
   omega
  refine Z3 (P:=¬ Hba s t.o x.Slot) ?_ (fun h4=>?_) (fun h4=>.inr ⟨by decide,fun⟨_,_,d,g1,g2,g3,_⟩=>h4 g3⟩)
  ·unfold G9a
   refine H5 (wp_mono (R6c hG hR (x:=x.Slot) hi hc) (fun r hr=>Gj ?_))
   rw [Bool.not_eq_true',← Bool.not_eq_true,hr]
  refine Z3 (P:=¬ Qd3 t.l x.Slot) ?_ (fun h5=>?_) (fun h5=>.inr ⟨by decide,fun⟨_,_,d,g1,g2,g3,g4,_⟩=>h5 g4⟩)
  ·unfold G99
   refine H5 (wp_mono (Q9c hG hR (P:=fun z=>Hbe z x.Slot) (fun y hy=>?_)) (fun r hr=>Gj ?_))
   ·unfold G53
    exact H5 (wp_mono (Jcd _ _) (fun r hr=>Gj hr))
   ·rw [Bool.not_eq_true',← Bool.not_eq_true,hr]
    exact not_congr ⟨fun⟨y,hy,h⟩=>⟨y,hy,Hb5 h⟩,fun⟨y,hy,h⟩=>⟨y,hy,Hb5 h⟩⟩
  refine Z3 (P:=H3b x.Slot (t.l.map (·.Slot))) ?_ (fun h6=>?_) (fun h6=>.inr ⟨by decide,fun⟨_,_,d,g1,g2,g3,g4,g5,_⟩=>h6 g5⟩)
  ·have hp:=Q36 hG hR
   have hkeys:(Gt.keys m.on).filterMap id=(onB m).map (·.Slot):=by
    rw [Hb6]; unfold onB; rw [List.map_map]; rfl
   have hlen:(onB m).length≤8:=by rw [hp.length_eq]; have:=hG.num; have:=hG.few; omega
   unfold G98
   refine H5 (Gj (H2 (x:=(onB m).map (·.Slot)) ?_ (H5 (wp_mono (Q':=fun r=>r=true ↔ H3b x.Slot (t.l.map (·.Slot))) ?_ (fun r hr=>Gj hr)))))
   ·unfold Zy
    rw [hkeys,decide_eq_true (show ((onB m).map (·.Slot)).length*24≤140737488355328∧((onB m).map (·.Slot)).length≤maxLen from ⟨by rw [List.length_map]; omega,by rw [List.length_map]; simp only [maxLen]; omega⟩),Q7f]
   ·unfold H40
    rw [Qf7 (hp.map (·.Slot))]
    exact Jce x.Slot _ htr
  refine Z3 (P:=Qdc s boxes (He5 ⟨x.Box,x.Slot⟩ t.l) x.Slot) ?_ (fun h7=>Hc7 (.inl ⟨rfl,h1,h2,b,hb,h3,h4,h5,h6,h7⟩)) (fun h7=>.inr ⟨by decide,fun⟨_,_,d,g1,g2,g3,g4,g5,g6⟩=>h7 g6⟩)
  have hins:=H96 hG.right.sorted (y:=⟨x.Box,x.Slot⟩) hno
  have hfc:Qdc s boxes (He5 ⟨x.Box,x.Slot⟩ t.l) x.Slot ↔ J03 boxes (He5 ⟨x.Box,x.Slot⟩ t.l) i c:=by
   refine⟨fun hf=>hf i c hi hc,fun hf j d e1 e2=>?_⟩
   have:j=i:=by omega
   subst this
   rw [hc] at e2; cases e2
   exact hf
  have hh:∀ half:Int,Ze boxes (He5 ⟨x.Box,x.Slot⟩ t.l) (i:Int) half=(if x.Slot.Half=half∨x.Slot.Half=0 then H67 b else 0)+Ze boxes t.l (i:Int) half:=fun half=>by
   rw [Q17 (Gf0 hins),G33,Y2c (x:=⟨x.Box,x.Slot⟩) hb]
   congr 1
   by_cases hc2:x.Slot.Half=half∨x.Slot.Half=0
   ·rw [if_pos hc2,if_pos ⟨hi,hc2⟩]
   ·rw [if_neg hc2,if_neg (fun g=>hc2 g.2)]
  unfold G97
  show Wp (Yy m.ship.Columns x.Slot.G2 _) _
  refine Yg hi (show m.ship.Columns[i]? = some c by rw [hR.cols]; exact hc) ?_
  rw [hfc]
  unfold J03
  by_cases hH:c.Height≤0
  ·rw [decide_eq_true hH]
   exact H5 (Gj (H5 (Gj (Gj ⟨fun _=>.inl hH,fun _=>rfl⟩))))
  ·rw [decide_eq_false hH]
   refine H2 (Y22 hG hR x.Slot b 1) (H2 (Y22 hG hR x.Slot b 2) (Gj ?_))
   rw [hi,← hh,← hh,Bool.false_or,decide_eq_true_eq,Int.max_le]
   exact⟨fun h=>.inr h,fun h=>h.resolve_left hH⟩
 ·refine Hr (fun h=>Gj (.inr ?_)) (fun h=>?_)
  ·have h0:=of_decide_eq_true h
   rcases h7 with ⟨e,_⟩ | ⟨e,h7⟩
   ·exact(h0 e).elim
   ·exact⟨fun g=>h7 (hcan.1 g),e,rfl⟩
  ·have h0:r7=0:=by have:=of_decide_eq_false h; omega
   have h7:R96 s boxes t x:=h7.elim (·.2) (fun h=>(h.1 h0).elim)
   refine R1 (by omega) (Gj (.inl ⟨hcan.2 h7,rfl,?_,?_⟩))
   ·obtain⟨h1,h2,b,hb,h3,h4,h5,h6,h8⟩:=h7
    have hno:x.Box ∉ t.l.map (·.Box):=hG.disj _ h2
    have hins:=H96 hG.right.sorted (y:=⟨x.Box,x.Slot⟩) hno
    have hid:=G61 hb
    have hin:=(hR.quay x.Box b).2 ⟨h2,hb⟩
    have hhalf:∀ y∈t.l,y.Slot≠x.Slot:=fun y hy e=>h5 ⟨y,hy,by rw [e]; exact⟨rfl,rfl,.inl rfl⟩⟩
    rw [Yc7 hk,J0c m.quay hin]
    refine⟨hR.cols,hR.covs,fun y d=>?_,fun i d=>?_,hR.opn⟩
    ·show (y,d)∈Gt.He (Gt.put m.on x.Slot b) ↔ (⟨d.ID,y⟩:Stowed)∈He5 ⟨x.Box,x.Slot⟩ t.l∧Qj boxes d.ID=some d
     rw [Q42,(Gf0 hins).mem_iff,List.mem_cons,hR.on]
     constructor
     ·rintro(⟨rfl,rfl⟩ | ⟨g1,g2,g3⟩)
      ·exact⟨.inl (by rw [hid]),by rw [hid]; exact hb⟩
      ·exact⟨.inr g2,g3⟩
     ·rintro⟨g | g,g3⟩
      ·have e1:d.ID=x.Box:=congrArg Stowed.Box g
       have e2:y=x.Slot:=congrArg Stowed.Slot g
       refine .inl ⟨e2,?_⟩
       rw [e1,hb] at g3
       cases g3; rfl
      ·exact .inr ⟨hhalf _ g,g,g3⟩
    ·show (i,d)∈Gt.He (Gt.del m.quay x.Box) ↔ i∈J25 x.Box t.a∧Qj boxes i=some d
     rw [Ra6,G8b,hR.quay]
     exact⟨fun h=>⟨⟨h.2.1,h.1⟩,h.2.2⟩,fun h=>⟨h.1.2,h.1.1,h.2⟩⟩
   ·show m.lifts+1=m.lifts+G7d x
    unfold G7d
    rw [if_pos (.inr hk)]
theorem Y27 (hG:Good s boxes t) (hR:H2d s boxes m t) (hl:0≤m.lifts∧m.lifts≤1000000) (x:Move):Wp (G19 m x) (R95 s boxes m t x):=by
 unfold G19
 refine G7c (fun j=>j=true ↔ (x.Kind=1∨x.Kind=4)) (fun K hK=>Hr (fun h=>hK _ ?_) (fun h=>hK _ ?_)) (fun j hj=>?_)
 ·rw [h]; exact⟨fun _=>.inl (of_decide_eq_true h),fun _=>rfl⟩
 ·rw [decide_eq_true_eq]
  exact⟨.inr,fun g=>g.resolve_left (of_decide_eq_false h)⟩
 refine Hr (fun h=>?_) (fun h=>Hr (fun h2=>?_) (fun h2=>Hr (fun h3=>?_) (fun h3=>Gj (.inr ⟨?_,by show (310:Int)≠0; decide,rfl⟩))))
 ·rcases hj.1 h with hk | hk
  ·exact H5 (wp_mono (Rfa hG hR hk) (fun r hr=>Gj hr))
  ·exact H5 (wp_mono (Rf9 hG hR hk) (fun r hr=>Gj hr))
 ·exact H5 (wp_mono (Y83 hG hR (of_decide_eq_true h2) hl) (fun r hr=>Gj hr))
 ·exact H5 (wp_mono (Yd0 hG hR (of_decide_eq_true h3) hl) (fun r hr=>Gj hr))
 ·have hn:¬ (x.Kind=1∨x.Kind=4):=fun g=>by rw [hj.2 g] at h; cases h
  have h2:=of_decide_eq_false h2
  have h3:=of_decide_eq_false h3
  rintro(g | g | g | g)
  ·exact hn (.inl g.1)
  ·exact hn (.inr g.1)
  ·exact h2 g.1
  ·exact h3 g.1
end
end Go.Proofs.YtidpfkmbfgihlaaGreat
set_option maxRecDepth 100000
set_option linter.unusedVariables false
namespace Go.Proofs.YtidpfkmbfgihlaaGreat
open Go.RowKit

theorem Y53 {s:Gk} (h:Y36 s):Qb5 s:=
 ⟨h.some,h.cols.len,fun c hc=>⟨c,0,h.cols.each c hc,.inl rfl,by rw [← (h.cols.each c hc).height]⟩,h.cols.nodup,h.covs⟩
theorem R91 {s:Gk} {l0:List Gu} (hs:Small s) (hl0:∀ d∈l0,Qbd d) {most:Nat} (hmost:most≤10) :
  Wp (R7 s l0 (most:Int)) (fun r=>r.1=G90 (l0.take (min l0.length most))∧Yv s r.1 r.2∧r.2.length≤most):=by
 unfold R7
 have hcols:=hs.cols
 refine H5 (Had (m:=min l0.length most) (by omega) (by omega) ?_)
 have hlen:(l0.take (min l0.length most)).length≤most:=by rw [List.length_take]; omega
 have hl:∀ d∈l0.take (min l0.length most),Qbd d:=fun d hd=>hl0 d (List.mem_of_mem_take hd)
 generalize l0.take (min l0.length most)=l at hlen hl
 refine wp_mono (Q':=fun r=>r.1=G90 l∧Yv s (G90 l) r.2∧r.2.length≤l.length) ?_ (fun r hr=>⟨hr.1,by rw [hr.1]; exact hr.2.1,by omega⟩)
 refine Y3 (fun pre st=>st.1=G90 pre∧Yv s (G90 pre) st.2∧st.2.length≤pre.length) ⟨rfl,J72,Nat.le_refl _⟩ (fun pre y post st nx e hI hnx=>?_) (fun st hI=>Gj hI)
 obtain⟨h1,h2,h3⟩:=hI
 obtain⟨⟨c1,c2⟩,⟨k1,k2⟩⟩:=hl y (by rw [e]; simp)
 have hp:pre.length < most:=by rw [e] at hlen; simp only [List.length_append,List.length_cons] at hlen; omega
 have hbl:=Q98 pre
 have hb1:st.1.length≤most:=by rw [h1]; omega
 refine G7c (fun j=>j.1=G90 (pre++[y])∧Yv s (G90 (pre++[y])) j.2∧j.2.length≤(pre++[y]).length) (fun K hK=>?_) (fun j hj=>hnx _ hj)
 refine R1 ⟨by omega,by omega⟩ (R1 ⟨by omega,by omega⟩ (R1 ⟨by omega,by omega⟩ (R1 ⟨by omega,by omega⟩ ?_)))
 refine G7c (fun j17=>j17=Ha4 (strip y)) (fun K' hK'=>Hr (fun h=>hK' _ ?_) (fun h=>hK' _ ?_)) (fun j17 h17=>?_)
 ·unfold Ha4 strip; simp only [h,cond_true]
 ·unfold Ha4 strip; simp only [h,cond_false]
 subst h17
 have hbox:st.1++[Box.mk (5*((pre.length+1:Nat):Int)) ByteArray.empty (Ha4 (strip y)).1 (Ha4 (strip y)).2 (1000+100*y.Kilos) 0 1 0 false]=G90 (pre++[y]):=by
  rw [Q1e,h1]; rfl
 rw [hbox]
 refine G06 (Ga7 (by rw [List.length_singleton]; omega) (by omega)) ?_
 refine H5 (wp_mono (Y7c hs _) (fun r22 h22=>?_))
 have hmore:Yv s (G90 (pre++[y])) st.2:=by rw [Q1e]; exact R71 h2
 refine Y3 (fun _ s49=>s49=st.2) rfl (fun pre2 x post2 s49 nx2 e2 hJ hnx2=>?_) (fun s49 hJ=>hK _ ⟨rfl,by rw [hJ]; exact hmore,by rw [hJ,List.length_append,List.length_singleton]; show st.2.length≤_; omega⟩)
 subst hJ
 simp only [List.nil_append]
 refine G06 (Ga7 (by simp only [List.length_nil]; omega) (by omega)) (G06 (Ga7 (by rw [List.length_singleton]; omega) (by omega)) (R1 ⟨by omega,by omega⟩ (H5 (H03 (by omega) ?_))))
 by_cases hc:x.G2=y.G2.tmod (s.Columns.length:Int)
 ·rw [decide_eq_true hc]
  simp only [cond_true,Bool.true_and]
  refine H5 (wp_mono (H68 hs.right hs.tier (by simp only [List.length_append,List.length_singleton]; omega)) (fun v hv=>Hr (fun h=>hK _ ⟨rfl,hv.1 h,?_⟩) (fun h=>hnx2 _ rfl)))
  simp only [List.length_append,List.length_singleton]; omega
 ·rw [decide_eq_false hc]
  simp only [cond_false,Bool.false_and]
  exact H5 (Gj (hnx2 _ rfl))

structure Jbf (boxes:List Box):Prop where
 asc:boxes.Pairwise (fun a b=>a.ID < b.ID)
 size:∀ b∈boxes,b.Size=20∨b.Size=40
 ids:∀ b∈boxes,5≤b.ID∧b.ID≤40
 few:boxes.length≤8
theorem Y64 {l:List Gu} (hl:l.length≤8):Jbf (G90 l):=by
 refine⟨List.pairwise_iff_getElem.2 fun i j hi hj hij=>?_,fun b hb=>?_,fun b hb=>?_,by rw [Q98]; exact hl⟩
 ·simp only [G90,List.getElem_map,List.getElem_zipIdx,Y98]
  omega
 all_goals
  unfold G90 at hb
  obtain⟨⟨t,i⟩,hp,rfl⟩:=List.mem_map.1 hb
  have hi:=(List.getElem?_eq_some_iff.1 (List.mk_mem_zipIdx_iff_getElem?.1 hp)).1
  rw [List.length_map] at hi
 ·show (Ha4 t).1=20∨(Ha4 t).1=40
  unfold Ha4
  cases t.2.1 with
  | true=>exact .inl rfl
  | false=>exact .inr rfl
 ·show 5≤5*((i+1:Nat):Int)∧5*((i+1:Nat):Int)≤40
  omega
theorem R83:∀ {boxes:List Box},boxes.Pairwise (fun a b=>a.ID < b.ID)→∀ {b:Box},b∈boxes→Qj boxes b.ID=some b
 | c::r,h,b,hb=>by
  obtain⟨h1,h2⟩:=List.pairwise_cons.1 h
  unfold Qj
  rw [List.find?_cons]
  rcases List.mem_cons.1 hb with rfl | hb
  ·rw [decide_eq_true rfl]
  ·have:=h1 b hb
   rw [decide_eq_false (by omega)]
   exact R83 h2 hb
theorem Yd3 {boxes:List Box} {i:Int} {b:Box} (h:Qj boxes i=some b):b∈boxes:=List.mem_of_find?_eq_some h
theorem Q1c {l:List Stowed} {f:Stowed→Option Bool} {p:Stowed→Bool} (h:∀ x∈l,f x=some (p x)):Hy l f=some (l.any p):=by
 have e:R0 l f=some (J77 p l):=Hb8 h
 unfold Hy
 exact G83 (H2 e (Gj (by show decide (0≤J77 p l)=_; rw [H97])))
theorem J47 {α:Type} [DecidableEq α] {k:Nat} {s:List α} (h:s.length*k≤140737488355328∧s.length≤maxLen):(R76 s fun b4=>bif b4 then (some []) else (need (decide ((([]:List α).length+s.length)*k≤140737488355328∧([]:List α).length+s.length≤maxLen)) <| some (([]:List α)++s)))=some s:=by
 refine J3b (fun b hb=>?_)
 cases b with
 | true=>rw [hb rfl]; rfl
 | false=>
  rw [cond_false,decide_eq_true (show (([]:List α).length+s.length)*k≤140737488355328∧([]:List α).length+s.length≤maxLen by rw [List.length_nil,Nat.zero_add]; exact h)]
  rfl
theorem Y13 {n k:Nat} (hn:n≤1000000) (hk:k≤1000):n*k≤140737488355328∧n≤maxLen:=
 ⟨Nat.le_trans (Nat.mul_le_mul hn hk) (by decide),by simp only [maxLen]; omega⟩
theorem Y95 {s:List Stowed} (h:s.length≤1000000):Qb s=some s:=J47 (Y13 (k:=32) h (by decide))
theorem Y61 {s:List G2} (h:s.length≤1000000):Qo s=some s:=J47 (Y13 (k:=112) h (by decide))
theorem Y60 {s:List G8} (h:s.length≤1000000):R8 s=some s:=J47 (Y13 (k:=32) h (by decide))
theorem Y5f {s:List Int} (h:s.length≤1000000):Q4 s=some s:=J47 (Y13 (k:=8) h (by decide))
def Q73 (b:Box):Bool:=decide (b.Size=20)||decide (b.Size=40)
theorem R6d (boxes:List Box) (i:Int):G64 boxes i=some (match Qj boxes i with
  | some b=>(b,Q73 b)
  | none=>(Box.mk 0 ByteArray.empty 0 false 0 0 0 0 false,false)):=by
 unfold G64
 rw [Hb1]
 cases Qj boxes i <;> rfl
theorem Rdd {β:Type} {Q:β→Prop} {boxes:List Box} {state:List Stowed} {ashore pre post:List Int} {y:Int} (e:ashore=pre++y::post) (ha:pre.length≤1000000) {A:Option β} {B:Box→Option β}
  (hA:(∀ b,Qj boxes y=some b→¬ (b.Size=20∨b.Size=40))∨(∃ p∈pre,y≤p)∨y∈state.map (·.Box)→Wp A Q)
  (hB:∀ b,Qj boxes y=some b→(b.Size=20∨b.Size=40)→Wp (B b) Q) :
  Wp (bnd (G64 boxes y) fun r162=>
     bnd (bif ((!(!r162.2))&&(decide (0 < (pre.length:Int)))) then chk ((pre.length:Int) - 1) some else some 0) fun v165=>
     bnd (bif ((!(!r162.2))&&(decide (0 < (pre.length:Int)))) then Yy ashore v165 some else some default) fun y166=>
     bnd (bif (!((!r162.2)||((decide (0 < (pre.length:Int)))&&(decide (y≤y166))))) then Hy state (fun z0=>G20 z0 y) else some default) fun r167=>
     bif (((!r162.2)||((decide (0 < (pre.length:Int)))&&(decide (y≤y166))))||r167) then A else B r162.1) Q:=by
 refine H2 (R6d boxes y) ?_
 cases hf:Qj boxes y with
 | none=>
  have hA:=hA (.inl fun b hb=>by rw [hf] at hb; cases hb)
  exact H5 (Gj (H5 (Gj (H5 (Gj hA)))))
 | some b=>
  simp only
  by_cases hz:b.Size=20∨b.Size=40
  ·have hz':Q73 b=true:=by unfold Q73; simpa using hz
   rw [hz']
   simp only [Bool.not_true,Bool.not_false,Bool.true_and,Bool.false_or]
   have hc:=Q1c (l:=state) (f:=fun z0=>G20 z0 y) (p:=fun x=>decide (x.Box=y)) (fun x _=>rfl)
   have hin:(state.any fun x=>decide (x.Box=y))=true→y∈state.map (·.Box):=fun h=>by
    obtain⟨x,hx,e⟩:=List.any_eq_true.1 h
    exact List.mem_map.2 ⟨x,hx,of_decide_eq_true e⟩
   by_cases hp:0 < (pre.length:Int)
   ·obtain⟨p,h1,h2,h3⟩:=Q35 (l:=ashore) (y:=y) e (by omega)
    rw [decide_eq_true hp]
    simp only [cond_true,Bool.true_and]
    refine H5 (R1 (by omega) (Gj (H5 (Yg (show (pre.length:Int) - 1=((pre.length - 1:Nat):Int) by omega) h1 (Gj ?_)))))
    by_cases hle:y≤p
    ·rw [decide_eq_true hle]
     exact H5 (Gj (hA (.inr (.inl ⟨p,h3,hle⟩))))
    ·rw [decide_eq_false hle]
     refine H2 hc (Hr (fun h=>hA (.inr (.inr (hin (by simpa using h))))) (fun _=>hB b hf hz))
   ·rw [decide_eq_false hp]
    refine H5 (Gj (H5 (Gj (H2 hc (Hr (fun h=>hA (.inr (.inr (hin (by simpa using h))))) (fun _=>hB b hf hz))))))
  ·have hz':Q73 b=false:=by unfold Q73; simpa using hz
   rw [hz']
   have hA:=hA (.inl fun d hd=>by rw [hf] at hd; cases hd; exact hz)
   exact H5 (Gj (H5 (Gj (H5 (Gj hA)))))
theorem R1b {β:Type} {Q:β→Prop} {s:Gk} (hr:∀ x∈s.Covers,x.Rows.length≤1000000) {K:List G8→Option β} (hK:Wp (K s.Covers) Q) :
  Wp (each (fun y41 i41 (s41:(List G8)) nx41=>
   Yy s.Covers (i41:Int) fun y46=>
   bnd (Q4 y46.Rows) fun r48=>
   Yy s41 (i41:Int) fun y49=>
   nx41 (s41.set (i41:Int).toNat (G8.mk y49.Bay r48))) K s.Covers 0 s.Covers) Q:=by
 refine Y3 (fun _ t=>t=s.Covers) rfl (fun pre y post t nx e hI hnx=>?_) (fun t ht=>by rw [ht]; exact hK)
 subst hI
 have hy:s.Covers[pre.length]? = some y:=by rw [e]; simp
 refine Yg rfl hy (H2 (Y5f (hr y (List.mem_of_getElem? hy))) (Yg rfl hy (hnx _ ?_)))
 apply List.ext_getElem?
 intro q
 rw [show ((pre.length:Int)).toNat=pre.length by omega,List.getElem?_set]
 split
 ·rename_i h
  subst h
  have:=(List.getElem?_eq_some_iff.1 hy).1
  rw [if_pos this,hy]
 ·rfl
theorem Rdc {s:Gk} {boxes:List Box} {l:List Stowed} {a:List Int} (hL:Qb5 s) (hr:Yv s boxes l) (hl:l.length≤10) (hal:a.length≤1000)
  (hbox:∀ i∈a,∃ b,Qj boxes i=some b∧(b.Size=20∨b.Size=40)) (hasc:a.Pairwise (· < ·)) (hdis:∀ i∈a,i ∉ l.map (·.Box)) :
  Wp (Ge4 s boxes l a) (fun r=>r.2=0∧H2d s boxes r.1 ⟨l,[],a⟩∧r.1.lifts=0):=by
 have hs:=G76 hL
 have hcl:=hL.covs.len
 have hcn:=hL.len
 unfold Ge4
 refine H5 (wp_mono (H68 hs.right hs.tier (by omega)) (fun r4 h4=>Hr (fun h=>?_) (fun _=>?_)))
 ·rw [h4.2 hr] at h; cases h
 refine H2 (Y61 (by omega)) (H2 (Y60 (by omega)) (R1b (fun x hx=>by have:=hs.rows x hx; omega) ?_))
 refine Y3 (fun pre (st:Gt Slot Box)=>∀ y b,(y,b)∈Gt.He st ↔ (⟨b.ID,y⟩:Stowed)∈pre∧Qj boxes b.ID=some b) (fun y b=>⟨fun h=>(Q43 h).elim,fun h=>by cases h.1⟩) (fun pre x post st nx e hI hnx=>?_) (fun st hI=>?_)
 ·have hx:x∈l:=by rw [e]; simp
  obtain⟨d,hd,_⟩:=hr.each x hx
  refine H2 (R6d boxes x.Box) ?_
  rw [hd]
  refine hnx _ (fun y b=>?_)
  have hid:=G61 hd
  show (y,b)∈Gt.He (Gt.put st x.Slot d) ↔ _
  rw [Q42,hI,List.mem_append,List.mem_singleton]
  constructor
  ·rintro(⟨rfl,rfl⟩ | ⟨g1,g2,g3⟩)
   ·exact⟨.inr (by rw [hid]),by rw [hid]; exact hd⟩
   ·exact⟨.inl g2,g3⟩
  ·rintro⟨g | g,g3⟩
   ·refine .inr ⟨fun h=>?_,g,g3⟩
    have ha:=hr.apart
    rw [e] at ha
    exact Ga8 ha _ g (by rw [show (⟨b.ID,y⟩:Stowed).Slot=x.Slot from h]; exact⟨rfl,rfl,.inl rfl⟩)
   ·have e1:b.ID=x.Box:=congrArg Stowed.Box g
    refine .inl ⟨congrArg Stowed.Slot g,?_⟩
    rw [e1,hd] at g3
    cases g3; rfl
 ·refine Y3 (fun pre (qt:Gt Int Box)=>∀ i b,(i,b)∈Gt.He qt ↔ i∈pre∧Qj boxes i=some b) (fun i b=>⟨fun h=>(Q43 h).elim,fun h=>by cases h.1⟩) (fun pre y post qt nx e hJ hnx=>?_) (fun qt hJ=>?_)
  ·have hy:y∈a:=by rw [e]; simp
   refine Rdd e (by have:=congrArg List.length e; simp only [List.length_append] at this; omega) (fun h=>?_) (fun b hb _=>hnx _ (fun i d=>?_))
   ·rcases h with h | ⟨p,hp,h⟩ | h
    ·obtain⟨b,hb,hz⟩:=hbox y hy
     exact(h b hb hz).elim
    ·rw [e] at hasc
     have:=Ga8 hasc p hp
     omega
    ·exact(hdis y hy h).elim
   ·show (i,d)∈Gt.He (Gt.put qt y b) ↔ _
    rw [Q42,hJ,List.mem_append,List.mem_singleton]
    constructor
    ·rintro(⟨rfl,rfl⟩ | ⟨g1,g2,g3⟩)
     ·exact⟨.inr rfl,hb⟩
     ·exact⟨.inl g2,g3⟩
    ·rintro⟨g | g,g3⟩
     ·by_cases h:i=y
      ·subst h
       refine .inl ⟨rfl,?_⟩
       rw [hb] at g3
       cases g3; rfl
      ·exact .inr ⟨h,g,g3⟩
     ·subst g
      refine .inl ⟨rfl,?_⟩
      rw [hb] at g3
      cases g3; rfl
  ·exact Gj ⟨rfl,⟨rfl,rfl,hI,hJ,fun k v=>⟨fun h=>(Q43 h).elim,fun h=>by cases h.1⟩⟩,rfl⟩
end Go.Proofs.YtidpfkmbfgihlaaGreat
