/-
 What doing a move does: What putting a box does,and doing any move. How a simulator begins,and what the chapter's statements mak One move of a simulator at a time: The moves of a call lead from the state bf to the state af. The moves of a voyage. Playing moves with a simulator; The moves of a voyage; How often the moves of a call lift a box,or open a cover.
-/
import Derived.Test.YtgcpimpnpcdmmaaGreatSimBc
import Derived.Test.YtgcpimpnpcdmmaaGreatSpecT
set_option maxRecDepth 100000
set_option linter.unusedVariables false
namespace Go.Proofs.YtgcpimpnpcdmmaaGreat
open Go.RowKit
theorem Yy {v:Option Bool} {P:Prop} {e:Int} {rest:List (Option Bool×Int)} {Q:Int→Prop} (hv:Wp v (fun r=>r=true ↔ P)) (h1:P→Wp (H43 rest) Q) (h2:¬ P→Q e):Wp (H43 ((v,e)::rest)) Q:=by
 obtain⟨r,rfl,hr⟩:=hv
 cases r with
 | true=>exact h1 (hr.1 rfl)
 | false=>exact⟨e,rfl,h2 (fun hp=>by have:=hr.2 hp; cases this)⟩
theorem Hf4 {Q:Int→Prop} (h:Q 0):Wp (H43 []) Q:=⟨0,rfl,h⟩
def Rf1 (s:Gi) (boxes:List Box) (m:Gc) (t:St) (x:Move) (r:Int×Gc):Prop:=
 (Can s boxes t x∧r.1=0∧H57 s boxes r.2 (nxt t x)∧r.2.lifts=m.lifts+G64 x)∨(¬ Can s boxes t x∧r.1≠0∧r.2=m)
section
variable {s:Gi} {boxes:List Box} {m:Gc} {t:St} {x:Move}
open Classical in
theorem Qe3 (hG:Good s boxes t) (hR:H57 s boxes m t) {is:Slot→Option Bool} {P:Slot→Prop} (h:∀ y∈t.l,Wp (is y.Slot) (fun r=>r=true ↔ P y.Slot)):Wp (Zy m is) (fun r=>r=true ↔ ∃ y∈t.l,P y.Slot):=by
 refine⟨_,Za2 hG hR (p:=fun y=>decide (P y)) (fun y hy=>Z90 (h y hy)),?_⟩
 show (t.l.any _=true) ↔ _
 rw [List.any_eq_true]
 exact⟨fun⟨y,hy,e⟩=>⟨y,hy,M1 e⟩,fun⟨y,hy,e⟩=>⟨y,hy,M3 e⟩⟩
theorem R74 {s:Gi} {z:Int} {i j:Nat} {c d:G3} (h1:z=(i:Int)) (h2:z=(j:Int)) (hc:s.Columns[i]? = some c) (hd:s.Columns[j]? = some d):d=c:=by
 have:j=i:=by omega
 subst this
 rw [hc] at hd
 cases hd; rfl
theorem R18 (hG:Good s boxes t) (hR:H57 s boxes m t) (b:Bool) (y:Move):Wp (G0c b m y) (fun r=>r=true ↔ (b=true→Q61 s t.l y.G9)):=by
 unfold G0c
 cases b with
 | false=>exact H6 (Gp (Gp ⟨fun _ h=>(by cases h),fun _=>rfl⟩))
 | true=>
  simp only [Bool.not_true,Bool.not_false,cond_true]
  refine H6 (wp_mono (Qe3 hG hR (P:=fun z=>∃ (i:Nat) (c:G3),z.G3=(i:Int)∧s.Columns[i]? = some c∧c.Deck=true∧Jv s c=y.G9) (fun z hz=>?_)) (fun r hr=>Gp ?_))
  ·obtain⟨i,c,hi,hc⟩:=hG.sta.colIn hz
   have h0:(∃ (i:Nat) (c:G3),z.Slot.G3=(i:Int)∧s.Columns[i]? = some c∧c.Deck=true∧Jv s c=y.G9) ↔ (c.Deck=true∧Jv s c=y.G9):=by
    constructor
    ·rintro⟨j,d,h1,h2,h3⟩
     have:=R74 hi h1 hc h2
     subst this
     exact h3
    ·exact fun h=>⟨i,c,hi,hc,h⟩
   unfold G19
   rw [hi] at h0 ⊢
   refine Yq rfl (show m.ship.Columns[i]? = some c by rw [hR.cols]; exact hc) ?_
   rw [h0]
   cases hd:c.Deck with
   | false=>exact H6 (Gp (Gp ⟨fun h=>(by cases h),fun h=>(by cases h.1)⟩))
   | true=>exact Gt (R27 hG hR hc) (Gp ⟨fun h=>⟨rfl,M1 h⟩,fun h=>M3 h.2⟩)
  ·show ((false||!r)=true) ↔ _
   rw [Bool.false_or,Bool.not_eq_true',← Bool.not_eq_true,hr]
   constructor
   ·exact fun h _ z hz i c h1 h2 h3 h4=>h ⟨z,hz,i,c,h1,h2,h3,h4⟩
   ·rintro h ⟨z,hz,i,c,h1,h2,h3,h4⟩
    exact h trivial z hz i c h1 h2 h3 h4
theorem Qcd (hR:H57 s boxes m t):Wp (Yx ((((decide (x.Box=0))&&(decide (x.Slot=(Slot.mk 0 0 0))))&&(decide (0≤x.G9)))&&(decide (x.G9 < (m.ship.Covers.length:Int))))) (fun r=>r=true ↔ (x.Box=0∧x.Slot=⟨0,0,0⟩∧0≤x.G9∧x.G9 < (s.Covers.length:Int))):=by
 refine Gp ?_
 rw [hR.covs]
 simp only [Mj,Mk,and_assoc]
theorem Y5a (hG:Good s boxes t) (hR:H57 s boxes m t) (hk:x.Kind=1):Wp (G12 m x) (Rf1 s boxes m t x):=by
 have h4:Can s boxes t x ↔ Jfb s t x:=by
  constructor
  ·rintro(h | h | h | h)
   ·exact h.2
   all_goals exact absurd h.1 (by omega)
  ·exact fun h=>.inl ⟨hk,h⟩
 unfold G12
 refine Gt rfl (Gt rfl (Gt rfl (H6 (wp_mono (Q':=fun r=>(r=0∧Jfb s t x)∨(r≠0∧¬ Jfb s t x)) ?_ (fun r8 h8=>?_)))))
 ·rw [R5f hR,M3 hk]
  refine Yy (Qcd hR) (fun h1=>?_) (fun h1=>.inr ⟨by decide,fun h=>h1 ⟨h.1,h.2.1,h.2.2.1,h.2.2.2.1⟩⟩)
  refine Yy (P:=x.G9 ∉ t.o) (Gp ?_) (fun h2=>?_) (fun h2=>.inr ⟨by decide,fun h=>h2 h.2.2.2.2.1⟩)
  ·simp
  refine Yy (R18 hG hR true _) (fun h3=>Hf4 (.inl ⟨rfl,h1.1,h1.2.1,h1.2.2.1,h1.2.2.2,h2,h3 rfl⟩)) (fun h3=>.inr ⟨by decide,fun h=>h3 fun _=>h.2.2.2.2.2⟩)
 ·refine Hv (fun h=>Gp (.inr ?_)) (fun h=>?_)
  ·have h0:=M1 h
   rcases h8 with ⟨e,_⟩ | ⟨e,h8⟩
   ·exact(h0 e).elim
   ·exact⟨fun g=>h8 (h4.1 g),e,rfl⟩
  ·have h0:r8=0:=by have:=M2 h; omega
   have h8:Jfb s t x:=h8.elim (·.2) (fun h=>(h.1 h0).elim)
   have hz:Gv.get m.open_ x.G9 0=0:=Y6f _ (fun v hv=>h8.2.2.2.2.1 ((hR.opn _ v).1 hv).1)
   refine Zr (fun j=>j=Gc.mk m.ship m.on m.quay (Gv.put m.open_ x.G9 1) m.lifts) (fun K hK=>Hv (fun _=>?_) (fun h=>absurd hk (M2 h))) (fun j hj=>Gp (.inl ⟨h4.2 h8,rfl,?_,?_⟩))
   ·refine Gt rfl (Qo (by rw [hz]; omega) (hK _ (by rw [hz]; rfl)))
   ·subst hj
    rw [Yfa hk]
    refine⟨hR.cols,hR.covs,hR.on,hR.quay,fun k v=>?_⟩
    show (k,v)∈Gv.Hc (Gv.put m.open_ x.G9 1) ↔ k∈H2f x.G9 t.o∧v=1
    rw [Q7f,G3d,hR.opn]
    constructor
    ·rintro(h | h)
     ·exact⟨.inl h.1,h.2⟩
     ·exact⟨.inr h.2.1,h.2.2⟩
    ·rintro⟨h | h,e⟩
     ·exact .inl ⟨h,e⟩
     ·exact .inr ⟨fun e2=>h8.2.2.2.2.1 (e2 ▸ h),h,e⟩
   ·subst hj
    show m.lifts=m.lifts+G64 x
    unfold G64
    rw [if_neg (by omega)]; omega
theorem Y59 (hG:Good s boxes t) (hR:H57 s boxes m t) (hk:x.Kind=4):Wp (G12 m x) (Rf1 s boxes m t x):=by
 have h4:Can s boxes t x ↔ Jfa s t x:=by
  constructor
  ·rintro(h | h | h | h)
   ·exact absurd h.1 (by omega)
   ·exact h.2
   all_goals exact absurd h.1 (by omega)
  ·exact fun h=>.inr (.inl ⟨hk,h⟩)
 unfold G12
 refine Gt rfl (Gt rfl (Gt rfl (H6 (wp_mono (Q':=fun r=>(r=0∧Jfa s t x)∨(r≠0∧¬ Jfa s t x)) ?_ (fun r8 h8=>?_)))))
 ·rw [R5f hR,M4 (show ¬ x.Kind=1 by omega)]
  refine Yy (Qcd hR) (fun h1=>?_) (fun h1=>.inr ⟨by decide,fun h=>h1 ⟨h.1,h.2.1,h.2.2.1,h.2.2.2.1⟩⟩)
  refine Yy (P:=x.G9∈t.o) (Gp ?_) (fun h2=>?_) (fun h2=>.inr ⟨by decide,fun h=>h2 h.2.2.2.2⟩)
  ·simp
  refine Yy (R18 hG hR false _) (fun h3=>Hf4 (.inl ⟨rfl,h1.1,h1.2.1,h1.2.2.1,h1.2.2.2,h2⟩)) (fun h3=>(h3 (fun h=>by cases h)).elim)
 ·refine Hv (fun h=>Gp (.inr ?_)) (fun h=>?_)
  ·have h0:=M1 h
   rcases h8 with ⟨e,_⟩ | ⟨e,h8⟩
   ·exact(h0 e).elim
   ·exact⟨fun g=>h8 (h4.1 g),e,rfl⟩
  ·have h0:r8=0:=by have:=M2 h; omega
   have h8:Jfa s t x:=h8.elim (·.2) (fun h=>(h.1 h0).elim)
   refine Zr (fun j=>j=Gc.mk m.ship m.on m.quay (Gv.del m.open_ x.G9) m.lifts) (fun K hK=>Hv (fun h=>absurd (M1 h) (by omega)) (fun _=>hK _ rfl)) (fun j hj=>Gp (.inl ⟨h4.2 h8,rfl,?_,?_⟩))
   ·subst hj
    rw [Yf7 hk]
    refine⟨hR.cols,hR.covs,hR.on,hR.quay,fun k v=>?_⟩
    show (k,v)∈Gv.Hc (Gv.del m.open_ x.G9) ↔ k∈H92 x.G9 t.o∧v=1
    rw [Rfe,G3e,hR.opn]
    exact⟨fun h=>⟨⟨h.2.1,h.1⟩,h.2.2⟩,fun h=>⟨h.1.2,h.1.1,h.2⟩⟩
   ·subst hj
    show m.lifts=m.lifts+G64 x
    unfold G64
    rw [if_neg (by omega)]; omega
theorem Ye9 (hG:Good s boxes t) (hR:H57 s boxes m t) {y z:G1} (hy:y∈t.l) (hz:z∈t.l) (e:y.Slot=z.Slot):y=z:=by
 obtain⟨b,hb,_⟩:=hG.right.each y hy
 obtain⟨d,hd,_⟩:=hG.right.each z hz
 have h1:=(hR.on y.Slot b).2 ⟨by rw [G95 hb]; exact hy,by rw [G95 hb]; exact hb⟩
 have h2:=(hR.on z.Slot d).2 ⟨by rw [G95 hd]; exact hz,by rw [G95 hd]; exact hd⟩
 rw [e] at h1
 have h3:b=d:=(J34 m.on (z:=default) h1).symm.trans (J34 m.on (z:=default) h2)
 exact Hbb hG.right.sorted hy hz (by rw [← G95 hb,← G95 hd,h3])
theorem Yf4 (hG:Good s boxes t) (hR:H57 s boxes m t) (hk:x.Kind=2) (hl:0≤m.lifts∧m.lifts≤1000000):Wp (Gda m x) (Rf1 s boxes m t x):=by
 have h6:Can s boxes t x ↔ R01 s t x:=by
  constructor
  ·rintro(h | h | h | h)
   ·exact absurd h.1 (by omega)
   ·exact absurd h.1 (by omega)
   ·exact h.2
   ·exact absurd h.1 (by omega)
  ·exact fun h=>.inr (.inr (.inl ⟨hk,h⟩))
 unfold Gda
 have h8:((Gv.has m.on x.Slot)&&(decide ((Gv.get m.on x.Slot (Box.mk 0 ByteArray.empty 0 false 0 0 0 0 false)).ID=x.Box)))=true ↔ (⟨x.Box,x.Slot⟩:G1)∈t.l:=by
  rw [Mj,Ye1,Mk]
  constructor
  ·rintro⟨⟨b,hb⟩,h⟩
   rw [J34 m.on hb] at h
   rw [← h]
   exact((hR.on _ b).1 hb).1
  ·intro h
   obtain⟨b,hb,_⟩:=hG.right.each _ h
   have h5:Qf boxes x.Box=some b:=hb
   have h1:=(hR.on x.Slot b).2 ⟨by rw [G95 h5]; exact h,by rw [G95 h5]; exact h5⟩
   exact⟨⟨b,h1⟩,by rw [J34 m.on h1]; exact G95 h5⟩
 refine Gt rfl (Gt rfl (Gt rfl (H6 (wp_mono (Q':=fun r=>(r=0∧R01 s t x)∨(r≠0∧¬ R01 s t x)) ?_ (fun r7 h7=>?_)))))
 ·refine Yy (P:=x.G9=0) (Gp (by rw [Mk])) (fun h1=>?_) (fun h1=>.inr ⟨by decide,fun h=>h1 h.1⟩)
  refine Yy (Gp h8) (fun h2=>?_) (fun h2=>.inr ⟨by decide,fun h=>h2 h.2.1⟩)
  refine Yy (P:=H4e t.l x.Slot=[]) ?_ (fun h3=>?_) (fun h3=>.inr ⟨by decide,fun h=>h3 h.2.2.1⟩)
  ·unfold G7d
   refine H6 (wp_mono (Qe3 hG hR (P:=fun z=>H58 z x.Slot) (fun y hy=>?_)) (fun r hr=>Gp ?_))
   ·unfold G44
    exact H6 (wp_mono (Q08 _ _) (fun r hr=>Gp hr))
   ·rw [Bool.not_eq_true',← Bool.not_eq_true,hr]
    constructor
    ·intro h
     refine List.eq_nil_iff_forall_not_mem.2 fun a ha=>?_
     obtain⟨z,hz,_,ho⟩:=Gf6.1 ha
     exact h ⟨z,hz,ho⟩
    ·rintro h ⟨z,hz,ho⟩
     have:=Gf6.2 ⟨z,hz,rfl,ho⟩
     rw [h] at this; cases this
  refine Yy (P:=¬ Jb5 s t.o x.Slot) ?_ (fun h4=>Hf4 (.inl ⟨rfl,h1,h2,h3,h4⟩)) (fun h4=>.inr ⟨by decide,fun h=>h4 h.2.2.2⟩)
  obtain⟨i,c,hi,hc⟩:=hG.sta.colIn h2
  have hi:x.Slot.G3=(i:Int):=hi
  have h9:Jb5 s t.o x.Slot ↔ (c.Deck=false∧0≤Jv s c∧Jv s c ∉ t.o):=by
   constructor
   ·rintro⟨j,d,e1,e2,e3⟩
    have:=R74 hi e1 hc e2
    subst this
    exact e3
   ·exact fun e=>⟨i,c,hi,hc,e⟩
  have a0:J20 s t.o x.Slot ↔ (0≤Jv s c∧(c.Deck=true ↔ Jv s c∈t.o)):=by
   constructor
   ·rintro⟨j,d,e1,e2,e3⟩
    have:=R74 hi e1 hc e2
    subst this
    exact e3
   ·exact fun e=>⟨i,c,hi,hc,e⟩
  unfold G7c
  show Wp (Qw m.ship.Columns x.Slot.G3 _) _
  refine Yq hi (show m.ship.Columns[i]? = some c by rw [hR.cols]; exact hc) ?_
  rw [h9]
  cases hd:c.Deck with
  | true=>exact H6 (Gp (Gp ⟨fun _ h=>(by cases h.1),fun _=>rfl⟩))
  | false=>
   refine H6 (wp_mono (Rc2 hG hR hi hc) (fun r hr=>Gp ?_))
   show ((false||!r)=true) ↔ _
   rw [Bool.false_or,Bool.not_eq_true',← Bool.not_eq_true,hr,a0,hd]
   refine not_congr ⟨fun h=>⟨rfl,h.1,fun g=>by cases h.2.2 g⟩,fun h=>⟨h.2.1,⟨fun g=>(by cases g),fun g=>(h.2.2 g).elim⟩⟩⟩
 ·refine Hv (fun h=>Gp (.inr ?_)) (fun h=>?_)
  ·have h0:=M1 h
   rcases h7 with ⟨e,_⟩ | ⟨e,h7⟩
   ·exact(h0 e).elim
   ·exact⟨fun g=>h7 (h6.1 g),e,rfl⟩
  ·have h0:r7=0:=by have:=M2 h; omega
   have h7:R01 s t x:=h7.elim (·.2) (fun h=>(h.1 h0).elim)
   refine Qo (by omega) (Gp (.inl ⟨h6.2 h7,rfl,?_,?_⟩))
   ·obtain⟨h1,h2,h3,h4⟩:=h7
    obtain⟨b,hb,_⟩:=hG.right.each _ h2
    have hb:Qf boxes x.Box=some b:=hb
    have hid:=G95 hb
    have a1:=(hR.on x.Slot b).2 ⟨by rw [hid]; exact h2,by rw [hid]; exact hb⟩
    rw [Yf9 hk,J34 m.on a1]
    refine⟨hR.cols,hR.covs,fun y d=>?_,fun i d=>?_,hR.opn⟩
    ·show (y,d)∈Gv.Hc (Gv.del m.on x.Slot) ↔ (⟨d.ID,y⟩:G1)∈H33 x.Box t.l∧Qf boxes d.ID=some d
     rw [Rfe,Qc7,hR.on]
     constructor
     ·rintro⟨g1,g2,g3⟩
      refine⟨⟨g2,fun e=>g1 ?_⟩,g3⟩
      exact congrArg G1.Slot (Hbb hG.right.sorted g2 h2 e)
     ·rintro⟨⟨g1,g2⟩,g3⟩
      refine⟨fun e=>g2 ?_,g1,g3⟩
      exact congrArg G1.Box (Ye9 hG hR g1 h2 e)
    ·show (i,d)∈Gv.Hc (Gv.put m.quay b.ID b) ↔ i∈H2f x.Box t.a∧Qf boxes i=some d
     rw [Q7f,G3d,hR.quay,hid]
     constructor
     ·rintro(⟨rfl,rfl⟩ | ⟨g1,g2,g3⟩)
      ·exact⟨.inl rfl,hb⟩
      ·exact⟨.inr g2,g3⟩
     ·rintro⟨g | g,g3⟩
      ·subst g
       exact .inl ⟨rfl,by rw [hb] at g3; cases g3; rfl⟩
      ·exact .inr ⟨fun e=>hG.disj i g (Mo.2 ⟨_,h2,e.symm⟩),g,g3⟩
   ·show m.lifts+1=m.lifts+G64 x
    unfold G64
    rw [if_pos (.inl hk)]
end
section
variable {s:Gi} {boxes:List Box} {m:Gc} {t:St} {x:Move}
theorem Yec (hR:H57 s boxes m t) (y:Slot) (size:Int):Wp (G73 m.ship y size) (fun r=>r=true ↔ G91 s y size):=by
 refine wp_mono (Qb7 m.ship y size) (fun r hr=>hr.trans ⟨fun h=>⟨?_,h.tier,h.half⟩,fun h=>⟨?_,h.tier,h.half⟩⟩)
 ·obtain⟨i,c,h1,h2,h3⟩:=h.col
  exact⟨i,c,h1,by rw [← hR.cols]; exact h2,h3⟩
 ·obtain⟨i,c,h1,h2,h3⟩:=h.col
  exact⟨i,c,h1,by rw [hR.cols]; exact h2,h3⟩
theorem Z54 (hG:Good s boxes t) (hR:H57 s boxes m t) (hk:x.Kind=3) (hl:0≤m.lifts∧m.lifts≤1000000):Wp (H16 m x) (Rf1 s boxes m t x):=by
 have a1:Can s boxes t x ↔ Rf2 s boxes t x:=by
  constructor
  ·rintro(h | h | h | h)
   ·exact absurd h.1 (by omega)
   ·exact absurd h.1 (by omega)
   ·exact absurd h.1 (by omega)
   ·exact h.2
  ·exact fun h=>.inr (.inr (.inr ⟨hk,h⟩))
 have a5:=J6a hG.ship
 unfold H16
 have a6:Gv.has m.quay x.Box=true ↔ x.Box∈t.a:=by
  rw [Ye1]
  constructor
  ·rintro⟨b,hb⟩
   exact((hR.quay _ b).1 hb).1
  ·intro h
   obtain⟨b,hb,_⟩:=hG.box _ h
   exact⟨b,(hR.quay _ b).2 ⟨h,hb⟩⟩
 refine Gt rfl (Gt rfl (Gt rfl (H6 (wp_mono (Q':=fun r=>(r=0∧Rf2 s boxes t x)∨(r≠0∧¬ Rf2 s boxes t x)) ?_ (fun r7 h7=>?_)))))
 ·refine Yy (P:=x.G9=0) (Gp (by rw [Mk])) (fun h1=>?_) (fun h1=>.inr ⟨by decide,fun h=>h1 h.1⟩)
  refine Yy (Gp a6) (fun h2=>?_) (fun h2=>.inr ⟨by decide,fun h=>h2 h.2.1⟩)
  obtain⟨b,hb,hz⟩:=hG.box _ h2
  rw [J34 m.quay ((hR.quay _ b).2 ⟨h2,hb⟩)]
  have a2:x.Box ∉ t.l.map (·.Box):=hG.disj _ h2
  refine Yy (P:=G91 s x.Slot b.Size) ?_ (fun h3=>?_) (fun h3=>.inr ⟨by decide,fun⟨_,_,d,g1,g2,_⟩=>h3 (by rw [hb] at g1; cases g1; exact g2)⟩)
  ·unfold Gac
   exact H6 (wp_mono (Yec hR x.Slot b.Size) (fun r hr=>Gp hr))
  obtain⟨i,c,hi,hc,b0⟩:=h3.col
  have a7 : -1000000≤x.Slot.Tier∧x.Slot.Tier≤1000000:=by
   have:=a5.tiers c (M8 hc)
   have:=h3.tier
   omega
  refine Yy (P:=¬ J20 s t.o x.Slot) ?_ (fun h4=>?_) (fun h4=>.inr ⟨by decide,fun⟨_,_,d,g1,g2,g3,_⟩=>h4 g3⟩)
  ·unfold Gab
   refine H6 (wp_mono (Rc2 hG hR (x:=x.Slot) hi hc) (fun r hr=>Gp ?_))
   rw [Bool.not_eq_true',← Bool.not_eq_true,hr]
  refine Yy (P:=¬ Rec t.l x.Slot) ?_ (fun h5=>?_) (fun h5=>.inr ⟨by decide,fun⟨_,_,d,g1,g2,g3,g4,_⟩=>h5 g4⟩)
  ·unfold Gaa
   refine H6 (wp_mono (Qe3 hG hR (P:=fun z=>He9 z x.Slot) (fun y hy=>?_)) (fun r hr=>Gp ?_))
   ·unfold G5d
    exact H6 (wp_mono (R25 _ _) (fun r hr=>Gp hr))
   ·rw [Bool.not_eq_true',← Bool.not_eq_true,hr]
    exact not_congr ⟨fun⟨y,hy,h⟩=>⟨y,hy,He0 h⟩,fun⟨y,hy,h⟩=>⟨y,hy,He0 h⟩⟩
  refine Yy (P:=H6e x.Slot (t.l.map (·.Slot))) ?_ (fun h6=>?_) (fun h6=>.inr ⟨by decide,fun⟨_,_,d,g1,g2,g3,g4,g5,_⟩=>h6 g5⟩)
  ·have hp:=Q78 hG hR
   have a3:(Gv.keys m.on).filterMap id=(onB m).map (·.Slot):=by
    rw [He1]; unfold onB; rw [List.map_map]; rfl
   have b1:(onB m).length≤10:=by rw [hp.length_eq]; have:=hG.num; omega
   unfold Ga9
   refine H6 (Gp (Gt (x:=(onB m).map (·.Slot)) ?_ (H6 (wp_mono (Q':=fun r=>r=true ↔ H6e x.Slot (t.l.map (·.Slot))) ?_ (fun r hr=>Gp hr)))))
   ·unfold Zx
    rw [a3,M3 (show ((onB m).map (·.Slot)).length*24≤140737488355328∧((onB m).map (·.Slot)).length≤maxLen from ⟨by rw [Mm]; omega,by rw [Mm]; simp only [maxLen]; omega⟩),Qc4]
   ·unfold H64
    rw [R3b (hp.map (·.Slot))]
    exact R26 x.Slot _ a7
  refine Yy (P:=Ref s boxes (H2e ⟨x.Box,x.Slot⟩ t.l) x.Slot) ?_ (fun h7=>Hf4 (.inl ⟨rfl,h1,h2,b,hb,h3,h4,h5,h6,h7⟩)) (fun h7=>.inr ⟨by decide,fun⟨_,_,d,g1,g2,g3,g4,g5,g6⟩=>h7 g6⟩)
  have h9:=H72 hG.right.sorted (y:=⟨x.Box,x.Slot⟩) a2
  have a8:Ref s boxes (H2e ⟨x.Box,x.Slot⟩ t.l) x.Slot ↔ J27 boxes (H2e ⟨x.Box,x.Slot⟩ t.l) i c:=by
   refine⟨fun hf=>hf i c hi hc,fun hf j d e1 e2=>?_⟩
   have:j=i:=by omega
   subst this
   rw [hc] at e2; cases e2
   exact hf
  have hh:∀ half:Int,Ry boxes (H2e ⟨x.Box,x.Slot⟩ t.l) (i:Int) half=(if x.Slot.Half=half∨x.Slot.Half=0 then H86 b else 0)+Ry boxes t.l (i:Int) half:=fun half=>by
   rw [Q5a (G3f h9),G40,Y90 (x:=⟨x.Box,x.Slot⟩) hb]
   congr 1
   by_cases a0:x.Slot.Half=half∨x.Slot.Half=0
   ·rw [if_pos a0,if_pos ⟨hi,a0⟩]
   ·rw [if_neg a0,if_neg (fun g=>a0 g.2)]
  unfold Ga8
  show Wp (Qw m.ship.Columns x.Slot.G3 _) _
  refine Yq hi (show m.ship.Columns[i]? = some c by rw [hR.cols]; exact hc) ?_
  rw [a8]
  unfold J27
  by_cases hH:c.Height≤0
  ·rw [M3 hH]
   exact H6 (Gp (H6 (Gp (Gp ⟨fun _=>.inl hH,fun _=>rfl⟩))))
  ·rw [M4 hH]
   refine Gt (Y86 hG hR x.Slot b 1) (Gt (Y86 hG hR x.Slot b 2) (Gp ?_))
   rw [hi,← hh,← hh,Bool.false_or,Mk,Int.max_le]
   exact⟨fun h=>.inr h,fun h=>h.resolve_left hH⟩
 ·refine Hv (fun h=>Gp (.inr ?_)) (fun h=>?_)
  ·have h0:=M1 h
   rcases h7 with ⟨e,_⟩ | ⟨e,h7⟩
   ·exact(h0 e).elim
   ·exact⟨fun g=>h7 (a1.1 g),e,rfl⟩
  ·have h0:r7=0:=by have:=M2 h; omega
   have h7:Rf2 s boxes t x:=h7.elim (·.2) (fun h=>(h.1 h0).elim)
   refine Qo (by omega) (Gp (.inl ⟨a1.2 h7,rfl,?_,?_⟩))
   ·obtain⟨h1,h2,b,hb,h3,h4,h5,h6,h8⟩:=h7
    have a2:x.Box ∉ t.l.map (·.Box):=hG.disj _ h2
    have h9:=H72 hG.right.sorted (y:=⟨x.Box,x.Slot⟩) a2
    have hid:=G95 hb
    have a9:=(hR.quay x.Box b).2 ⟨h2,hb⟩
    have a4:∀ y∈t.l,y.Slot≠x.Slot:=fun y hy e=>h5 ⟨y,hy,by rw [e]; exact⟨rfl,rfl,.inl rfl⟩⟩
    rw [Yf8 hk,J34 m.quay a9]
    refine⟨hR.cols,hR.covs,fun y d=>?_,fun i d=>?_,hR.opn⟩
    ·show (y,d)∈Gv.Hc (Gv.put m.on x.Slot b) ↔ (⟨d.ID,y⟩:G1)∈H2e ⟨x.Box,x.Slot⟩ t.l∧Qf boxes d.ID=some d
     rw [Q7f,(G3f h9).mem_iff,Mq,hR.on]
     constructor
     ·rintro(⟨rfl,rfl⟩ | ⟨g1,g2,g3⟩)
      ·exact⟨.inl (by rw [hid]),by rw [hid]; exact hb⟩
      ·exact⟨.inr g2,g3⟩
     ·rintro⟨g | g,g3⟩
      ·have e1:d.ID=x.Box:=congrArg G1.Box g
       have e2:y=x.Slot:=congrArg G1.Slot g
       refine .inl ⟨e2,?_⟩
       rw [e1,hb] at g3
       cases g3; rfl
      ·exact .inr ⟨a4 _ g,g,g3⟩
    ·show (i,d)∈Gv.Hc (Gv.del m.quay x.Box) ↔ i∈H92 x.Box t.a∧Qf boxes i=some d
     rw [Rfe,G3e,hR.quay]
     exact⟨fun h=>⟨⟨h.2.1,h.1⟩,h.2.2⟩,fun h=>⟨h.1.2,h.1.1,h.2⟩⟩
   ·show m.lifts+1=m.lifts+G64 x
    unfold G64
    rw [if_pos (.inr hk)]
theorem Y8b (hG:Good s boxes t) (hR:H57 s boxes m t) (hl:0≤m.lifts∧m.lifts≤1000000) (x:Move):Wp (G1e m x) (Rf1 s boxes m t x):=by
 unfold G1e
 refine Zr (fun j=>j=true ↔ (x.Kind=1∨x.Kind=4)) (fun K hK=>Hv (fun h=>hK _ ?_) (fun h=>hK _ ?_)) (fun j hj=>?_)
 ·rw [h]; exact⟨fun _=>.inl (M1 h),fun _=>rfl⟩
 ·rw [Mk]
  exact⟨.inr,fun g=>g.resolve_left (M2 h)⟩
 refine Hv (fun h=>?_) (fun h=>Hv (fun h2=>?_) (fun h2=>Hv (fun h3=>?_) (fun h3=>Gp (.inr ⟨?_,by show (310:Int)≠0; decide,rfl⟩))))
 ·rcases hj.1 h with hk | hk
  ·exact H6 (wp_mono (Y5a hG hR hk) (fun r hr=>Gp hr))
  ·exact H6 (wp_mono (Y59 hG hR hk) (fun r hr=>Gp hr))
 ·exact H6 (wp_mono (Yf4 hG hR (M1 h2) hl) (fun r hr=>Gp hr))
 ·exact H6 (wp_mono (Z54 hG hR (M1 h3) hl) (fun r hr=>Gp hr))
 ·have hn:¬ (x.Kind=1∨x.Kind=4):=fun g=>by rw [hj.2 g] at h; cases h
  have h2:=M2 h2
  have h3:=M2 h3
  rintro(g | g | g | g)
  ·exact hn (.inl g.1)
  ·exact hn (.inr g.1)
  ·exact h2 g.1
  ·exact h3 g.1
end
theorem Z56 {boxes:List Box} {i:Int} {b:Box} (h:Qf boxes i=some b):b∈boxes:=List.mem_of_find?_eq_some h
theorem Rde {l:List G1} {f:G1→Option Bool} {p:G1→Bool} (h:∀ x∈l,f x=some (p x)):Hw l f=some (l.any p):=by
 have e:Qa l f=some (J2b p l):=H55 h
 unfold Hw
 exact G34 (Gt e (Gp (by show decide (0≤J2b p l)=_; rw [Gf8])))
theorem Y4d {α β:Type} [DecidableEq β] {xs:List α} {k:Bool→Option β} {r:Option β} (h:∀ b,(b=true→xs=[])→k b=r):Y4e xs k=r:=by
 unfold Y4e
 cases xs with
 | nil=>rw [h true (fun _=>rfl),h false (fun e=>by cases e)]; simp
 | cons x l=>exact h false (fun e=>by cases e)
theorem Q19 {α:Type} [DecidableEq α] {k:Nat} {s:List α} (h:s.length*k≤140737488355328∧s.length≤maxLen):(Y4e s fun b4=>bif b4 then (some []) else (need (decide ((([]:List α).length+s.length)*k≤140737488355328∧([]:List α).length+s.length≤maxLen)) <| some (([]:List α)++s)))=some s:=by
 refine Y4d (fun b hb=>?_)
 cases b with
 | true=>rw [hb rfl]; rfl
 | false=>
  rw [cond_false,M3 (show (([]:List α).length+s.length)*k≤140737488355328∧([]:List α).length+s.length≤maxLen by rw [List.length_nil,Nat.zero_add]; exact h)]
  rfl
theorem Yee {n k:Nat} (hn:n≤1000000) (hk:k≤1000):n*k≤140737488355328∧n≤maxLen:=
 ⟨Nat.le_trans (Nat.mul_le_mul hn hk) (by decide),by simp only [maxLen]; omega⟩
theorem Yc6 {s:List G3} (h:s.length≤1000000):Rf s=some s:=Q19 (Yee (k:=112) h (by decide))
theorem Yc5 {s:List G9} (h:s.length≤1000000):Rw s=some s:=Q19 (Yee (k:=32) h (by decide))
theorem Yc4 {s:List Int} (h:s.length≤1000000):Yw s=some s:=Q19 (Yee (k:=8) h (by decide))
def Qb8 (b:Box):Bool:=decide (b.Size=20)||decide (b.Size=40)
theorem Rc3 (boxes:List Box) (i:Int):Gee boxes i=some (match Qf boxes i with
  | some b=>(b,Qb8 b)
  | none=>(Box.mk 0 ByteArray.empty 0 false 0 0 0 0 false,false)):=by
 unfold Gee
 rw [Q06]
 cases Qf boxes i <;> rfl
theorem Y39 {β:Type} {Q:β→Prop} {boxes:List Box} {state:List G1} {ashore pre post:List Int} {y:Int} (e:ashore=pre++y::post) (ha:pre.length≤1000000) {A:Option β} {B:Box→Option β}
  (hA:(∀ b,Qf boxes y=some b→¬ (b.Size=20∨b.Size=40))∨(∃ p∈pre,y≤p)∨y∈state.map (·.Box)→Wp A Q)
  (hB:∀ b,Qf boxes y=some b→(b.Size=20∨b.Size=40)→Wp (B b) Q) :
  Wp (bnd (Gee boxes y) fun r162=>
     bnd (bif ((!(!r162.2))&&(decide (0 < (pre.length:Int)))) then chk ((pre.length:Int) - 1) some else some 0) fun v165=>
     bnd (bif ((!(!r162.2))&&(decide (0 < (pre.length:Int)))) then Qw ashore v165 some else some default) fun y166=>
     bnd (bif (!((!r162.2)||((decide (0 < (pre.length:Int)))&&(decide (y≤y166))))) then Hw state (fun z0=>G8e z0 y) else some default) fun r167=>
     bif (((!r162.2)||((decide (0 < (pre.length:Int)))&&(decide (y≤y166))))||r167) then A else B r162.1) Q:=by
 refine Gt (Rc3 boxes y) ?_
 cases hf:Qf boxes y with
 | none=>
  have hA:=hA (.inl fun b hb=>by rw [hf] at hb; cases hb)
  exact H6 (Gp (H6 (Gp (H6 (Gp hA)))))
 | some b=>
  simp only
  by_cases hz:b.Size=20∨b.Size=40
  ·have h0:Qb8 b=true:=by unfold Qb8; simpa using hz
   rw [h0]
   simp only [Bool.not_true,Bool.not_false,Bool.true_and,Bool.false_or]
   have hc:=Rde (l:=state) (f:=fun z0=>G8e z0 y) (p:=fun x=>decide (x.Box=y)) (fun x _=>rfl)
   have h5:(state.any fun x=>decide (x.Box=y))=true→y∈state.map (·.Box):=fun h=>by
    obtain⟨x,hx,e⟩:=List.any_eq_true.1 h
    exact Mo.2 ⟨x,hx,M1 e⟩
   by_cases hp:0 < (pre.length:Int)
   ·obtain⟨p,h1,h2,h3⟩:=R63 (l:=ashore) (y:=y) e (by omega)
    rw [M3 hp]
    simp only [cond_true,Bool.true_and]
    refine H6 (Qo (by omega) (Gp (H6 (Yq (show (pre.length:Int) - 1=((pre.length - 1:Nat):Int) by omega) h1 (Gp ?_)))))
    by_cases h4:y≤p
    ·rw [M3 h4]
     exact H6 (Gp (hA (.inr (.inl ⟨p,h3,h4⟩))))
    ·rw [M4 h4]
     refine Gt hc (Hv (fun h=>hA (.inr (.inr (h5 (by simpa using h))))) (fun _=>hB b hf hz))
   ·rw [M4 hp]
    refine H6 (Gp (H6 (Gp (Gt hc (Hv (fun h=>hA (.inr (.inr (h5 (by simpa using h))))) (fun _=>hB b hf hz))))))
  ·have h0:Qb8 b=false:=by unfold Qb8; simpa using hz
   rw [h0]
   have hA:=hA (.inl fun d hd=>by rw [hf] at hd; cases hd; exact hz)
   exact H6 (Gp (H6 (Gp (H6 (Gp hA)))))
theorem R5e {β:Type} {Q:β→Prop} {s:Gi} (hr:∀ x∈s.Covers,x.Rows.length≤1000000) {K:List G9→Option β} (hK:Wp (K s.Covers) Q) :
  Wp (each (fun y41 i41 (s41:(List G9)) nx41=>
   Qw s.Covers (i41:Int) fun y46=>
   bnd (Yw y46.Rows) fun r48=>
   Qw s41 (i41:Int) fun y49=>
   nx41 (s41.set (i41:Int).toNat (G9.mk y49.Bay r48))) K s.Covers 0 s.Covers) Q:=by
 refine Jj (fun _ t=>t=s.Covers) rfl (fun pre y post t nx e hI h0=>?_) (fun t ht=>by rw [ht]; exact hK)
 subst hI
 have hy:s.Covers[pre.length]? = some y:=by rw [e]; simp
 refine Yq rfl hy (Gt (Yc4 (hr y (M8 hy))) (Yq rfl hy (h0 _ ?_)))
 apply List.ext_getElem?
 intro q
 rw [show ((pre.length:Int)).toNat=pre.length by omega,List.getElem?_set]
 split
 ·rename_i h
  subst h
  have:=(M5 hy).1
  rw [if_pos this,hy]
 ·rfl
theorem Y38 {s:Gi} {boxes:List Box} {l:List G1} {a:List Int} (hL:J93 s) (hr:R6 s boxes l) (hl:l.length≤10) (h5:a.length≤1000)
  (h2:∀ i∈a,∃ b,Qf boxes i=some b∧(b.Size=20∨b.Size=40)) (h0:a.Pairwise (· < ·)) (h3:∀ i∈a,i ∉ l.map (·.Box)) :
  Wp (Ga7 s boxes l a) (fun r=>r.2=0∧H57 s boxes r.1 ⟨l,[],a⟩∧r.1.lifts=0):=by
 have hs:=J6a hL
 have h6:=hL.covs.len
 have h7:=hL.len
 unfold Ga7
 refine H6 (wp_mono (Ge7 hs.right hs.tier (by omega)) (fun r4 h4=>Hv (fun h=>?_) (fun _=>?_)))
 ·rw [h4.2 hr] at h; cases h
 refine Gt (Yc6 (by omega)) (Gt (Yc5 (by omega)) (R5e (fun x hx=>by have:=hs.rows x hx; omega) ?_))
 refine Jj (fun pre (st:Gv Slot Box)=>∀ y b,(y,b)∈Gv.Hc st ↔ (⟨b.ID,y⟩:G1)∈pre∧Qf boxes b.ID=some b) (fun y b=>⟨fun h=>(Q80 h).elim,fun h=>by cases h.1⟩) (fun pre x post st nx e hI h1=>?_) (fun st hI=>?_)
 ·have hx:x∈l:=by rw [e]; simp
  obtain⟨d,hd,_⟩:=hr.each x hx
  refine Gt (Rc3 boxes x.Box) ?_
  rw [hd]
  refine h1 _ (fun y b=>?_)
  have hid:=G95 hd
  show (y,b)∈Gv.Hc (Gv.put st x.Slot d) ↔ _
  rw [Q7f,hI,Mn,Mp]
  constructor
  ·rintro(⟨rfl,rfl⟩ | ⟨g1,g2,g3⟩)
   ·exact⟨.inr (by rw [hid]),by rw [hid]; exact hd⟩
   ·exact⟨.inl g2,g3⟩
  ·rintro⟨g | g,g3⟩
   ·refine .inr ⟨fun h=>?_,g,g3⟩
    have ha:=hr.apart
    rw [e] at ha
    exact H0c ha _ g (by rw [show (⟨b.ID,y⟩:G1).Slot=x.Slot from h]; exact⟨rfl,rfl,.inl rfl⟩)
   ·have e1:b.ID=x.Box:=congrArg G1.Box g
    refine .inl ⟨congrArg G1.Slot g,?_⟩
    rw [e1,hd] at g3
    cases g3; rfl
 ·refine Jj (fun pre (qt:Gv Int Box)=>∀ i b,(i,b)∈Gv.Hc qt ↔ i∈pre∧Qf boxes i=some b) (fun i b=>⟨fun h=>(Q80 h).elim,fun h=>by cases h.1⟩) (fun pre y post qt nx e hJ h1=>?_) (fun qt hJ=>?_)
  ·have hy:y∈a:=by rw [e]; simp
   refine Y39 e (by have:=congrArg List.length e; simp only [Mh] at this; omega) (fun h=>?_) (fun b hb _=>h1 _ (fun i d=>?_))
   ·rcases h with h | ⟨p,hp,h⟩ | h
    ·obtain⟨b,hb,hz⟩:=h2 y hy
     exact(h b hb hz).elim
    ·rw [e] at h0
     have:=H0c h0 p hp
     omega
    ·exact(h3 y hy h).elim
   ·show (i,d)∈Gv.Hc (Gv.put qt y b) ↔ _
    rw [Q7f,hJ,Mn,Mp]
    constructor
    ·rintro(⟨rfl,rfl⟩ | ⟨g1,g2,g3⟩)
     ·exact⟨.inr rfl,hb⟩
     ·exact⟨.inl g2,g3⟩
    ·rintro⟨g | g,g3⟩
     ·by_cases h:i=y
      ·subst h
       refine .inl ⟨rfl,?_⟩
       rw [hb] at g3
       cases g3; rfl
      ·exact .inr ⟨h,g,g3⟩
     ·subst g
      refine .inl ⟨rfl,?_⟩
      rw [hb] at g3
      cases g3; rfl
  ·exact Gp ⟨rfl,⟨rfl,rfl,hI,hJ,fun k v=>⟨fun h=>(Q80 h).elim,fun h=>by cases h.1⟩⟩,rfl⟩
theorem Z44 (a b:Slot):Z45 a b < 0 ↔ a.G3 < b.G3∨(a.G3=b.G3∧(a.Tier < b.Tier∨(a.Tier=b.Tier∧a.Half < b.Half))):=by
 unfold Z45
 rw [Qc3,Qc3,Qc3,H45,J75,H45,J75,H45,J75]
 simp [orI]
theorem J64 (a b:G1):Rc7 a b < 0 ↔ a.Slot.Tier < b.Slot.Tier∨(a.Slot.Tier=b.Slot.Tier∧(a.Slot.G3 < b.Slot.G3∨(a.Slot.G3=b.Slot.G3∧a.Slot.Half < b.Slot.Half))):=by
 unfold Rc7
 rw [Qc3,Qc3,H45,J75,Z44]
 simp only [orI,Int.lt_irrefl,and_false,or_false]
 omega
theorem Y46:Ycf Rc7 where
 asym x y:=by rw [J64,J64]; omega
 ntrans x y z:=by rw [J64,J64,J64]; omega
theorem Qe8:Ycf J80 where
 asym x y:=by unfold J80; rw [H45,H45]; omega
 ntrans x y z:=by unfold J80; rw [H45,H45,H45]; omega
abbrev St3:=List G1×List Int×List Int
def J01 (st:St3):St:=⟨st.1,st.2.1,st.2.2⟩
def J2a (t:St):St3:=(t.l,t.o,t.a)
open Classical in
noncomputable def G02 (F:Nat) (s:Gi) (boxes:List Box):List Move→St3→Option St3
 | [],st=>some st
 | m::r,st=>if Can s boxes (J01 st) m then G02 F s boxes r (J2a (nxt (J01 st) m)) else none
theorem G71 {F:Nat} {s:Gi} {boxes:List Box} {m:Move} {r:List Move} {st st':St3}:G02 F s boxes (m::r) st=some st' ↔ Can s boxes (J01 st) m∧G02 F s boxes r (J2a (nxt (J01 st) m))=some st':=by
 rw [G02]
 by_cases h:Can s boxes (J01 st) m
 ·rw [if_pos h]; exact⟨fun g=>⟨h,g⟩,fun g=>g.2⟩
 ·rw [if_neg h]; exact⟨fun g=>(nomatch g),fun g=>(h g.1).elim⟩
theorem G1d {F:Nat} {s:Gi} {boxes:List Box}:∀ (a b:List Move) (st st1 st2:St3),G02 F s boxes a st=some st1→G02 F s boxes b st1=some st2→G02 F s boxes (a++b) st=some st2
 | [],b,st,st1,st2,h1,h2=>by
  cases h1
  exact h2
 | m::r,b,st,st1,st2,h1,h2=>by
  obtain⟨hc,h1⟩:=G71.1 h1
  rw [List.cons_append]
  exact G71.2 ⟨hc,G1d r b _ st1 st2 h1 h2⟩
theorem Jce {F:Nat} {s:Gi} {boxes:List Box} {α:Type} {f:α→Move} (I:List α→St3→Prop) {xs:List α} {st:St3} (h0:I [] st)
  (hs:∀ pre x post st,xs=pre++x::post→I pre st→Can s boxes (J01 st) (f x)∧I (pre++[x]) (J2a (nxt (J01 st) (f x)))):∃ st',G02 F s boxes (xs.map f) st=some st'∧I xs st':=by
 have key:∀ (post pre:List α) (st:St3),xs=pre++post→I pre st→∃ st',G02 F s boxes (post.map f) st=some st'∧I xs st':=by
  intro post
  induction post with
  | nil=>intro pre st e hi; rw [List.append_nil] at e; subst e; exact⟨st,rfl,hi⟩
  | cons x post ih=>
   intro pre st e hi
   obtain⟨e1,h1⟩:=hs pre x post st e hi
   obtain⟨st2,e2,h2⟩:=ih (pre++[x]) _ (by rw [e]; simp) h1
   exact⟨st2,by rw [List.map_cons]; exact G71.2 ⟨e1,e2⟩,h2⟩
 exact key xs [] st rfl h0
theorem Qd2 {k:Int} {l:List Int} (h:l.Nodup) (hk:k ∉ l):(H2f k l).Nodup:=by
 unfold H2f
 refine List.nodup_append.2 ⟨h.sublist List.filter_sublist,List.nodup_cons.2 ⟨fun g=>hk (Mr.1 g).1,h.sublist List.filter_sublist⟩,fun a ha b hb e=>?_⟩
 have h1:=M1 (Mr.1 ha).2
 subst e
 rcases Mq.1 hb with rfl | hb
 ·omega
 ·have:=M1 (Mr.1 hb).2
  omega
theorem Z53 {s:Gi} {o:List Int} {k:Nat} (h:G96 s o) (hk:k < s.Covers.length):G96 s (H2f (k:Int) o):=⟨fun y hy=>by
 rcases G3d.1 hy with rfl | hy
 ·omega
 ·exact h.mem y hy,He2 h.sorted⟩
theorem Z57 {s:Gi} {o:List Int} {k:Int} (h:G96 s o):G96 s (H92 k o):=⟨fun y hy=>h.mem y (G3e.1 hy).1,He5 h.sorted⟩
section
variable {F:Nat} {s:Gi} {boxes:List Box} {l bf af:List G1} {o q set:List Int}
theorem Yaa {c:Int} (hk:∃ k:Nat,c=(k:Int)∧k < s.Covers.length) (hu:Q61 s l c) (hn:c ∉ o):Can s boxes (J01 (l,o,q)) (mvC 1 c)∧J2a (nxt (J01 (l,o,q)) (mvC 1 c))=(l,H2f c o,q):=by
 obtain⟨k,rfl,hk⟩:=hk
 exact⟨.inl ⟨rfl,rfl,rfl,by show (0:Int)≤(k:Int); omega,by show (k:Int) < _; omega,hn,hu⟩,by rw [Yfa rfl]; rfl⟩
theorem Y37 {c:Int} (hk:∃ k:Nat,c=(k:Int)∧k < s.Covers.length) (h0:c∈o):Can s boxes (J01 (l,o,q)) (mvC 4 c)∧J2a (nxt (J01 (l,o,q)) (mvC 4 c))=(l,H92 c o,q):=by
 obtain⟨k,rfl,hk⟩:=hk
 exact⟨.inr (.inl ⟨rfl,rfl,rfl,by show (0:Int)≤(k:Int); omega,by show (k:Int) < _; omega,h0⟩),by rw [Yf7 rfl]; rfl⟩
theorem Ye5 {x:G1} (hx:x∈l) (ho:H4e l x.Slot=[]) (hs:¬ Jb5 s o x.Slot):Can s boxes (J01 (l,o,q)) (mvS 2 x)∧J2a (nxt (J01 (l,o,q)) (mvS 2 x))=(H33 x.Box l,o,H2f x.Box q):=
 ⟨.inr (.inr (.inl ⟨rfl,rfl,hx,ho,hs⟩)),by rw [Yf9 rfl]; rfl⟩
theorem Y61.can (h:G26 s boxes bf af set) (h2:Y61 s boxes af set l) {x:G1} (hx:x∈af) (hn:x ∉ l) (a3:¬ J20 s o x.Slot)
  (a0:∀ z∈af,z.Slot.G3=x.Slot.G3→z.Slot.Tier < x.Slot.Tier→z∈l) (a4:x.Box∈q):Can s boxes (J01 (l,o,q)) (mvS 3 x)∧J2a (nxt (J01 (l,o,q)) (mvS 3 x))=(H2e x l,o,H92 x.Box q)∧J94 l x (H2e x l)∧Y61 s boxes af set (H2e x l):=by
 obtain⟨b,hb,h3,h9⟩:=h.aft.each x hx
 have b1:l.length≤9:=by
  have a5:=G67 h2.sta.right.sorted
  have:=(List.nodup_cons.2 ⟨hn,a5⟩).length_le_of_subset (l₂:=af) (fun y hy=>by
   rcases Mq.1 hy with rfl | hy
   ·exact hx
   ·exact h2.sub y hy)
  have:=h.la
  simp only [Md] at *
  omega
 have h4:x.Box ∉ l.map (·.Box):=fun hm=>by
  obtain⟨y,hy,e⟩:=Mo.1 hm
  have:=Hbb h.aft.sorted (h2.sub y hy) hx e
  exact hn (this ▸ hy)
 have h0:=H72 h2.sta.right.sorted h4
 have h5:¬ Rec l x.Slot:=fun⟨y,hy,hm⟩=>by
  have a6:=h2.sub y hy
  have a7:x≠y:=fun e=>hn (e ▸ hy)
  exact absurd hm (Y47 h.aft.apart hx a6 a7)
 have h1:H6e x.Slot (l.map (·.Slot)):=by
  have key:∀ half,below (af.map (·.Slot)) x.Slot half→below (l.map (·.Slot)) x.Slot half:=fun half a8=>by
   obtain⟨z,hz,e⟩:=G68 a8
   exact Mo.2 ⟨z,a0 z hz (by rw [e]) (by rw [e]; show x.Slot.Tier - 1 < x.Slot.Tier; omega),e⟩
  rcases h9 with g | g | ⟨g0,g1,g2⟩
  ·exact .inl g
  ·exact .inr (.inl (key _ g))
  ·exact .inr (.inr ⟨g0,key _ g1,key _ g2⟩)
 have h6:Ref s boxes (H2e x l) x.Slot:=fun m c e1 e2=>by
  have hq:=H2d h0 h2.sta.right.sorted h4
  have h7:∀ y∈H2e x l,y∈af:=fun y hy=>by
   rcases Mq.1 ((G3f h0).mem_iff.1 hy) with rfl | hy
   ·exact hx
   ·exact h2.sub y hy
  have:=h.aft.fits m c e2
  unfold J27 at this ⊢
  have a1:=Qb2 (boxes:=boxes) (m:=(m:Int)) (half:=1) h.aft.sorted hq h7
  have a2:=Qb2 (boxes:=boxes) (m:=(m:Int)) (half:=2) h.aft.sorted hq h7
  rcases this with h | ⟨h,h'⟩
  ·exact .inl h
  ·exact .inr ⟨by omega,by omega⟩
 have h8:∀ y,y∈H2e x l ↔ y=x∨y∈l:=fun y=>by rw [(G3f h0).mem_iff,Mq]
 have b0:(H2e x l).length=l.length+1:=by
  have:=(G3f h0).length_eq
  simpa using this
 refine⟨.inr (.inr (.inr ⟨rfl,rfl,a4,b,hb,h3,a3,h5,h1,h6⟩)),by rw [Yf8 rfl]; rfl,h0,⟨⟨h2.sta.ship,Q0c h2.sta.right hb h3 h5 h1 h0 h4 h6,by omega⟩,fun y hy=>?_,fun y hy a9=>(h8 y).2 (.inr (h2.keep y hy a9))⟩⟩
 rcases (h8 y).1 hy with rfl | hy
 ·exact hx
 ·exact h2.sub y hy
structure R12 (s:Gi) (boxes:List Box) (bf:List G1) (set q0:List Int) (G:G1→Prop) (l:List G1) (q:List Int):Prop where
 way:R7a s boxes bf set l
 gone:∀ x∈bf,x.Box∈set→(x∈l ↔ ¬ G x)
 nod:q.Nodup
 mem:∀ id,id∈q ↔ id∈q0∨∃ x∈bf,x.Box=id∧x.Box∈set∧G x
 len:q.length≤q0.length+bf.length
theorem R12.congr {q0:List Int} {G G':G1→Prop} (h:R12 s boxes bf set q0 G l q) (hg:∀ x∈bf,x.Box∈set→(G x ↔ G' x)):R12 s boxes bf set q0 G' l q:=
 ⟨h.way,fun x hx hm=>by rw [h.gone x hx hm,hg x hx hm],h.nod,fun id=>by
  rw [h.mem]
  constructor
  ·rintro(h | ⟨x,hx,e,hm,hG⟩)
   ·exact .inl h
   ·exact .inr ⟨x,hx,e,hm,(hg x hx hm).1 hG⟩
  ·rintro(h | ⟨x,hx,e,hm,hG⟩)
   ·exact .inl h
   ·exact .inr ⟨x,hx,e,hm,(hg x hx hm).2 hG⟩,h.len⟩
theorem R2e (h:G26 s boxes bf af set) (hO:G96 s o) {q0:List Int} (a8:q0.length≤20) (hd:∀ id∈q0,id ∉ bf.map (·.Box)) {G:G1→Prop} (hI:R12 s boxes bf set q0 G l q) (xs:List G1) (h7:xs.Nodup)
  (hb:∀ x∈xs,x∈bf∧x.Box∈set∧¬ G x) (a5:∀ pre x post,xs=pre++x::post→∀ y∈bf,y.Box∈set→H58 y.Slot x.Slot→G y∨y∈pre) (hs:∀ x∈xs,¬ Jb5 s o x.Slot) :
  ∃ l' q',G02 F s boxes (xs.map (mvS 2)) (l,o,q)=some (l',o,q')∧R12 s boxes bf set q0 (fun x=>G x∨x∈xs) l' q':=by
 have a9:=h.lb
 refine Exists.elim (Jce (F:=F) (s:=s) (boxes:=boxes) (f:=mvS 2) (fun pre st=>st.2.1=o∧R12 s boxes bf set q0 (fun x=>G x∨x∈pre) st.1 st.2.2) (xs:=xs) (st:=(l,o,q)) ⟨rfl,hI.congr (fun x _ _=>by simp)⟩ (fun pre x post st e hJ=>?_)) (fun st' a6=>?_)
 rotate_left
 ·obtain⟨e,e2,hr⟩:=a6
  refine⟨st'.1,st'.2.2,?_,hr⟩
  rw [e,← e2]
 ·obtain⟨j1,j2⟩:=hJ
  have hx:x∈xs:=by rw [e]; simp
  obtain⟨b1,b2,b3⟩:=hb x hx
  have h8:x ∉ pre:=fun hm=>by
   rw [e,List.nodup_append] at h7
   exact h7.2.2 x hm x (by simp) rfl
  have h9:x∈st.1:=(j2.gone x b1 b2).2 fun hh=>hh.elim b3 h8
  have ho:H4e st.1 x.Slot=[]:=List.eq_nil_iff_forall_not_mem.2 fun b hb=>by
   obtain⟨y,hy,_,a0⟩:=Gf6.1 hb
   have h2:=j2.way.sub y hy
   have h0:=h.over b1 h2 b2 a0
   exact(j2.gone y h2 h0).1 hy (a5 pre x post e y h2 h0 a0)
  have b0:=j2.len
  obtain⟨p1,p2,ep⟩:=List.append_of_mem h9
  have a1:=j2.way.sta.right.sorted
  have h1:H33 x.Box st.1=p1++p2:=by rw [ep] at a1 ⊢; exact J73 a1
  obtain⟨st1,st2,st3⟩:=st
  have j1:st2=o:=j1
  subst j1
  obtain⟨hc,es⟩:=Ye5 (boxes:=boxes) (q:=st3) h9 ho (hs x hx)
  refine⟨hc,?_⟩
  rw [es]
  have a2:x.Box ∉ st3:=fun hm=>by
   rcases (j2.mem x.Box).1 hm with hm | ⟨y,hy,ey,h0,hG⟩
   ·exact hd _ hm (Mo.2 ⟨x,b1,rfl⟩)
   ·have:=Hbb h.bef.sorted hy b1 ey
    subst this
    exact hG.elim b3 h8
  have h1:H33 x.Box st1=p1++p2:=h1
  have ep:st1=p1++x::p2:=ep
  refine⟨rfl,?_⟩
  show R12 s boxes bf set q0 _ (H33 x.Box st1) (H2f x.Box st3)
  rw [h1]
  have h6:∀ y,y∈st1 ↔ y=x∨y∈p1++p2:=fun y=>by
   rw [ep]
   simp only [Mn,Mq]
   constructor
   ·rintro(h | h | h)
    ·exact .inr (.inl h)
    ·exact .inl h
    ·exact .inr (.inr h)
   ·rintro(h | h | h)
    ·exact .inr (.inl h)
    ·exact .inl h
    ·exact .inr (.inr h)
  have a7:x ∉ p1++p2:=fun hm=>by
   have hn:=G67 j2.way.sta.right.sorted
   have hn:st1.Nodup:=hn
   rw [ep] at hn
   have:=(List.nodup_cons.1 (List.perm_middle.nodup_iff.1 hn)).1
   exact this hm
  have a3:∀ id,id∈H2f x.Box st3 ↔ id∈q0∨∃ y∈bf,y.Box=id∧y.Box∈set∧(G y∨y∈pre++[x]):=fun id=>by
   rw [G3d,j2.mem]
   constructor
   ·rintro(rfl | h | ⟨y,hy,ey,h0,hG⟩)
    ·exact .inr ⟨x,b1,rfl,b2,.inr (by simp)⟩
    ·exact .inl h
    ·exact .inr ⟨y,hy,ey,h0,hG.elim .inl (fun h5=>.inr (Mn.2 (.inl h5)))⟩
   ·rintro(h | ⟨y,hy,ey,h0,hG | hG⟩)
    ·exact .inr (.inl h)
    ·exact .inr (.inr ⟨y,hy,ey,h0,.inl hG⟩)
    ·rcases Mn.1 hG with hG | hG
     ·exact .inr (.inr ⟨y,hy,ey,h0,.inr hG⟩)
     ·rw [Mp] at hG; subst hG; exact .inl ey.symm
  refine⟨j2.way.take ep b2 ho,fun y hy hm=>?_,Qd2 j2.nod a2,a3,?_⟩
  ·have hg:=j2.gone y hy hm
   have e9:y∈pre++[x] ↔ y∈pre∨y=x:=by rw [Mn,Mp]
   show y∈p1++p2 ↔ ¬ (G y∨y∈pre++[x])
   rw [e9]
   constructor
   ·intro a4
    have h3:=hg.1 ((h6 y).2 (.inr a4))
    rintro(h4 | h4 | h4)
    ·exact h3 (.inl h4)
    ·exact h3 (.inr h4)
    ·exact a7 (h4 ▸ a4)
   ·intro h3
    rcases (h6 y).1 (hg.2 fun h4=>h3 (h4.elim .inl (fun h5=>.inr (.inl h5)))) with h4 | h4
    ·exact(h3 (.inr (.inr h4))).elim
    ·exact h4
  ·have:=(Qd2 j2.nod a2).length_le_of_subset (l₂:=q0++bf.map (·.Box)) (fun a ha=>by
    rcases (a3 a).1 ha with ha | ⟨y,hy,ey,_⟩
    ·exact Mn.2 (.inl ha)
    ·exact Mn.2 (.inr (Mo.2 ⟨y,hy,ey⟩)))
   simpa using this
theorem Y49 (h:Sta s boxes l) (hO:G96 s o) (hF:20≤F) (ks:List Int) (h0:ks.Nodup) (hk:∀ k∈ks,∃ j:Nat,k=(j:Int)∧j < s.Covers.length∧Q61 s l (j:Int)∧(j:Int) ∉ o) :
  ∃ o',G02 F s boxes (ks.map (mvC 1)) (l,o,q)=some (l,o',q)∧G96 s o'∧∀ a,a∈o' ↔ a∈o∨a∈ks:=by
 refine Exists.elim (Jce (F:=F) (s:=s) (boxes:=boxes) (f:=mvC 1) (fun pre st=>st.1=l∧st.2.2=q∧G96 s st.2.1∧∀ a,a∈st.2.1 ↔ a∈o∨a∈pre) (xs:=ks) (st:=(l,o,q)) ⟨rfl,rfl,hO,fun a=>by simp⟩ (fun pre x post st e hJ=>?_)) (fun st' h5=>?_)
 rotate_left
 ·obtain⟨e,h1,h2,h3,h4⟩:=h5
  refine⟨st'.2.1,?_,h3,h4⟩
  rw [e,← h1,← h2]
 ·obtain⟨st1,st2,st3⟩:=st
  obtain⟨j1,j2,j3,j4⟩:=hJ
  have j1:st1=l:=j1
  have j2:st3=q:=j2
  subst j1 j2
  obtain⟨j,rfl,hj,hu,hn⟩:=hk x (by rw [e]; simp)
  have h6:(j:Int) ∉ pre:=fun hm=>by
   rw [e,List.nodup_append] at h0
   exact h0.2.2 _ hm _ (by simp) rfl
  obtain⟨hc,es⟩:=Yaa (boxes:=boxes) (l:=st1) (o:=st2) (q:=st3) ⟨j,rfl,hj⟩ hu (fun hh=>((j4 _).1 hh).elim hn h6)
  refine⟨hc,?_⟩
  rw [es]
  refine⟨rfl,rfl,Z53 j3 hj,fun a=>?_⟩
  show a∈H2f (j:Int) st2 ↔ _
  rw [G3d,j4,Mn,Mp]
  constructor
  ·rintro(h | h | h)
   ·exact .inr (.inr h)
   ·exact .inl h
   ·exact .inr (.inl h)
  ·rintro(h | h | h)
   ·exact .inr (.inl h)
   ·exact .inr (.inr h)
   ·exact .inl h
theorem Re1 (h:Sta s boxes l) (hO:G96 s o) (hF:20≤F) (ks:List Int) (h0:ks.Nodup) (hk:∀ k∈ks,∃ j:Nat,k=(j:Int)∧j < s.Covers.length∧(j:Int)∈o) :
  ∃ o',G02 F s boxes (ks.map (mvC 4)) (l,o,q)=some (l,o',q)∧G96 s o'∧∀ a,a∈o' ↔ a∈o∧a ∉ ks:=by
 refine Exists.elim (Jce (F:=F) (s:=s) (boxes:=boxes) (f:=mvC 4) (fun pre st=>st.1=l∧st.2.2=q∧G96 s st.2.1∧∀ a,a∈st.2.1 ↔ a∈o∧a ∉ pre) (xs:=ks) (st:=(l,o,q)) ⟨rfl,rfl,hO,fun a=>by simp⟩ (fun pre x post st e hJ=>?_)) (fun st' h5=>?_)
 rotate_left
 ·obtain⟨e,h1,h2,h3,h4⟩:=h5
  refine⟨st'.2.1,?_,h3,h4⟩
  rw [e,← h1,← h2]
 ·obtain⟨st1,st2,st3⟩:=st
  obtain⟨j1,j2,j3,j4⟩:=hJ
  have j1:st1=l:=j1
  have j2:st3=q:=j2
  subst j1 j2
  obtain⟨j,rfl,hj,h6⟩:=hk x (by rw [e]; simp)
  have h7:(j:Int) ∉ pre:=fun hm=>by
   rw [e,List.nodup_append] at h0
   exact h0.2.2 _ hm _ (by simp) rfl
  obtain⟨hc,es⟩:=Y37 (boxes:=boxes) (l:=st1) (o:=st2) (q:=st3) ⟨j,rfl,hj⟩ ((j4 _).2 ⟨h6,h7⟩)
  refine⟨hc,?_⟩
  rw [es]
  refine⟨rfl,rfl,Z57 j3,fun a=>?_⟩
  show a∈H92 (j:Int) st2 ↔ _
  rw [G3e,j4,Mn,Mp]
  exact⟨fun⟨⟨a,b⟩,c⟩=>⟨a,fun h=>h.elim b c⟩,fun⟨a,b⟩=>⟨⟨a,fun h=>b (.inl h)⟩,fun h=>b (.inr h)⟩⟩
structure InI (s:Gi) (boxes:List Box) (af:List G1) (set:List Int) (Q0:Int→Prop) (G:G1→Prop) (l:List G1) (q:List Int):Prop where
 way:Y61 s boxes af set l
 come:∀ x∈af,x.Box∈set→(x∈l ↔ G x)
 nod:q.Nodup
 mem:∀ id,id∈q ↔ Q0 id∧¬ ∃ x∈af,x.Box=id∧x.Box∈set∧G x
 len:q.length≤100
theorem InI.congr {Q0:Int→Prop} {G G':G1→Prop} (h:InI s boxes af set Q0 G l q) (hg:∀ x∈af,x.Box∈set→(G x ↔ G' x)):InI s boxes af set Q0 G' l q:=
 ⟨h.way,fun x hx hm=>by rw [h.come x hx hm,hg x hx hm],h.nod,fun id=>by
  rw [h.mem]
  refine and_congr_right fun _=>not_congr ⟨?_,?_⟩
  ·rintro⟨x,hx,e,hm,hG⟩
   exact⟨x,hx,e,hm,(hg x hx hm).1 hG⟩
  ·rintro⟨x,hx,e,hm,hG⟩
   exact⟨x,hx,e,hm,(hg x hx hm).2 hG⟩,h.len⟩
theorem Rd5 (h:G26 s boxes bf af set) (hO:G96 s o) (hF:20≤F) {Q0:Int→Prop} (hQ:∀ x∈af,x.Box∈set→Q0 x.Box) {G:G1→Prop} (hI:InI s boxes af set Q0 G l q) (xs:List G1) (h2:xs.Nodup)
  (hb:∀ x∈xs,x∈af∧x.Box∈set∧¬ G x) (h4:∀ pre x post,xs=pre++x::post→∀ z∈af,z.Box∈set→z.Slot.G3=x.Slot.G3→z.Slot.Tier < x.Slot.Tier→G z∨z∈pre) (hs:∀ x∈xs,¬ J20 s o x.Slot) :
  ∃ l' q',G02 F s boxes (xs.map (mvS 3)) (l,o,q)=some (l',o,q')∧InI s boxes af set Q0 (fun x=>G x∨x∈xs) l' q':=by
 refine Exists.elim (Jce (F:=F) (s:=s) (boxes:=boxes) (f:=mvS 3) (fun pre st=>st.2.1=o∧InI s boxes af set Q0 (fun x=>G x∨x∈pre) st.1 st.2.2) (xs:=xs) (st:=(l,o,q)) ⟨rfl,hI.congr (fun x _ _=>by simp)⟩ (fun pre x post st e hJ=>?_)) (fun st' h6=>?_)
 rotate_left
 ·obtain⟨e,e2,hr⟩:=h6
  refine⟨st'.1,st'.2.2,?_,hr⟩
  rw [e,← e2]
 ·obtain⟨st1,st2,st3⟩:=st
  obtain⟨j1,j2⟩:=hJ
  have j1:st2=o:=j1
  subst j1
  have j2:InI s boxes af set Q0 (fun x=>G x∨x∈pre) st1 st3:=j2
  have hx:x∈xs:=by rw [e]; simp
  obtain⟨b1,b2,b3⟩:=hb x hx
  have h3:x ∉ pre:=fun hm=>by
   rw [e,List.nodup_append] at h2
   exact h2.2.2 x hm x (by simp) rfl
  have h8:x ∉ st1:=fun hm=>((j2.come x b1 b2).1 hm).elim b3 h3
  have h9:x.Box∈st3:=(j2.mem x.Box).2 ⟨hQ x b1 b2,fun⟨y,hy,ey,h0,hG⟩=>by
   have:=Hbb h.aft.sorted hy b1 ey
   subst this
   exact hG.elim b3 h3⟩
  obtain⟨hc,es,h7,hw⟩:=j2.way.can h b1 h8 (hs x hx) (fun z hz a0 a1=>by
   by_cases h1:z.Box∈set
   ·exact(j2.come z hz h1).2 (h4 pre x post e z hz h1 a0 a1)
   ·exact j2.way.keep z hz h1) h9
  refine⟨hc,?_⟩
  rw [es]
  have a2:(H92 x.Box st3).length≤100:=Nat.le_trans (Ky _ _) j2.len
  refine⟨rfl,⟨hw,fun y hy hm=>?_,j2.nod.sublist List.filter_sublist,fun id=>?_,a2⟩⟩
  ·show y∈H2e x st1 ↔ (G y∨y∈pre++[x])
   rw [(G3f h7).mem_iff,Mq,j2.come y hy hm,Mn,Mp]
   constructor
   ·rintro(h | h | h)
    ·exact .inr (.inr h)
    ·exact .inl h
    ·exact .inr (.inl h)
   ·rintro(h | h | h)
    ·exact .inr (.inl h)
    ·exact .inr (.inr h)
    ·exact .inl h
  ·show id∈H92 x.Box st3 ↔ _
   rw [G3e,j2.mem]
   constructor
   ·rintro⟨⟨g1,g2⟩,g3⟩
    refine⟨g1,fun⟨y,hy,ey,h0,hG⟩=>?_⟩
    rcases hG with hG | hG
    ·exact g2 ⟨y,hy,ey,h0,.inl hG⟩
    ·rcases Mn.1 hG with hG | hG
     ·exact g2 ⟨y,hy,ey,h0,.inr hG⟩
     ·rw [Mp] at hG; subst hG; exact g3 ey.symm
   ·rintro⟨g1,g2⟩
    exact⟨⟨g1,fun⟨y,hy,ey,h0,hG⟩=>g2 ⟨y,hy,ey,h0,hG.elim .inl (fun h5=>.inr (Mn.2 (.inl h5)))⟩⟩,fun e2=>g2 ⟨x,b1,e2.symm,b2,.inr (by simp)⟩⟩
end
section
variable {F:Nat} {s:Gi} {boxes:List Box} {l bf af:List G1} {o q q0 set:List Int}
def Z1 (s:Gi) (x:G1):Int:=(Za s x.Slot).Bay
def Jf9 (s:Gi) (bf af:List G1) (set:List Int) (P:Int→Prop) (a:Int):Prop:=0≤a∧∃ x,(x∈bf∨x∈af)∧x.Box∈set∧(Za s x.Slot).Deck=false∧Gf9 s x=a∧P (Z1 s x)
theorem J74 {c:G3} {k:Nat} (h:Jv s c=(k:Int)):k < s.Covers.length∧∃ x,s.Covers[k]? = some x∧x.Bay=c.Bay:=by
 unfold Jv at h
 rcases Geb (fun x=>Ha7 x c) s.Covers with ⟨h1,_⟩ | ⟨m,x,h1,h2,h3,_⟩
 ·rw [h1] at h; omega
 ·have:m=k:=by omega
  subst this
  have h3:Ha7 x c=true:=h3
  unfold Ha7 at h3
  rw [Mj] at h3
  exact⟨(M5 h2).1,x,h2,M1 h3.1⟩
theorem Je2 {c d:G3} (h0:0≤Jv s c) (h:Jv s c=Jv s d):c.Bay=d.Bay:=by
 obtain⟨k,hk⟩:∃ k:Nat,Jv s c=(k:Int):=⟨(Jv s c).toNat,by omega⟩
 obtain⟨_,x,hx,e1⟩:=J74 hk
 obtain⟨_,y,hy,e2⟩:=J74 (h ▸ hk)
 rw [hx] at hy; cases hy
 exact e1.symm.trans e2
theorem Jd9 {l:List G1} {n:Int} {d:Bool} {x:G1}:x∈Yz s l set n d ↔ x∈l∧Z1 s x=n∧(Za s x.Slot).Deck=d∧x.Box∈set:=by
 rw [Gf5,H30]
 rfl
theorem J46 {n a:Int}:a∈G0a s bf af set n ↔ Jf9 s bf af set (·=n) a:=by
 rw [J44]
 unfold Jf9
 refine and_congr_right fun _=>⟨?_,?_⟩
 ·rintro⟨x,hx,hp,e⟩
  obtain⟨h1,h2,h3⟩:=H30.1 hp
  exact⟨x,hx,h3,h2,e,h1⟩
 ·rintro⟨x,hx,h3,h2,e,h1⟩
  exact⟨x,hx,H30.2 ⟨h1,h2,h3⟩,e⟩
theorem Je4 {x y:Slot} (e:y.G3=x.G3):Za s y=Za s x:=by
 unfold Za
 rw [e]
theorem Z0f {x:Slot} (h:G2e s x):∃ m:Nat,x.G3=(m:Int)∧s.Columns[m]? = some (Za s x):=by
 obtain⟨m,c,h1,h2⟩:=h
 exact⟨m,h1,by rw [H10 h1 h2]; exact h2⟩
theorem G26.col1 (h:G26 s boxes bf af set) {x:G1} (hx:x∈bf):∃ m:Nat,x.Slot.G3=(m:Int)∧s.Columns[m]? = some (Za s x.Slot):=by
 obtain⟨b,_,h1,_⟩:=h.bef.each x hx
 exact Z0f (Ge8 h1)
theorem G26.col2 (h:G26 s boxes bf af set) {x:G1} (hx:x∈af):∃ m:Nat,x.Slot.G3=(m:Int)∧s.Columns[m]? = some (Za s x.Slot):=by
 obtain⟨b,_,h1,_⟩:=h.aft.each x hx
 exact Z0f (Ge8 h1)
theorem G26.bays (h:G26 s boxes bf af set) {x:G1} (hx:x∈bf∨x∈af):0≤Z1 s x∧Z1 s x < 40:=by
 have hc:∃ m:Nat,x.Slot.G3=(m:Int)∧s.Columns[m]? = some (Za s x.Slot):=hx.elim h.col1 h.col2
 obtain⟨m,_,hc⟩:=hc
 obtain⟨c0,hh,h0,_,e⟩:=h.ship.each _ (M8 hc)
 unfold Z1
 have:=h0.bay
 rw [e]
 show 0≤c0.Bay∧c0.Bay < 40
 omega
theorem R4e {D pre post:List G1} {x y:G1} (hD:D.Pairwise (Q66 J80)) (e:D=pre++x::post) (hy:y∈D) (ht:x.Slot.Tier < y.Slot.Tier):y∈pre:=by
 rw [e] at hy hD
 rcases Mn.1 hy with hy | hy
 ·exact hy
 ·rcases Mq.1 hy with rfl | hy
  ·omega
  ·have:=(List.pairwise_cons.1 (List.pairwise_append.1 hD).2.1).1 y hy
   unfold Q66 J80 at this
   rw [H45] at this
   exact(this ht).elim
theorem R48 {D pre post:List G1} {x y:G1} (hD:D.Pairwise (Q66 Rc7)) (e:D=pre++x::post) (hy:y∈D) (ht:y.Slot.Tier < x.Slot.Tier):y∈pre:=by
 rw [e] at hy hD
 rcases Mn.1 hy with hy | hy
 ·exact hy
 ·rcases Mq.1 hy with rfl | hy
  ·omega
  ·have:=(List.pairwise_cons.1 (List.pairwise_append.1 hD).2.1).1 y hy
   unfold Q66 at this
   rw [J64] at this
   exact(this (.inl ht)).elim
theorem Jad {l:List G1} (hs:l.Pairwise (fun a b=>a.Box < b.Box)) {n:Int} {d:Bool}:(Yz s l set n d).Nodup:=by
 unfold Yz
 exact(G8a _ _).nodup_iff.2 ((G67 hs).sublist List.filter_sublist)
theorem Q4d {l:List G1} {n:Int} {d:Bool}:(Yz s l set n d).Pairwise (Q66 Rc7):=H52 Y46 _
theorem Z49 (h:G26 s boxes bf af set) (hO:G96 s o) (hF:20≤F) (a1:q0.length≤20) (hd:∀ id∈q0,id ∉ bf.map (·.Box)) {n:Nat} (hI:R12 s boxes bf set q0 (fun x=>Z1 s x < (n:Int)) l q) (hc:∀ a,a∈o ↔ Jf9 s bf af set (· < (n:Int)) a) :
  ∃ l' o' q',G02 F s boxes (Hca s bf af set (n:Int)) (l,o,q)=some (l',o',q')∧G96 s o'∧R12 s boxes bf set q0 (fun x=>Z1 s x < ((n+1:Nat):Int)) l' q'∧∀ a,a∈o' ↔ Jf9 s bf af set (· < ((n+1:Nat):Int)) a:=by
 have over_bay:∀ {d:Bool} {x y:G1},x∈bf→y∈bf→x.Box∈set→Z1 s x=(n:Int)→(Za s x.Slot).Deck=d→H58 y.Slot x.Slot→y∈Yz s bf set (n:Int) d:=fun {d x y} hx hy hm hb a4 ho=>Jd9.2 ⟨hy,by unfold Z1 at hb ⊢; rw [Je4 ho.1]; exact hb,by rw [Je4 ho.1]; exact a4,h.over hx hy hm ho⟩
 have mD:∀ {d:Bool} {x:G1},x∈H62 J80 (Yz s bf set (n:Int) d) ↔ x∈bf∧Z1 s x=(n:Int)∧(Za s x.Slot).Deck=d∧x.Box∈set:=fun {d x}=>by rw [H53,Jd9]
 have nD:∀ d:Bool,(H62 J80 (Yz s bf set (n:Int) d)).Nodup:=fun d=>(G8a _ _).nodup_iff.2 (Jad h.bef.sorted)
 -- the deck
 obtain⟨l1,q1,r1,i1⟩:=R2e (F:=F) h hO a1 hd hI (H62 J80 (Yz s bf set (n:Int) true)) (nD true) (fun x hx=>by
  obtain⟨a,b,c,d⟩:=mD.1 hx
  exact⟨a,d,by show ¬ Z1 s x < (n:Int); omega⟩) (fun pre x post e y hy h7 ho=>by
  obtain⟨a,b,c,d⟩:=mD.1 (show x∈H62 J80 (Yz s bf set (n:Int) true) by rw [e]; simp)
  exact .inr (R4e (H52 Qe8 _) e (H53.2 (over_bay a hy d b c ho)) ho.2.1)) (fun x hx=>by
  obtain⟨a,b,c,d⟩:=mD.1 hx
  rintro⟨m,c',e1,e2,e3,_⟩
  rw [H10 e1 e2,e3] at c
  cases c)
 -- the covers
 obtain⟨o2,r2,a2,a3⟩:=Y49 (F:=F) (q:=q1) i1.way.sta hO hF (G0a s bf af set (n:Int)) Hcc (fun k hk=>by
  obtain⟨k0,x,hx,h8,a5,a6,h9⟩:=J46.1 hk
  obtain⟨j,rfl⟩:∃ j:Nat,k=(j:Int):=⟨k.toNat,by omega⟩
  obtain⟨m,em,ec⟩:∃ m:Nat,x.Slot.G3=(m:Int)∧s.Columns[m]? = some (Za s x.Slot):=hx.elim h.col1 h.col2
  have a7:Jv s (Za s x.Slot)=(j:Int):=a6
  obtain⟨a8,cv,b0,b1⟩:=J74 a7
  refine⟨j,rfl,a8,fun y hy m1 c1 e1 e2 e3 e4=>?_,fun a9=>?_⟩
  ·have h0:=i1.way.sub y hy
   have h7:=h.upon hx (.inl h0) h8 ⟨m,_,m1,c1,em,ec,e1,e2,a5,e3,by omega,by omega⟩
   have h6:=H10 e1 e2
   refine(i1.gone y h0 h7).1 hy (.inr (mD.2 ⟨h0,?_,by rw [h6]; exact e3,h7⟩))
   unfold Z1 at h9 ⊢
   rw [h6,← h9]
   exact(Je2 (s:=s) (c:=Za s x.Slot) (d:=c1) (by omega) (by omega)).symm
  ·obtain⟨_,y,_,_,_,h6,h0⟩:=(hc _).1 a9
   have h6:Jv s (Za s y.Slot)=(j:Int):=h6
   have:=Je2 (s:=s) (c:=Za s x.Slot) (d:=Za s y.Slot) (by omega) (by omega)
   unfold Z1 at h9 h0
   omega)
 -- the hold
 obtain⟨l3,q3,r3,i3⟩:=R2e (F:=F) h a2 a1 hd i1 (H62 J80 (Yz s bf set (n:Int) false)) (nD false) (fun x hx=>by
  obtain⟨a,b,c,d⟩:=mD.1 hx
  refine⟨a,d,fun hh=>hh.elim (fun h=>by have h:Z1 s x < (n:Int):=h; omega) (fun h=>?_)⟩
  rw [(mD.1 h).2.2.1] at c
  cases c) (fun pre x post e y hy h7 ho=>by
  obtain⟨a,b,c,d⟩:=mD.1 (show x∈H62 J80 (Yz s bf set (n:Int) false) by rw [e]; simp)
  exact .inr (R4e (H52 Qe8 _) e (H53.2 (over_bay a hy d b c ho)) ho.2.1)) (fun x hx=>by
  obtain⟨a,b,c,d⟩:=mD.1 hx
  rintro⟨m,c',e1,e2,e3,e4,e5⟩
  exact e5 ((a3 _).2 (.inr (J46.2 ⟨e4,x,.inl a,d,c,by unfold Gf9; rw [H10 e1 e2],b⟩))))
 refine⟨l3,o2,q3,?_,a2,i3.congr (fun x hx h8=>?_),fun a=>?_⟩
 ·unfold Hca
  exact G1d _ _ _ _ _ (G1d _ _ _ _ _ r1 r2) r3
 ·rw [mD,mD]
  constructor
  ·rintro((h | h) | h)
   ·omega
   ·omega
   ·omega
  ·intro hh
   by_cases hb:Z1 s x < (n:Int)
   ·exact .inl (.inl hb)
   ·cases b2:(Za s x.Slot).Deck with
    | true=>exact .inl (.inr ⟨hx,by omega,rfl,h8⟩)
    | false=>exact .inr ⟨hx,by omega,rfl,h8⟩
 ·rw [a3,hc,J46]
  constructor
  ·rintro(⟨a0,x,h1,h2,h3,h4,h5⟩ | ⟨a0,x,h1,h2,h3,h4,h5⟩)
   ·exact⟨a0,x,h1,h2,h3,h4,by omega⟩
   ·exact⟨a0,x,h1,h2,h3,h4,by omega⟩
  ·rintro⟨a0,x,h1,h2,h3,h4,h5⟩
   by_cases hb:Z1 s x < (n:Int)
   ·exact .inl ⟨a0,x,h1,h2,h3,h4,hb⟩
   ·exact .inr ⟨a0,x,h1,h2,h3,h4,by omega⟩
theorem Z9b (h:G26 s boxes bf af set) (hO:G96 s o) (hF:20≤F) {Q0:Int→Prop} (hQ:∀ x∈af,x.Box∈set→Q0 x.Box) {n:Nat} (hI:InI s boxes af set Q0 (fun x=>Z1 s x < (n:Int)) l q) (hc:∀ a,a∈o ↔ Jf9 s bf af set ((n:Int)≤·) a) :
  ∃ l' o' q',G02 F s boxes (J8d s bf af set (n:Int)) (l,o,q)=some (l',o',q')∧G96 s o'∧InI s boxes af set Q0 (fun x=>Z1 s x < ((n+1:Nat):Int)) l' q'∧∀ a,a∈o' ↔ Jf9 s bf af set (((n+1:Nat):Int)≤·) a:=by
 have mD:∀ {d:Bool} {x:G1},x∈Yz s af set (n:Int) d ↔ x∈af∧Z1 s x=(n:Int)∧(Za s x.Slot).Deck=d∧x.Box∈set:=Jd9
 have same_bay:∀ {d:Bool} {x z:G1},x∈Yz s af set (n:Int) d→z∈af→z.Box∈set→z.Slot.G3=x.Slot.G3→z∈Yz s af set (n:Int) d:=fun {d x z} hx hz h6 e=>by
  obtain⟨a,b,c,d'⟩:=mD.1 hx
  exact mD.2 ⟨hz,by unfold Z1 at b ⊢; rw [Je4 e]; exact b,by rw [Je4 e]; exact c,h6⟩
 -- the hold
 obtain⟨l1,q1,r1,i1⟩:=Rd5 (F:=F) h hO hF hQ hI (Yz s af set (n:Int) false) (Jad h.aft.sorted) (fun x hx=>by
  obtain⟨a,b,c,d⟩:=mD.1 hx
  exact⟨a,d,by show ¬ Z1 s x < (n:Int); omega⟩) (fun pre x post e z hz h6 a1 a2=>.inr (R48 Q4d e (same_bay (by rw [e]; simp) hz h6 a1) a2)) (fun x hx=>by
  obtain⟨a,b,c,d⟩:=mD.1 hx
  rintro⟨m,c',e1,e2,e3,e4⟩
  have h7:=H10 e1 e2
  have a6:Jv s c'∈o:=(hc _).2 ⟨e3,x,.inr a,d,c,by unfold Gf9; rw [h7],by show (n:Int)≤Z1 s x; omega⟩
  rw [h7,e4.2 a6] at c
  cases c)
 -- the covers
 obtain⟨o2,r2,a3,a7⟩:=Re1 (F:=F) (q:=q1) i1.way.sta hO hF (G0a s bf af set (n:Int)) Hcc (fun k hk=>by
  obtain⟨k0,x,hx,h8,a8,a4,b0⟩:=J46.1 hk
  obtain⟨j,rfl⟩:∃ j:Nat,k=(j:Int):=⟨k.toNat,by omega⟩
  have a9:Jv s (Za s x.Slot)=(j:Int):=a4
  exact⟨j,rfl,(J74 a9).1,(hc _).2 ⟨k0,x,hx,h8,a8,a4,by show (n:Int)≤Z1 s x; omega⟩⟩)
 have a5:∀ a,a∈o2 ↔ Jf9 s bf af set (((n+1:Nat):Int)≤·) a:=fun a=>by
  rw [a7,hc,J46]
  constructor
  ·rintro⟨⟨a0,x,h1,h2,h3,h4,h5⟩,hn⟩
   have h5:(n:Int)≤Z1 s x:=h5
   refine⟨a0,x,h1,h2,h3,h4,?_⟩
   show ((n+1:Nat):Int)≤Z1 s x
   have:Z1 s x≠(n:Int):=fun e=>hn ⟨a0,x,h1,h2,h3,h4,e⟩
   omega
  ·rintro⟨a0,x,h1,h2,h3,h4,h5⟩
   have h5:((n+1:Nat):Int)≤Z1 s x:=h5
   refine⟨⟨a0,x,h1,h2,h3,h4,by show (n:Int)≤Z1 s x; omega⟩,fun⟨_,y,_,_,_,h9,h0⟩=>?_⟩
   have h0:Z1 s y=(n:Int):=h0
   unfold Gf9 at h4 h9
   have:=Je2 (s:=s) (c:=Za s x.Slot) (d:=Za s y.Slot) (by omega) (by omega)
   unfold Z1 at h5 h0
   omega
 -- the deck
 obtain⟨l3,q3,r3,i3⟩:=Rd5 (F:=F) h a3 hF hQ i1 (Yz s af set (n:Int) true) (Jad h.aft.sorted) (fun x hx=>by
  obtain⟨a,b,c,d⟩:=mD.1 hx
  refine⟨a,d,fun hh=>hh.elim (fun h=>by have h:Z1 s x < (n:Int):=h; omega) (fun h=>?_)⟩
  rw [(mD.1 h).2.2.1] at c
  cases c) (fun pre x post e z hz h6 a1 a2=>.inr (R48 Q4d e (same_bay (by rw [e]; simp) hz h6 a1) a2)) (fun x hx=>by
  obtain⟨a,b,c,d⟩:=mD.1 hx
  rintro⟨m,c',e1,e2,e3,e4⟩
  have h7:=H10 e1 e2
  rw [h7] at c
  obtain⟨_,y,_,_,_,h9,h0⟩:=(a5 _).1 (e4.1 c)
  have h0:((n+1:Nat):Int)≤Z1 s y:=h0
  unfold Gf9 at h9
  have:=Je2 (s:=s) (c:=c') (d:=Za s y.Slot) e3 h9.symm
  unfold Z1 at b h0
  rw [h7] at b
  omega)
 refine⟨l3,o2,q3,?_,a3,i3.congr (fun x hx h8=>?_),a5⟩
 ·unfold J8d
  exact G1d _ _ _ _ _ (G1d _ _ _ _ _ r1 r2) r3
 ·rw [mD,mD]
  constructor
  ·rintro((h | h) | h)
   ·omega
   ·omega
   ·omega
  ·intro hh
   by_cases hb:Z1 s x < (n:Int)
   ·exact .inl (.inl hb)
   ·cases b1:(Za s x.Slot).Deck with
    | true=>exact .inr ⟨hx,by omega,rfl,h8⟩
    | false=>exact .inl (.inr ⟨hx,by omega,rfl,h8⟩)
theorem Yb3 (h:G26 s boxes bf af set) (hF:20≤F) (h8:q0.length≤20) (h9:q0.Nodup) (hd:∀ id∈q0,id ∉ bf.map (·.Box)) (a1:∀ x∈af,x.Box ∉ bf.map (·.Box)→x.Box∈q0) :
  ∃ q',G02 F s boxes (G66 s bf af set) (bf,[],q0)=some (af,[],q')∧q'.Nodup∧∀ id,id∈q' ↔ (id∈q0∨∃ x∈bf,x.Box=id∧x.Box∈set)∧¬ ∃ x∈af,x.Box=id∧x.Box∈set:=by
 have a3:=h.lb
 have outN:∀ n:Nat,∃ l' o' q',G02 F s boxes (outs s bf af set n) (bf,[],q0)=some (l',o',q')∧G96 s o'∧R12 s boxes bf set q0 (fun x=>Z1 s x < (n:Int)) l' q'∧∀ a,a∈o' ↔ Jf9 s bf af set (· < (n:Int)) a:=by
  intro n
  induction n with
  | zero=>
   refine⟨bf,[],q0,rfl,R2f,⟨h.start,fun x hx hm=>⟨fun _ hh=>?_,fun _=>hx⟩,h9,fun id=>⟨.inl,fun hh=>hh.elim _root_.id fun⟨x,hx,_,_,hG⟩=>?_⟩,by omega⟩,fun a=>⟨fun hh=>(M9 hh).elim,fun⟨_,x,hx,_,_,_,hG⟩=>?_⟩⟩
   ·have hh:Z1 s x < 0:=hh
    have:=(h.bays (.inl hx)).1; omega
   ·have hG:Z1 s x < 0:=hG
    have:=(h.bays (.inl hx)).1; omega
   ·have hG:Z1 s x < 0:=hG
    have:=(h.bays hx).1; omega
  | succ n ih=>
   obtain⟨l1,o1,q1,r1,h7,i1,c1⟩:=ih
   obtain⟨l2,o2,q2,r2,h5,i2,c2⟩:=Z49 (F:=F) h h7 hF h8 hd i1 c1
   exact⟨l2,o2,q2,by rw [J66]; exact G1d _ _ _ _ _ r1 r2,h5,i2,c2⟩
 obtain⟨l1,o1,q1,r1,h7,i1,c1⟩:=outN 40
 have h6:∀ x∈l1,x.Box ∉ set:=fun x hx hm=>(i1.gone x (i1.way.sub x hx) hm).1 hx (h.bays (.inl (i1.way.sub x hx))).2
 have h0:∀ id,id∈q1 ↔ id∈q0∨∃ x∈bf,x.Box=id∧x.Box∈set:=fun id=>by
  rw [i1.mem]
  refine or_congr_right ⟨fun⟨x,hx,e,hm,_⟩=>⟨x,hx,e,hm⟩,fun⟨x,hx,e,hm⟩=>⟨x,hx,e,hm,(h.bays (.inl hx)).2⟩⟩
 have a4:=i1.len
 have inN:∀ n:Nat,∃ l' o' q',G02 F s boxes (ins s bf af set n) (l1,o1,q1)=some (l',o',q')∧G96 s o'∧InI s boxes af set (·∈q1) (fun x=>Z1 s x < (n:Int)) l' q'∧∀ a,a∈o' ↔ Jf9 s bf af set ((n:Int)≤·) a:=by
  intro n
  induction n with
  | zero=>
   have none:∀ x∈af,¬ Z1 s x < ((0:Nat):Int):=fun x hx=>by have:=(h.bays (.inr hx)).1; omega
   refine⟨l1,o1,q1,rfl,h7,⟨i1.way.turn h h6,fun x hx hm=>⟨fun hh=>(h6 x hh hm).elim,fun hh=>(none x hx hh).elim⟩,i1.nod,fun id=>⟨fun hh=>⟨hh,fun⟨x,hx,_,_,hG⟩=>none x hx hG⟩,fun hh=>hh.1⟩,by omega⟩,fun a=>?_⟩
   rw [c1]
   constructor
   ·rintro⟨a0,x,h1,h2,h3,h4,_⟩
    exact⟨a0,x,h1,h2,h3,h4,(h.bays h1).1⟩
   ·rintro⟨a0,x,h1,h2,h3,h4,_⟩
    exact⟨a0,x,h1,h2,h3,h4,(h.bays h1).2⟩
  | succ n ih=>
   obtain⟨l2,o2,q2,r2,h5,i2,c2⟩:=ih
   obtain⟨l3,o3,q3,r3,a2,i3,c3⟩:=Z9b (F:=F) h h5 hF (fun x hx hm=>by
    by_cases hb:x.Box∈bf.map (·.Box)
    ·obtain⟨y,hy,e⟩:=Mo.1 hb
     exact(h0 _).2 (.inr ⟨y,hy,e,by rw [show y.Box=x.Box from e]; exact hm⟩)
    ·exact(h0 _).2 (.inl (a1 x hx hb))) i2 c2
   exact⟨l3,o3,q3,by rw [Jde]; exact G1d _ _ _ _ _ r2 r3,a2,i3,c3⟩
 obtain⟨l2,o2,q2,r2,h5,i2,c2⟩:=inN 40
 have hl:l2=af:=i2.way.done h (fun x hx hm=>(i2.come x hx hm).2 (h.bays (.inr hx)).2)
 have ho:o2=[]:=List.eq_nil_iff_forall_not_mem.2 fun a ha=>by
  obtain⟨_,x,hx,_,_,_,hb⟩:=(c2 a).1 ha
  have hb:((40:Nat):Int)≤Z1 s x:=hb
  have:=(h.bays hx).2
  omega
 subst hl ho
 refine⟨q2,?_,i2.nod,fun id=>?_⟩
 ·unfold G66
  exact G1d _ _ _ _ _ r1 r2
 ·rw [i2.mem,h0]
  refine and_congr_right fun _=>not_congr ⟨fun⟨x,hx,e,hm,_⟩=>⟨x,hx,e,hm⟩,fun⟨x,hx,e,hm⟩=>⟨x,hx,e,hm,(h.bays (.inr hx)).2⟩⟩
end
theorem R46 {s:Gi} (h:G76 s):H74 s:=⟨h.covs.len,fun x hx=>by
 rcases (h.covs.each x hx).rows with e | e <;> rw [e] <;> simp⟩
theorem H46.colIn {s:Gi} {boxes:List Box} {l:List G1} (h:R6 s boxes l):∀ x∈l,G2e s x.Slot:=fun x hx=>by
 obtain⟨b,_,hb,_⟩:=h.each x hx
 exact Ge8 hb
theorem Z5e {F:Nat} {s:Gi} {boxes:List Box} {bf af:List G1} {lf:List Int} (hF:60≤F) (hs:H74 s) (h1:R6 s boxes bf) (h2:R6 s boxes af) (l1:bf.length≤10) (l2:af.length≤10)
  (hL:Yo F s boxes bf af=some (lf,0)):G75 F s boxes bf af=some (G66 s bf af lf,0):=by
 refine G34 ?_
 unfold G75
 refine Gt hL ?_
 simp only [ne_eq,not_true_eq_false,decide_false,cond_false]
 exact Gt (Z5f hF hs (H46.colIn h1) (H46.colIn h2) (by omega) (by omega)) (Gp rfl)
def J8f (l:List (List G1)):List G1:=l.getLast?.getD []
theorem Z16 {s:Gi} {boxes:List Box} {calls:Int} {p:J13} (h:Q1d s boxes calls p) (hb:boxes.length≤10) (k:Nat):R6 s boxes (J8f (p.States.take k))∧(J8f (p.States.take k)).length≤10:=by
 unfold J8f
 cases hg:(p.States.take k).getLast? with
 | none=>exact⟨Jac,by simp⟩
 | some st=>
  have hm:=List.mem_of_mem_take (List.mem_of_getLast? hg)
  obtain⟨j,hj⟩:=List.mem_iff_getElem?.1 hm
  have:=h.each j st hj
  exact⟨this.right,Nat.le_trans this.len hb⟩
section
variable {α:Type} {f:α→Int}
end
section
variable {κ ν:Type} [DecidableEq κ]
end
theorem Z60:Zf=some true:=by kernel_rfl
def G8f:List Move→Int
 | []=>0
 | x::r=>G64 x+G8f r
theorem Rd2 (x:Move):0≤G64 x∧G64 x≤1:=by unfold G64; split <;> omega
theorem Q12:∀ l:List Move,0≤G8f l∧G8f l≤(l.length:Int)
 | []=>⟨Int.le_refl _,Int.le_refl _⟩
 | x::r=>by
  have h1:=Q12 r
  have h2:=Rd2 x
  show 0≤G64 x+G8f r∧G64 x+G8f r≤_
  rw [Md]; omega
theorem Hb9 (x:Move):∀ l:List Move,G8f (l++[x])=G8f l+G64 x
 | []=>by show G64 x+0=0+G64 x; omega
 | y::r=>by
  show G64 y+G8f (r++[x])=G64 y+G8f r+G64 x
  rw [Hb9 x r]; omega
section
variable {s:Gi} {boxes:List Box}
theorem Qbd {F G:Nat}:∀ (ms:List Move) (st:St3),G02 F s boxes ms st=G02 G s boxes ms st
 | [],_=>rfl
 | m::r,st=>by
  rw [G02,G02]
  by_cases h:Can s boxes (J01 st) m
  ·rw [if_pos h,if_pos h]; exact Qbd r _
  ·rw [if_neg h,if_neg h]
end
def Rcc (bf:List G1) (x:G1):Bool:=!(bf.any fun z=>decide (z.Box=x.Box))
def G50 (af bf:List G1):List Int:=(af.filter (Rcc bf)).map (·.Box)
theorem R37 {bf:List G1} {x:G1}:Rcc bf x=true ↔ x.Box ∉ bf.map (·.Box):=by
 unfold Rcc
 rw [Bool.not_eq_true',← Bool.not_eq_true,List.any_eq_true,Mo]
 exact not_congr ⟨fun⟨y,hy,e⟩=>⟨y,hy,M1 e⟩,fun⟨y,hy,e⟩=>⟨y,hy,M3 e⟩⟩
theorem H0d {af bf:List G1} {i:Int}:i∈G50 af bf ↔ (∃ x∈af,x.Box=i)∧i ∉ bf.map (·.Box):=by
 unfold G50
 rw [Mo]
 constructor
 ·rintro⟨x,hx,rfl⟩
  exact⟨⟨x,(Mr.1 hx).1,rfl⟩,R37.1 (Mr.1 hx).2⟩
 ·rintro⟨⟨x,hx,rfl⟩,h⟩
  exact⟨x,Mr.2 ⟨hx,R37.2 h⟩,rfl⟩
theorem Qcb {af bf:List G1} (h:af.Pairwise (fun a b=>a.Box < b.Box)):(G50 af bf).Pairwise (· < ·):=List.pairwise_map.2 (h.filter _)
theorem Je3 {l:List G1} {f:G1→Option Bool} {p:G1→Bool} (h:∀ x∈l,f x=some (p x)):Hw l f=some (l.any p):=by
 have e:Qa l f=some (J2b p l):=H55 h
 unfold Hw
 exact G34 (Gt e (Gp (by show decide (0≤J2b p l)=_; rw [Gf8])))
theorem Yb7 {af bf:List G1} (hl:af.length≤1000):Qy af bf=some (G50 af bf):=by
 refine G34 ?_
 unfold Qy
 refine Jj (fun pre r=>r=G50 pre bf) rfl (fun pre y post r nx e hI h0=>?_) (fun r hI=>Gp hI)
 subst hI
 have hp:pre.length+1≤af.length:=by rw [e]; simp
 have h1:(G50 pre bf).length≤pre.length:=by unfold G50; rw [Mm]; exact Ky _ _
 refine Zr (fun j=>j=G50 (pre++[y]) bf) (fun K hK=>?_) (fun j hj=>h0 _ hj)
 refine Gt (Je3 (p:=fun z=>decide (z.Box=y.Box)) (fun x hx=>rfl)) (Hv (fun h=>Rx (G08 (by rw [Mi]; omega) (by omega)) (hK _ ?_)) (fun h=>hK _ ?_))
 ·have h:Rcc bf y=true:=h
  unfold G50
  rw [List.filter_append,List.map_append,List.filter_cons,if_pos h]; rfl
 ·have h:Rcc bf y=false:=h
  unfold G50
  rw [List.filter_append,List.map_append,List.filter_cons,if_neg (by rw [h]; decide)]; simp
structure Zee (F:Nat) (s:Gi) (boxes:List Box) (bf af:List G1) (lf:List Int):Prop where
 C:G26 s boxes bf af lf
 asc:lf.Pairwise (· < ·)
 bnd:∀ a∈lf,a∈bf.map (·.Box)++af.map (·.Box)
 lift:Yo F s boxes bf af=some (lf,0)
 call:G75 F s boxes bf af=some (G66 s bf af lf,0)
 good:Good s boxes ⟨bf,[],G50 af bf⟩
 good2:Good s boxes ⟨af,[],G50 bf af⟩
 run:G02 0 s boxes (G66 s bf af lf) (bf,[],G50 af bf)=some (af,[],G50 bf af)
section
variable {s:Gi} {boxes:List Box} {bf af:List G1} {lf:List Int}
theorem Z00 (hb:boxes.length≤10) (h1:R6 s boxes bf) (h2:R6 s boxes af):bf.length+(G50 af bf).length≤10:=by
 have hn:(bf.map (·.Box)++G50 af bf).Nodup:=List.nodup_append.2 ⟨H4f h1.sorted,Ro (Qcb h2.sorted),fun a ha b hb e=>by
  subst e
  exact(H0d.1 hb).2 ha⟩
 have:=hn.length_le_of_subset (l₂:=boxes.map (·.ID)) (fun a ha=>by
  have key:∀ {l:List G1},R6 s boxes l→∀ x∈l,x.Box∈boxes.map (·.ID):=fun {l} h x hx=>by
   obtain⟨b,hb,_⟩:=h.each x hx
   exact Mo.2 ⟨b,Z56 hb,G95 hb⟩
  rcases Mn.1 ha with ha | ha
  ·obtain⟨x,hx,rfl⟩:=Mo.1 ha
   exact key h1 x hx
  ·obtain⟨⟨x,hx,rfl⟩,_⟩:=H0d.1 ha
   exact key h2 x hx)
 simp only [Mh,Mm] at this
 omega
theorem Q0f (hL:J93 s) (hb:boxes.length≤10) (h1:R6 s boxes bf) (h2:R6 s boxes af):Good s boxes ⟨bf,[],G50 af bf⟩:=by
 refine⟨hL,h1,R2f,fun k hk=>(M9 hk).elim,fun i hi=>?_,Qcb h2.sorted,fun i hi=>(H0d.1 hi).2,Z00 hb h1 h2⟩
 obtain⟨⟨x,hx,rfl⟩,_⟩:=H0d.1 hi
 obtain⟨b,g1,g2,_⟩:=h2.each x hx
 exact⟨b,g1,Y73 g2⟩
theorem Rd9 {F:Nat}:∀ (ms:List Move) (t:St) (st':St3),Good s boxes t→G02 F s boxes ms (J2a t)=some st'→Good s boxes (J01 st')
 | [],t,st',hG,h=>by cases h; exact hG
 | m::r,t,st',hG,h=>by
  obtain⟨hc,h⟩:=G71.1 h
  exact Rd9 r (nxt t m) st' ((show Can s boxes t m from hc).step hG) h
theorem Z13 {F:Nat} (hC:G26 s boxes bf af lf) (hb:boxes.length≤10):G02 F s boxes (G66 s bf af lf) (bf,[],G50 af bf)=some (af,[],G50 bf af):=by
 have hG:=Q0f hC.ship hb hC.bef hC.aft
 have h4:=hG.num
 obtain⟨q',h1,h9,h5⟩:=Yb3 (F:=20) (q0:=G50 af bf) hC (by omega) (by show (G50 af bf).length≤20; have h:bf.length+(G50 af bf).length≤10:=h4; omega) (Ro hG.asc) (fun id hid=>(H0d.1 hid).2) (fun x hx hn=>H0d.2 ⟨⟨x,hx,rfl⟩,hn⟩)
 have h6:Good s boxes ⟨af,[],q'⟩:=Rd9 _ ⟨bf,[],G50 af bf⟩ _ hG h1
 have h0:∀ {st:List G1} {a:Int},a ∉ st.map (·.Box)→(Z0 st a).2≠true:=fun hn hh=>hn (Qd9.1 hh)
 have e:q'=G50 bf af:=H0f h6.asc (Qcb hC.bef.sorted) fun i=>by
  rw [h5]
  constructor
  ·rintro⟨hh,h2⟩
   rcases hh with hh | ⟨x,hx,rfl,hm⟩
   ·obtain⟨⟨x,hx,rfl⟩,h7⟩:=H0d.1 hh
    refine(h2 ⟨x,hx,rfl,hC.least.seeds af (by simp) x hx fun e3=>h0 h7 ?_⟩).elim
    rw [e3,G79 hC.aft.sorted hx]
   ·exact H0d.2 ⟨⟨x,hx,rfl⟩,fun h8=>by
     obtain⟨y,hy,ey⟩:=Mo.1 h8
     exact h2 ⟨y,hy,ey,by rw [show y.Box=x.Box from ey]; exact hm⟩⟩
  ·intro hh
   obtain⟨⟨x,hx,rfl⟩,h3⟩:=H0d.1 hh
   refine⟨.inr ⟨x,hx,rfl,hC.least.seeds bf (by simp) x hx fun e3=>h0 h3 ?_⟩,fun⟨y,hy,ey,_⟩=>h3 (Mo.2 ⟨y,hy,ey⟩)⟩
   rw [← e3,G79 hC.bef.sorted hx]
 subst e
 exact(Qbd (F:=F) (G:=20) _ _).trans h1
end
theorem Z12 {F:Nat} {s:Gi} {boxes:List Box} {calls:Int} {p:J13} (hF:60≤F) (hs:G76 s) (hb:Gc1 calls boxes) (hp:Q1d s boxes calls p) {k:Nat} {af:List G1} (ha:p.States[k]? = some af) :
  ∃ lf,Zee F s boxes (J8f (p.States.take k)) af lf:=by
 have h5:=Q5f hs
 have h3:=hb.len
 have h2:=hp.each _ _ ha
 have h1:=Z16 hp h3 k
 have h4:af.length≤10:=Nat.le_trans h2.len h3
 obtain⟨⟨lf,e0⟩,el,h0,h6,h7,h8⟩:=Y50 h5 h1.1 h2.right h1.2 h4 hF
 have h9:e0=0:=h0
 subst h9
 have hC:G26 s boxes (J8f (p.States.take k)) af lf:=⟨Jdd hs,h1.1,h2.right,h1.2,h4,h8⟩
 exact⟨lf,hC,h6,h7,el,Z5e hF (R46 hs) h1.1 h2.right h1.2 h4 el,Q0f hC.ship h3 h1.1 h2.right,Q0f hC.ship h3 h2.right h1.1,Z13 hC h3⟩
def R39 (m:Move):Bool:=decide (m.Kind=2)||decide (m.Kind=3)
def tot {α:Type} (f:α→Int):List α→Int
 | []=>0
 | x::l=>f x+tot f l
section
variable {α:Type} {f:α→Int}
theorem G6b:∀ (l m:List α),tot f (l++m)=tot f l+tot f m
 | [],m=>by simp [tot]
 | x::l,m=>by rw [List.cons_append,tot,tot,G6b l m]; omega
theorem R8d (l:List α) (x:α):tot f (l++[x])=tot f l+f x:=by rw [G6b]; simp [tot]
theorem Q7e {l m:List α} (h:l.Perm m):tot f l=tot f m:=by
 induction h with
 | nil=>rfl
 | cons x _ ih=>rw [tot,tot,ih]
 | swap x y l=>simp only [tot]; omega
 | trans _ _ h1 h2=>rw [h1,h2]
theorem Hf6 {β:Type} (g:β→α):∀ l:List β,tot f (l.map g)=tot (fun x=>f (g x)) l
 | []=>rfl
 | x::l=>by rw [List.map_cons,tot,tot,Hf6 g l]
theorem R1a {lo hi:Int}:∀ {l:List α},(∀ x∈l,lo≤f x∧f x≤hi)→lo*(l.length:Int)≤tot f l∧tot f l≤hi*(l.length:Int)
 | [],_=>by simp [tot]
 | x::l,h=>by
  have h1:=h x (by simp)
  have h2:=R1a (l:=l) (fun y hy=>h y (by simp [hy]))
  have e:((x::l).length:Int)=(l.length:Int)+1:=by rw [Md]; omega
  rw [tot,e,Int.mul_add,Int.mul_add]
  omega
end
section
variable {κ ν:Type} [DecidableEq κ]
end
def J12 (l:List Move):Int:=tot (fun m=>bif R39 m then 1 else 0) l
section
variable {α:Type} {f g:α→Int}
theorem J5d:∀ {l:List α},(∀ x∈l,f x=g x)→tot f l=tot g l
 | [],_=>rfl
 | x::l,h=>by rw [tot,tot,h x (by simp),J5d (fun y hy=>h y (by simp [hy]))]
theorem Q74:∀ {l:List α},tot (fun x=>f x+g x) l=tot f l+tot g l
 | []=>rfl
 | x::l=>by simp only [tot]; rw [Q74]; omega
theorem Q7d {l:List α} (h:∀ x∈l,f x=0):tot f l=0:=by
 rw [J5d (g:=fun _=>0) h]
 induction l with
 | nil=>rfl
 | cons x l ih=>rw [tot,ih (fun y hy=>h y (by simp [hy]))]; rfl
theorem J98 {p:α→Bool}:∀ {l:List α},tot f (l.filter p)=tot (fun x=>bif p x then f x else 0) l
 | []=>rfl
 | x::l=>by
  rw [List.filter_cons,tot]
  cases h:p x with
  | true=>rw [if_pos rfl,tot,J98]; rfl
  | false=>simp only [Bool.false_eq_true,if_false,cond_false]; rw [J98]; omega
end
section
variable {s:Gi} {bf af:List G1} {lf:List Int} {f:Move→Int}
def G2f (s:Gi) (bf af:List G1) (lf:List Int) (g:Int→Int):Nat→Int
 | 0=>0
 | n+1=>G2f s bf af lf g n+tot g (G0a s bf af lf (n:Int))
theorem R2d {l:List G1} {bay:Int} {deck:Bool} {g:G1→Int}:tot g (Yz s l lf bay deck)=tot (fun x=>bif H31 s lf bay deck x then g x else 0) l:=by
 unfold Yz
 rw [Q7e (G8a _ _),J98]
def Hce (s:Gi) (lf:List Int) (n:Nat) (x:G1):Bool:=lf.any (fun y=>decide (x.Box=y))&&(decide (0≤(Za s x.Slot).Bay)&&decide ((Za s x.Slot).Bay < (n:Int)))
theorem R49 {l:List G1} {g:G1→Int} (n:Nat):tot (fun x=>bif Hce s lf (n+1) x then g x else 0) l=tot (fun x=>bif Hce s lf n x then g x else 0) l+tot g (Yz s l lf (n:Int) true)+tot g (Yz s l lf (n:Int) false):=by
 rw [R2d,R2d,← Q74,← Q74]
 refine J5d (fun x _=>?_)
 unfold Hce H31
 cases lf.any (fun y=>decide (x.Box=y)) with
 | false=>simp
 | true=>
  simp only [Bool.true_and,Bool.and_true]
  generalize (Za s x.Slot).Bay=b
  generalize (Za s x.Slot).Deck=d
  by_cases h0:0≤b
  ·rw [M3 h0]
   by_cases h1:b < (n:Int)
   ·rw [M3 h1,M3 (by omega:b < ((n+1:Nat):Int)),M4 (by omega:¬ b=(n:Int))]
    simp
   ·by_cases h2:b=(n:Int)
    ·rw [M4 h1,M3 (by omega:b < ((n+1:Nat):Int)),M3 h2]
     cases d <;> simp
    ·rw [M4 h1,M4 (by omega:¬ b < ((n+1:Nat):Int)),M4 h2]
     simp
  ·rw [M4 h0,M4 (by omega:¬ b=(n:Int))]
   simp
theorem R4a (l:List G1) (g:G1→Int):tot (fun x=>bif Hce s lf 0 x then g x else 0) l=0:=by
 refine Q7d (fun x _=>?_)
 have:Hce s lf 0 x=false:=by
  unfold Hce
  by_cases h:0≤(Za s x.Slot).Bay
  ·rw [M4 (by omega:¬ (Za s x.Slot).Bay < ((0:Nat):Int))]; simp
  ·rw [M4 h]; simp
 rw [this]; rfl
theorem Rc8:∀ n:Nat,tot f (outs s bf af lf n)=tot (fun x=>bif Hce s lf n x then f (mvS 2 x) else 0) bf+G2f s bf af lf (fun k=>f (mvC 1 k)) n
 | 0=>by
  rw [R4a]
  simp [outs,tot,G2f]
 | n+1=>by
  rw [J66,G6b,Rc8 n,R49,G2f]
  unfold Hca
  rw [G6b,G6b,Hf6,Hf6,Hf6,Q7e (G8a _ _),Q7e (G8a _ _)]
  omega
theorem Y85:∀ n:Nat,tot f (ins s bf af lf n)=tot (fun x=>bif Hce s lf n x then f (mvS 3 x) else 0) af+G2f s bf af lf (fun k=>f (mvC 4 k)) n
 | 0=>by
  rw [R4a]
  simp [ins,tot,G2f]
 | n+1=>by
  rw [Jde,G6b,Y85 n,R49,G2f]
  unfold J8d
  rw [G6b,G6b,Hf6,Hf6,Hf6]
  omega
def J7e (lf:List Int) (x:G1):Bool:=lf.any (fun y=>decide (x.Box=y))
theorem Re3 {l:List G1} {g:G1→Int} (hb:G76 s) (hc:∀ x∈l,G2e s x.Slot):tot (fun x=>bif Hce s lf 40 x then g x else 0) l=tot (fun x=>bif J7e lf x then g x else 0) l:=by
 refine J5d (fun x hx=>?_)
 obtain⟨m,c,h1,h2⟩:=hc x hx
 have h0:=(hb.cols.each c (M8 h2)).bay
 unfold Hce J7e
 rw [H10 h1 h2,M3 (by omega),M3 (by omega)]
 simp
theorem Yc9 (hb:G76 s) (h1:∀ x∈bf,G2e s x.Slot) (h2:∀ x∈af,G2e s x.Slot):tot f (G66 s bf af lf) =
  tot (fun x=>bif J7e lf x then f (mvS 2 x) else 0) bf+G2f s bf af lf (fun k=>f (mvC 1 k)) 40+(tot (fun x=>bif J7e lf x then f (mvS 3 x) else 0) af+G2f s bf af lf (fun k=>f (mvC 4 k)) 40):=by
 unfold G66
 rw [G6b,Rc8,Y85,Re3 hb h1,Re3 hb h2]
theorem H93 {g2 g3:G1→Int} {g1 g4:Int→Int} (hb:G76 s) (h1:∀ x∈bf,G2e s x.Slot) (h2:∀ x∈af,G2e s x.Slot) (e2:∀ x,f (mvS 2 x)=g2 x) (e1:∀ k,f (mvC 1 k)=g1 k) (e3:∀ x,f (mvS 3 x)=g3 x) (e4:∀ k,f (mvC 4 k)=g4 k) :
  tot f (G66 s bf af lf)=tot (fun x=>bif J7e lf x then g2 x else 0) bf+G2f s bf af lf g1 40+(tot (fun x=>bif J7e lf x then g3 x else 0) af+G2f s bf af lf g4 40):=by
 rw [Yc9 hb h1 h2]
 simp only [e1,e2,e3,e4]
theorem Gb7 {g:Int→Int} (h:∀ k,g k=0):∀ n,G2f s bf af lf g n=0
 | 0=>rfl
 | n+1=>by rw [G2f,Gb7 h n,Q7d (fun k _=>h k)]; rfl
theorem Rce (hb:G76 s) (h1:∀ x∈bf,G2e s x.Slot) (h2:∀ x∈af,G2e s x.Slot):J12 (G66 s bf af lf)=tot (fun x=>bif J7e lf x then 1 else 0) bf+tot (fun x=>bif J7e lf x then 1 else 0) af:=by
 unfold J12
 rw [H93 (g2:=fun _=>1) (g3:=fun _=>1) (g1:=fun _=>0) (g4:=fun _=>0) hb h1 h2 (fun x=>rfl) (fun k=>rfl) (fun x=>rfl) (fun k=>rfl),Gb7 (fun _=>rfl)]
 omega
end
end Go.Proofs.YtgcpimpnpcdmmaaGreat
