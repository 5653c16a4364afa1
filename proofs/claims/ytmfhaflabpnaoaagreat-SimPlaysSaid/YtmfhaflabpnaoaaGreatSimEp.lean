/-
 What doing a move does: What putting a box does,and doing any move. How a simulator begins,or that it does not.
-/
import Derived.Test.YtmfhaflabpnaoaaGreatSimBp
set_option maxRecDepth 100000
set_option linter.unusedVariables false
namespace Go.Proofs.YtmfhaflabpnaoaaGreat
open Go.RowKit
theorem Yu {v:Option Bool} {P:Prop} {e:Int} {rest:List (Option Bool×Int)} {Q:Int→Prop} (hv:Wp v (fun r=>r=true ↔ P)) (h1:P→Wp (Gf9 rest) Q) (h2:¬ P→Q e):Wp (Gf9 ((v,e)::rest)) Q:=by
 obtain⟨r,rfl,hr⟩:=hv
 cases r with
 | true=>exact h1 (hr.1 rfl)
 | false=>exact⟨e,rfl,h2 (fun hp=>by have:=hr.2 hp; cases this)⟩
theorem H93 {Q:Int→Prop} (h:Q 0):Wp (Gf9 []) Q:=⟨0,rfl,h⟩
def szB (boxes:List Box) (i:Int):Int:=match Jp boxes i with
 | some b=>b.Size
 | none=>0
open Classical in
noncomputable def G47 (s:G6) (t:St) (x:Move):Int:=
 if x.Box=0∧x.Slot=⟨0,0,0⟩∧0≤x.Ga∧x.Ga < (s.Covers.length:Int) then
  (if (x.Ga∈t.o ↔ x.Kind=1) then 311 else if x.Kind=1∧¬ J10 s t.l x.Ga then 312 else 0)
 else 310
open Classical in
noncomputable def Hd9 (s:G6) (t:St) (x:Move):Int:=
 if x.Ga=0 then (if (⟨x.Box,x.Slot⟩:G3)∈t.l then (if H3a t.l x.Slot=[] then (if H6a s t.o x.Slot then 315 else 0) else 314) else 313) else 310
open Classical in
noncomputable def inE (s:G6) (boxes:List Box) (t:St) (x:Move):Int:=
 if x.Ga=0 then (if x.Box∈t.a then (if Ga4 s x.Slot (szB boxes x.Box) then (if Hbd s t.o x.Slot then 315 else if Qc5 t.l x.Slot then 317 else
  if Gce x.Slot (t.l.map (·.Slot)) then (if Qcb s boxes (H7c ⟨x.Box,x.Slot⟩ t.l) x.Slot then 0 else 319) else 318) else 316) else 313) else 310
noncomputable def doE (s:G6) (boxes:List Box) (t:St) (x:Move):Int:=
 if x.Kind=1∨x.Kind=4 then G47 s t x else if x.Kind=2 then Hd9 s t x else if x.Kind=3 then inE s boxes t x else 310
def Q55 (s:G6) (boxes:List Box) (m:Gh) (t:St) (x:Move) (r:Int×Gh):Prop:=
 r.1=doE s boxes t x∧(doE s boxes t x=0→H07 s boxes r.2 (nxt t x)∧r.2.lifts=m.lifts+G77 x)∧(doE s boxes t x≠0→r.2=m)
theorem Jd2 {s:G6} {boxes:List Box} {m:Gh} {t:St} {x:Move} {r:Int×Gh} (he:doE s boxes t x=0) (h0:r.1=0) (hR:H07 s boxes r.2 (nxt t x)) (hl:r.2.lifts=m.lifts+G77 x):Q55 s boxes m t x r:=
 ⟨h0.trans he.symm,fun _=>⟨hR,hl⟩,fun h=>(h he).elim⟩
theorem J53 {s:G6} {boxes:List Box} {m:Gh} {t:St} {x:Move} {r:Int×Gh} (he:r.1=doE s boxes t x) (h0:r.1≠0) (hm:r.2=m):Q55 s boxes m t x r:=
 ⟨he,fun h=>(h0 (he.trans h)).elim,fun _=>hm⟩
theorem R5c {boxes:List Box} {i:Int} {b:Box} (h:Jp boxes i=some b):szB boxes i=b.Size:=by unfold szB; rw [h]
theorem Jb4 {s:G6} {t:St} {x:Move} (hk:x.Kind=1) (h:G47 s t x=0):Qcd s t x:=by
 unfold G47 at h
 split at h
 ·rename_i h1
  split at h
  ·cases h
  ·rename_i h2
   split at h
   ·cases h
   ·rename_i h3
    exact⟨h1.1,h1.2.1,h1.2.2.1,h1.2.2.2,fun g=>h2 ⟨fun _=>hk,fun _=>g⟩,Classical.not_not.1 fun g=>h3 ⟨hk,g⟩⟩
 ·cases h
theorem Jb3 {s:G6} {t:St} {x:Move} (hk:x.Kind=4) (h:G47 s t x=0):Qcc s t x:=by
 unfold G47 at h
 split at h
 ·rename_i h1
  split at h
  ·cases h
  ·rename_i h2
   exact⟨h1.1,h1.2.1,h1.2.2.1,h1.2.2.2,Classical.not_not.1 fun g=>h2 ⟨fun h=>(g h).elim,fun h=>by omega⟩⟩
 ·cases h
theorem R06 {s:G6} {t:St} {x:Move} (h:Hd9 s t x=0):R8d s t x:=by
 unfold Hd9 at h
 split at h
 ·rename_i h1
  split at h
  ·rename_i h2
   split at h
   ·rename_i h3
    split at h
    ·cases h
    ·rename_i h4; exact⟨h1,h2,h3,h4⟩
   ·cases h
  ·cases h
 ·cases h
theorem Rad {s:G6} {boxes:List Box} {t:St} {x:Move} (hG:Good s boxes t) (h:inE s boxes t x=0):Y37 s boxes t x:=by
 unfold inE at h
 split at h
 ·rename_i h1
  split at h
  ·rename_i h2
   obtain⟨b,hb,hz⟩:=hG.box _ h2
   rw [R5c hb] at h
   split at h
   ·rename_i h3
    split at h
    ·cases h
    ·rename_i h4
     split at h
     ·cases h
     ·rename_i h5
      split at h
      ·rename_i h6
       split at h
       ·rename_i h7; exact⟨h1,h2,b,hb,h3,h4,h5,h6,h7⟩
       ·cases h
      ·cases h
   ·cases h
  ·cases h
 ·cases h
theorem Qbe {s:G6} {boxes:List Box} {t:St} {x:Move} (hG:Good s boxes t) (h:doE s boxes t x=0):Can s boxes t x:=by
 unfold doE at h
 split at h
 ·rename_i hk
  rcases hk with hk | hk
  ·exact .inl ⟨hk,Jb4 hk h⟩
  ·exact .inr (.inl ⟨hk,Jb3 hk h⟩)
 ·split at h
  ·rename_i hk; exact .inr (.inr (.inl ⟨hk,R06 h⟩))
  ·split at h
   ·rename_i hk; exact .inr (.inr (.inr ⟨hk,Rad hG h⟩))
   ·cases h
section
variable {s:G6} {boxes:List Box} {m:Gh} {t:St} {x:Move}
open Classical in
theorem Q3b (hG:Good s boxes t) (hR:H07 s boxes m t) {is:Slot→Option Bool} {P:Slot→Prop} (h:∀ y∈t.l,Wp (is y.Slot) (fun r=>r=true ↔ P y.Slot)):Wp (Zy m is) (fun r=>r=true ↔ ∃ y∈t.l,P y.Slot):=by
 refine⟨_,Ya8 hG hR (p:=fun y=>decide (P y)) (fun y hy=>Y94 (h y hy)),?_⟩
 show (t.l.any _=true) ↔ _
 rw [List.any_eq_true]
 exact⟨fun⟨y,hy,e⟩=>⟨y,hy,Kw e⟩,fun⟨y,hy,e⟩=>⟨y,hy,Ky e⟩⟩
theorem Jd3 {s:G6} {z:Int} {i j:Nat} {c d:G1} (h1:z=(i:Int)) (h2:z=(j:Int)) (hc:s.Columns[i]? = some c) (hd:s.Columns[j]? = some d):d=c:=by
 have:j=i:=by omega
 subst this
 rw [hc] at hd
 cases hd; rfl
theorem Q6e (hG:Good s boxes t) (hR:H07 s boxes m t) (b:Bool) (y:Move):Wp (G07 b m y) (fun r=>r=true ↔ (b=true→J10 s t.l y.Ga)):=by
 unfold G07
 cases b with
 | false=>exact H8 (Gg (Gg ⟨fun _ h=>(by cases h),fun _=>rfl⟩))
 | true=>
  simp only [Bool.not_true,Bool.not_false,cond_true]
  refine H8 (wp_mono (Q3b hG hR (P:=fun z=>∃ (i:Nat) (c:G1),z.G1=(i:Int)∧s.Columns[i]? = some c∧c.Deck=true∧Qo s c=y.Ga) (fun z hz=>?_)) (fun r hr=>Gg ?_))
  ·obtain⟨i,c,hi,hc⟩:=hG.sta.colIn hz
   have h0:(∃ (i:Nat) (c:G1),z.Slot.G1=(i:Int)∧s.Columns[i]? = some c∧c.Deck=true∧Qo s c=y.Ga) ↔ (c.Deck=true∧Qo s c=y.Ga):=by
    constructor
    ·rintro⟨j,d,h1,h2,h3⟩
     have:=Jd3 hi h1 hc h2
     subst this
     exact h3
    ·exact fun h=>⟨i,c,hi,hc,h⟩
   unfold G13
   rw [hi] at h0 ⊢
   refine Zr rfl (show m.ship.Columns[i]? = some c by rw [hR.cols]; exact hc) ?_
   rw [h0]
   cases hd:c.Deck with
   | false=>exact H8 (Gg (Gg ⟨fun h=>(by cases h),fun h=>(by cases h.1)⟩))
   | true=>exact Gy (Q7b hG hR hc) (Gg ⟨fun h=>⟨rfl,Kw h⟩,fun h=>Ky h.2⟩)
  ·show ((false||!r)=true) ↔ _
   rw [Bool.false_or,Bool.not_eq_true',← Bool.not_eq_true,hr]
   constructor
   ·exact fun h _ z hz i c h1 h2 h3 h4=>h ⟨z,hz,i,c,h1,h2,h3,h4⟩
   ·rintro h ⟨z,hz,i,c,h1,h2,h3,h4⟩
    exact h trivial z hz i c h1 h2 h3 h4
theorem Q2a (hR:H07 s boxes m t):Wp (Ys ((((decide (x.Box=0))&&(decide (x.Slot=(Slot.mk 0 0 0))))&&(decide (0≤x.Ga)))&&(decide (x.Ga < (m.ship.Covers.length:Int))))) (fun r=>r=true ↔ (x.Box=0∧x.Slot=⟨0,0,0⟩∧0≤x.Ga∧x.Ga < (s.Covers.length:Int))):=by
 refine Gg ?_
 rw [hR.covs]
 simp only [Me,Mf,and_assoc]
theorem R81 (hG:Good s boxes t) (hR:H07 s boxes m t) (hk:x.Kind=1):Wp (G0d m x) (Q55 s boxes m t x):=by
 have h4:doE s boxes t x=G47 s t x:=by unfold doE; rw [if_pos (.inl hk)]
 unfold G0d
 refine Gy rfl (Gy rfl (Gy rfl (H8 (wp_mono (Q':=fun r=>r=G47 s t x) ?_ (fun r8 h8=>?_)))))
 ·rw [Qaf hR,Ky hk]
  refine Yu (Q2a hR) (fun h1=>?_) (fun h1=>by unfold G47; rw [if_neg h1])
  refine Yu (P:=x.Ga ∉ t.o) (Gg ?_) (fun h2=>?_) (fun h2=>by unfold G47; rw [if_pos h1,if_pos ⟨fun _=>hk,fun _=>Classical.not_not.1 h2⟩])
  ·simp
  refine Yu (Q6e hG hR true _) (fun h3=>H93 (by unfold G47; rw [if_pos h1,if_neg (fun g=>h2 (g.2 hk)),if_neg (fun g=>g.2 (h3 rfl))])) (fun h3=>by unfold G47; rw [if_pos h1,if_neg (fun g=>h2 (g.2 hk)),if_pos ⟨hk,fun g=>h3 fun _=>g⟩])
 ·refine Hb (fun h=>Gg (J53 (h8.trans h4.symm) (Kw h) rfl)) (fun h=>?_)
  ·have h0:r8=0:=by have:=Kx h; omega
   have hE:G47 s t x=0:=h8.symm.trans h0
   have h8:Qcd s t x:=Jb4 hk hE
   have hz:Gv.get m.open_ x.Ga 0=0:=R95 _ (fun v hv=>h8.2.2.2.2.1 ((hR.opn _ v).1 hv).1)
   refine Hca (fun j=>j=Gh.mk m.ship m.on m.quay (Gv.put m.open_ x.Ga 1) m.lifts) (fun K hK=>Hb (fun _=>?_) (fun h=>absurd hk (Kx h))) (fun j hj=>Gg (Jd2 (h4.trans hE) rfl ?_ ?_))
   ·refine Gy rfl (Z2 (by rw [hz]; omega) (hK _ (by rw [hz]; rfl)))
   ·subst hj
    rw [Y15 hk]
    refine⟨hR.cols,hR.covs,hR.on,hR.quay,fun k v=>?_⟩
    show (k,v)∈Gv.Hc (Gv.put m.open_ x.Ga 1) ↔ k∈H66 x.Ga t.o∧v=1
    rw [Jda,G63,hR.opn]
    constructor
    ·rintro(h | h)
     ·exact⟨.inl h.1,h.2⟩
     ·exact⟨.inr h.2.1,h.2.2⟩
    ·rintro⟨h | h,e⟩
     ·exact .inl ⟨h,e⟩
     ·exact .inr ⟨fun e2=>h8.2.2.2.2.1 (e2 ▸ h),h,e⟩
   ·subst hj
    show m.lifts=m.lifts+G77 x
    unfold G77
    rw [if_neg (by omega)]; omega
theorem R80 (hG:Good s boxes t) (hR:H07 s boxes m t) (hk:x.Kind=4):Wp (G0d m x) (Q55 s boxes m t x):=by
 have h4:doE s boxes t x=G47 s t x:=by unfold doE; rw [if_pos (.inr hk)]
 unfold G0d
 refine Gy rfl (Gy rfl (Gy rfl (H8 (wp_mono (Q':=fun r=>r=G47 s t x) ?_ (fun r8 h8=>?_)))))
 ·rw [Qaf hR,Kz (show ¬ x.Kind=1 by omega)]
  refine Yu (Q2a hR) (fun h1=>?_) (fun h1=>by unfold G47; rw [if_neg h1])
  refine Yu (P:=x.Ga∈t.o) (Gg ?_) (fun h2=>?_) (fun h2=>by unfold G47; rw [if_pos h1,if_pos ⟨fun g=>(h2 g).elim,fun g=>by omega⟩])
  ·simp
  refine Yu (Q6e hG hR false _) (fun h3=>H93 (by unfold G47; rw [if_pos h1,if_neg (fun g=>by have:=g.1 h2; omega),if_neg (fun g=>by have:=g.1; omega)])) (fun h3=>(h3 (fun h=>by cases h)).elim)
 ·refine Hb (fun h=>Gg (J53 (h8.trans h4.symm) (Kw h) rfl)) (fun h=>?_)
  ·have h0:r8=0:=by have:=Kx h; omega
   have hE:G47 s t x=0:=h8.symm.trans h0
   have h8:Qcc s t x:=Jb3 hk hE
   refine Hca (fun j=>j=Gh.mk m.ship m.on m.quay (Gv.del m.open_ x.Ga) m.lifts) (fun K hK=>Hb (fun h=>absurd (Kw h) (by omega)) (fun _=>hK _ rfl)) (fun j hj=>Gg (Jd2 (h4.trans hE) rfl ?_ ?_))
   ·subst hj
    rw [Y12 hk]
    refine⟨hR.cols,hR.covs,hR.on,hR.quay,fun k v=>?_⟩
    show (k,v)∈Gv.Hc (Gv.del m.open_ x.Ga) ↔ k∈Hc5 x.Ga t.o∧v=1
    rw [R2e,G7d,hR.opn]
    exact⟨fun h=>⟨⟨h.2.1,h.1⟩,h.2.2⟩,fun h=>⟨h.1.2,h.1.1,h.2⟩⟩
   ·subst hj
    show m.lifts=m.lifts+G77 x
    unfold G77
    rw [if_neg (by omega)]; omega
theorem Y03 (hG:Good s boxes t) (hR:H07 s boxes m t) {y z:G3} (hy:y∈t.l) (hz:z∈t.l) (e:y.Slot=z.Slot):y=z:=by
 obtain⟨b,hb,_⟩:=hG.right.each y hy
 obtain⟨d,hd,_⟩:=hG.right.each z hz
 have h1:=(hR.on y.Slot b).2 ⟨by rw [G95 hb]; exact hy,by rw [G95 hb]; exact hb⟩
 have h2:=(hR.on z.Slot d).2 ⟨by rw [G95 hd]; exact hz,by rw [G95 hd]; exact hd⟩
 rw [e] at h1
 have h3:b=d:=(Hcb m.on (z:=default) h1).symm.trans (Hcb m.on (z:=default) h2)
 exact Jd4 hG.right.sorted hy hz (by rw [← G95 hb,← G95 hd,h3])
theorem Y10 (hG:Good s boxes t) (hR:H07 s boxes m t) (hk:x.Kind=2) (hl:0≤m.lifts∧m.lifts≤1000000):Wp (Gb3 m x) (Q55 s boxes m t x):=by
 have h6:doE s boxes t x=Hd9 s t x:=by unfold doE; rw [if_neg (by omega),if_pos hk]
 unfold Gb3
 have h8:((Gv.has m.on x.Slot)&&(decide ((Gv.get m.on x.Slot (Box.mk 0 ByteArray.empty 0 false 0 0 0 0 false)).ID=x.Box)))=true ↔ (⟨x.Box,x.Slot⟩:G3)∈t.l:=by
  rw [Me,Rfd,Mf]
  constructor
  ·rintro⟨⟨b,hb⟩,h⟩
   rw [Hcb m.on hb] at h
   rw [← h]
   exact((hR.on _ b).1 hb).1
  ·intro h
   obtain⟨b,hb,_⟩:=hG.right.each _ h
   have h5:Jp boxes x.Box=some b:=hb
   have h1:=(hR.on x.Slot b).2 ⟨by rw [G95 h5]; exact h,by rw [G95 h5]; exact h5⟩
   exact⟨⟨b,h1⟩,by rw [Hcb m.on h1]; exact G95 h5⟩
 refine Gy rfl (Gy rfl (Gy rfl (H8 (wp_mono (Q':=fun r=>r=Hd9 s t x) ?_ (fun r7 h7=>?_)))))
 ·refine Yu (P:=x.Ga=0) (Gg (by rw [Mf])) (fun h1=>?_) (fun h1=>by unfold Hd9; rw [if_neg h1])
  refine Yu (Gg h8) (fun h2=>?_) (fun h2=>by unfold Hd9; rw [if_pos h1,if_neg h2])
  refine Yu (P:=H3a t.l x.Slot=[]) ?_ (fun h3=>?_) (fun h3=>by unfold Hd9; rw [if_pos h1,if_pos h2,if_neg h3])
  ·unfold G69
   refine H8 (wp_mono (Q3b hG hR (P:=fun z=>H08 z x.Slot) (fun y hy=>?_)) (fun r hr=>Gg ?_))
   ·unfold G3f
    exact H8 (wp_mono (Rcc _ _) (fun r hr=>Gg hr))
   ·rw [Bool.not_eq_true',← Bool.not_eq_true,hr]
    constructor
    ·intro h
     refine List.eq_nil_iff_forall_not_mem.2 fun a ha=>?_
     obtain⟨z,hz,_,ho⟩:=Hf5.1 ha
     exact h ⟨z,hz,ho⟩
    ·rintro h ⟨z,hz,ho⟩
     have:=Hf5.2 ⟨z,hz,rfl,ho⟩
     rw [h] at this; cases this
  refine Yu (P:=¬ H6a s t.o x.Slot) ?_ (fun h4=>H93 (by unfold Hd9; rw [if_pos h1,if_pos h2,if_pos h3,if_neg h4])) (fun h4=>by unfold Hd9; rw [if_pos h1,if_pos h2,if_pos h3,if_pos (Classical.not_not.1 h4)])
  obtain⟨i,c,hi,hc⟩:=hG.sta.colIn h2
  have hi:x.Slot.G1=(i:Int):=hi
  have h9:H6a s t.o x.Slot ↔ (c.Deck=false∧0≤Qo s c∧Qo s c ∉ t.o):=by
   constructor
   ·rintro⟨j,d,e1,e2,e3⟩
    have:=Jd3 hi e1 hc e2
    subst this
    exact e3
   ·exact fun e=>⟨i,c,hi,hc,e⟩
  have a0:Hbd s t.o x.Slot ↔ (0≤Qo s c∧(c.Deck=true ↔ Qo s c∈t.o)):=by
   constructor
   ·rintro⟨j,d,e1,e2,e3⟩
    have:=Jd3 hi e1 hc e2
    subst this
    exact e3
   ·exact fun e=>⟨i,c,hi,hc,e⟩
  unfold G68
  show Wp (Qr m.ship.Columns x.Slot.G1 _) _
  refine Zr hi (show m.ship.Columns[i]? = some c by rw [hR.cols]; exact hc) ?_
  rw [h9]
  cases hd:c.Deck with
  | true=>exact H8 (Gg (Gg ⟨fun _ h=>(by cases h.1),fun _=>rfl⟩))
  | false=>
   refine H8 (wp_mono (Qfa hG hR hi hc) (fun r hr=>Gg ?_))
   show ((false||!r)=true) ↔ _
   rw [Bool.false_or,Bool.not_eq_true',← Bool.not_eq_true,hr,a0,hd]
   refine not_congr ⟨fun h=>⟨rfl,h.1,fun g=>by cases h.2.2 g⟩,fun h=>⟨h.2.1,⟨fun g=>(by cases g),fun g=>(h.2.2 g).elim⟩⟩⟩
 ·refine Hb (fun h=>Gg (J53 (h7.trans h6.symm) (Kw h) rfl)) (fun h=>?_)
  ·have h0:r7=0:=by have:=Kx h; omega
   have hE:Hd9 s t x=0:=h7.symm.trans h0
   have h7:R8d s t x:=R06 hE
   refine Z2 (by omega) (Gg (Jd2 (h6.trans hE) rfl ?_ ?_))
   ·obtain⟨h1,h2,h3,h4⟩:=h7
    obtain⟨b,hb,_⟩:=hG.right.each _ h2
    have hb:Jp boxes x.Box=some b:=hb
    have hid:=G95 hb
    have a1:=(hR.on x.Slot b).2 ⟨by rw [hid]; exact h2,by rw [hid]; exact hb⟩
    rw [Y14 hk,Hcb m.on a1]
    refine⟨hR.cols,hR.covs,fun y d=>?_,fun i d=>?_,hR.opn⟩
    ·show (y,d)∈Gv.Hc (Gv.del m.on x.Slot) ↔ (⟨d.ID,y⟩:G3)∈H24 x.Box t.l∧Jp boxes d.ID=some d
     rw [R2e,Q25,hR.on]
     constructor
     ·rintro⟨g1,g2,g3⟩
      refine⟨⟨g2,fun e=>g1 ?_⟩,g3⟩
      exact congrArg G3.Slot (Jd4 hG.right.sorted g2 h2 e)
     ·rintro⟨⟨g1,g2⟩,g3⟩
      refine⟨fun e=>g2 ?_,g1,g3⟩
      exact congrArg G3.Box (Y03 hG hR g1 h2 e)
    ·show (i,d)∈Gv.Hc (Gv.put m.quay b.ID b) ↔ i∈H66 x.Box t.a∧Jp boxes i=some d
     rw [Jda,G63,hR.quay,hid]
     constructor
     ·rintro(⟨rfl,rfl⟩ | ⟨g1,g2,g3⟩)
      ·exact⟨.inl rfl,hb⟩
      ·exact⟨.inr g2,g3⟩
     ·rintro⟨g | g,g3⟩
      ·subst g
       exact .inl ⟨rfl,by rw [hb] at g3; cases g3; rfl⟩
      ·exact .inr ⟨fun e=>hG.disj i g (Mi.2 ⟨_,h2,e.symm⟩),g,g3⟩
   ·show m.lifts+1=m.lifts+G77 x
    unfold G77
    rw [if_pos (.inl hk)]
end
section
variable {s:G6} {boxes:List Box} {m:Gh} {t:St} {x:Move}
theorem Y04 (hR:H07 s boxes m t) (y:Slot) (size:Int):Wp (G5d m.ship y size) (fun r=>r=true ↔ Ga4 s y size):=by
 refine wp_mono (Q14 m.ship y size) (fun r hr=>hr.trans ⟨fun h=>⟨?_,h.tier,h.half⟩,fun h=>⟨?_,h.tier,h.half⟩⟩)
 ·obtain⟨i,c,h1,h2,h3⟩:=h.col
  exact⟨i,c,h1,by rw [← hR.cols]; exact h2,h3⟩
 ·obtain⟨i,c,h1,h2,h3⟩:=h.col
  exact⟨i,c,h1,by rw [hR.cols]; exact h2,h3⟩
theorem Y5d (hG:Good s boxes t) (hR:H07 s boxes m t) (hk:x.Kind=3) (hl:0≤m.lifts∧m.lifts≤1000000):Wp (Gd9 m x) (Q55 s boxes m t x):=by
 have a5:doE s boxes t x=inE s boxes t x:=by unfold doE; rw [if_neg (by omega),if_neg (by omega),if_pos hk]
 have a6:=H7a hG.ship
 unfold Gd9
 have a7:Gv.has m.quay x.Box=true ↔ x.Box∈t.a:=by
  rw [Rfd]
  constructor
  ·rintro⟨b,hb⟩
   exact((hR.quay _ b).1 hb).1
  ·intro h
   obtain⟨b,hb,_⟩:=hG.box _ h
   exact⟨b,(hR.quay _ b).2 ⟨h,hb⟩⟩
 refine Gy rfl (Gy rfl (Gy rfl (H8 (wp_mono (Q':=fun r=>r=inE s boxes t x) ?_ (fun r7 h7=>?_)))))
 ·refine Yu (P:=x.Ga=0) (Gg (by rw [Mf])) (fun h1=>?_) (fun h1=>by unfold inE; rw [if_neg h1])
  refine Yu (Gg a7) (fun h2=>?_) (fun h2=>by unfold inE; rw [if_pos h1,if_neg h2])
  obtain⟨b,hb,hz⟩:=hG.box _ h2
  have h9:=R5c hb
  rw [Hcb m.quay ((hR.quay _ b).2 ⟨h2,hb⟩)]
  have a2:x.Box ∉ t.l.map (·.Box):=hG.disj _ h2
  refine Yu (P:=Ga4 s x.Slot b.Size) ?_ (fun h3=>?_) (fun h3=>by unfold inE; rw [h9,if_pos h1,if_pos h2,if_neg h3])
  ·unfold G8b
   exact H8 (wp_mono (Y04 hR x.Slot b.Size) (fun r hr=>Gg hr))
  obtain⟨i,c,hi,hc,b1⟩:=h3.col
  have a8 : -1000000≤x.Slot.Tier∧x.Slot.Tier≤1000000:=by
   have:=a6.tiers c (M3 hc)
   have:=h3.tier
   omega
  refine Yu (P:=¬ Hbd s t.o x.Slot) ?_ (fun h4=>?_) (fun h4=>by unfold inE; rw [h9,if_pos h1,if_pos h2,if_pos h3,if_pos (Classical.not_not.1 h4)])
  ·unfold G8a
   refine H8 (wp_mono (Qfa hG hR (x:=x.Slot) hi hc) (fun r hr=>Gg ?_))
   rw [Bool.not_eq_true',← Bool.not_eq_true,hr]
  refine Yu (P:=¬ Qc5 t.l x.Slot) ?_ (fun h5=>?_) (fun h5=>by unfold inE; rw [h9,if_pos h1,if_pos h2,if_pos h3,if_neg h4,if_pos (Classical.not_not.1 h5)])
  ·unfold G89
   refine H8 (wp_mono (Q3b hG hR (P:=fun z=>Gc8 z x.Slot) (fun y hy=>?_)) (fun r hr=>Gg ?_))
   ·unfold G53
    exact H8 (wp_mono (Q79 _ _) (fun r hr=>Gg hr))
   ·rw [Bool.not_eq_true',← Bool.not_eq_true,hr]
    exact not_congr ⟨fun⟨y,hy,h⟩=>⟨y,hy,H2e h⟩,fun⟨y,hy,h⟩=>⟨y,hy,H2e h⟩⟩
  refine Yu (P:=Gce x.Slot (t.l.map (·.Slot))) ?_ (fun h6=>?_) (fun h6=>by unfold inE; rw [h9,if_pos h1,if_pos h2,if_pos h3,if_neg h4,if_neg h5,if_neg h6])
  ·have hp:=Jce hG hR
   have a3:(Gv.keys m.on).filterMap id=(onB m).map (·.Slot):=by
    rw [H7b]; unfold onB; rw [List.map_map]; rfl
   have b2:(onB m).length≤80:=by rw [hp.length_eq]; have:=hG.num; omega
   unfold G88
   refine H8 (Gg (Gy (x:=(onB m).map (·.Slot)) ?_ (H8 (wp_mono (Q':=fun r=>r=true ↔ Gce x.Slot (t.l.map (·.Slot))) ?_ (fun r hr=>Gg hr)))))
   ·unfold Zx
    rw [a3,Ky (show ((onB m).map (·.Slot)).length*24≤140737488355328∧((onB m).map (·.Slot)).length≤maxLen from ⟨by rw [Mg]; omega,by rw [Mg]; simp only [maxLen]; omega⟩),Q21]
   ·unfold H12
    rw [Q8c (hp.map (·.Slot))]
    exact Q7a x.Slot _ a8
  refine Yu (P:=Qcb s boxes (H7c ⟨x.Box,x.Slot⟩ t.l) x.Slot) ?_ (fun h7=>H93 (by unfold inE; rw [h9,if_pos h1,if_pos h2,if_pos h3,if_neg h4,if_neg h5,if_pos h6,if_pos h7])) (fun h7=>by unfold inE; rw [h9,if_pos h1,if_pos h2,if_pos h3,if_neg h4,if_neg h5,if_pos h6,if_neg h7])
  have a0:=H58 hG.right.sorted (y:=⟨x.Box,x.Slot⟩) a2
  have a9:Qcb s boxes (H7c ⟨x.Box,x.Slot⟩ t.l) x.Slot ↔ H1b boxes (H7c ⟨x.Box,x.Slot⟩ t.l) i c:=by
   refine⟨fun hf=>hf i c hi hc,fun hf j d e1 e2=>?_⟩
   have:j=i:=by omega
   subst this
   rw [hc] at e2; cases e2
   exact hf
  have hh:∀ half:Int,Rs boxes (H7c ⟨x.Box,x.Slot⟩ t.l) (i:Int) half=(if x.Slot.Half=half∨x.Slot.Half=0 then H16 b else 0)+Rs boxes t.l (i:Int) half:=fun half=>by
   rw [Jb1 (G64 a0),G39,Rb5 (x:=⟨x.Box,x.Slot⟩) hb]
   congr 1
   by_cases a1:x.Slot.Half=half∨x.Slot.Half=0
   ·rw [if_pos a1,if_pos ⟨hi,a1⟩]
   ·rw [if_neg a1,if_neg (fun g=>a1 g.2)]
  unfold G87
  show Wp (Qr m.ship.Columns x.Slot.G1 _) _
  refine Zr hi (show m.ship.Columns[i]? = some c by rw [hR.cols]; exact hc) ?_
  rw [a9]
  unfold H1b
  by_cases hH:c.Height≤0
  ·rw [Ky hH]
   exact H8 (Gg (H8 (Gg (Gg ⟨fun _=>.inl hH,fun _=>rfl⟩))))
  ·rw [Kz hH]
   refine Gy (Rae hG hR x.Slot b 1) (Gy (Rae hG hR x.Slot b 2) (Gg ?_))
   rw [hi,← hh,← hh,Bool.false_or,Mf,Int.max_le]
   exact⟨fun h=>.inr h,fun h=>h.resolve_left hH⟩
 ·refine Hb (fun h=>Gg (J53 (h7.trans a5.symm) (Kw h) rfl)) (fun h=>?_)
  ·have h0:r7=0:=by have:=Kx h; omega
   have hE:inE s boxes t x=0:=h7.symm.trans h0
   have h7:Y37 s boxes t x:=Rad hG hE
   refine Z2 (by omega) (Gg (Jd2 (a5.trans hE) rfl ?_ ?_))
   ·obtain⟨h1,h2,b,hb,h3,h4,h5,h6,h8⟩:=h7
    have a2:x.Box ∉ t.l.map (·.Box):=hG.disj _ h2
    have a0:=H58 hG.right.sorted (y:=⟨x.Box,x.Slot⟩) a2
    have hid:=G95 hb
    have b0:=(hR.quay x.Box b).2 ⟨h2,hb⟩
    have a4:∀ y∈t.l,y.Slot≠x.Slot:=fun y hy e=>h5 ⟨y,hy,by rw [e]; exact⟨rfl,rfl,.inl rfl⟩⟩
    rw [Y13 hk,Hcb m.quay b0]
    refine⟨hR.cols,hR.covs,fun y d=>?_,fun i d=>?_,hR.opn⟩
    ·show (y,d)∈Gv.Hc (Gv.put m.on x.Slot b) ↔ (⟨d.ID,y⟩:G3)∈H7c ⟨x.Box,x.Slot⟩ t.l∧Jp boxes d.ID=some d
     rw [Jda,(G64 a0).mem_iff,Mk,hR.on]
     constructor
     ·rintro(⟨rfl,rfl⟩ | ⟨g1,g2,g3⟩)
      ·exact⟨.inl (by rw [hid]),by rw [hid]; exact hb⟩
      ·exact⟨.inr g2,g3⟩
     ·rintro⟨g | g,g3⟩
      ·have e1:d.ID=x.Box:=congrArg G3.Box g
       have e2:y=x.Slot:=congrArg G3.Slot g
       refine .inl ⟨e2,?_⟩
       rw [e1,hb] at g3
       cases g3; rfl
      ·exact .inr ⟨a4 _ g,g,g3⟩
    ·show (i,d)∈Gv.Hc (Gv.del m.quay x.Box) ↔ i∈Hc5 x.Box t.a∧Jp boxes i=some d
     rw [R2e,G7d,hR.quay]
     exact⟨fun h=>⟨⟨h.2.1,h.1⟩,h.2.2⟩,fun h=>⟨h.1.2,h.1.1,h.2⟩⟩
   ·show m.lifts+1=m.lifts+G77 x
    unfold G77
    rw [if_pos (.inr hk)]
theorem Y61 (hG:Good s boxes t) (hR:H07 s boxes m t) (hl:0≤m.lifts∧m.lifts≤1000000) (x:Move):Wp (G98 m x) (Q55 s boxes m t x):=by
 unfold G98
 refine Hca (fun j=>j=true ↔ (x.Kind=1∨x.Kind=4)) (fun K hK=>Hb (fun h=>hK _ ?_) (fun h=>hK _ ?_)) (fun j hj=>?_)
 ·rw [h]; exact⟨fun _=>.inl (Kw h),fun _=>rfl⟩
 ·rw [Mf]
  exact⟨.inr,fun g=>g.resolve_left (Kx h)⟩
 refine Hb (fun h=>?_) (fun h=>Hb (fun h2=>?_) (fun h2=>Hb (fun h3=>?_) (fun h3=>Gg (J53 ?_ (by show (310:Int)≠0; decide) rfl))))
 ·rcases hj.1 h with hk | hk
  ·exact H8 (wp_mono (R81 hG hR hk) (fun r hr=>Gg hr))
  ·exact H8 (wp_mono (R80 hG hR hk) (fun r hr=>Gg hr))
 ·exact H8 (wp_mono (Y10 hG hR (Kw h2) hl) (fun r hr=>Gg hr))
 ·exact H8 (wp_mono (Y5d hG hR (Kw h3) hl) (fun r hr=>Gg hr))
 ·have hn:¬ (x.Kind=1∨x.Kind=4):=fun g=>by rw [hj.2 g] at h; cases h
  have h2:=Kx h2
  have h3:=Kx h3
  unfold doE; rw [if_neg hn,if_neg h2,if_neg h3]
end
theorem Jb5 {l:List G3} {f:G3→Option Bool} {p:G3→Bool} (h:∀ x∈l,f x=some (p x)):Jd l f=some (l.any p):=by
 have e:Yq l f=some (H67 p l):=Hdd h
 unfold Jd
 exact Z3 (Gy e (Gg (by show decide (0≤H67 p l)=_; rw [H04])))
theorem R75 {α β:Type} [DecidableEq β] {xs:List α} {k:Bool→Option β} {r:Option β} (h:∀ b,(b=true→xs=[])→k b=r):R76 xs k=r:=by
 unfold R76
 cases xs with
 | nil=>rw [h true (fun _=>rfl),h false (fun e=>by cases e)]; simp
 | cons x l=>exact h false (fun e=>by cases e)
theorem J7d {α:Type} [DecidableEq α] {k:Nat} {s:List α} (h:s.length*k≤140737488355328∧s.length≤maxLen):(R76 s fun b4=>bif b4 then (some []) else (need (decide ((([]:List α).length+s.length)*k≤140737488355328∧([]:List α).length+s.length≤maxLen)) <| some (([]:List α)++s)))=some s:=by
 refine R75 (fun b hb=>?_)
 cases b with
 | true=>rw [hb rfl]; rfl
 | false=>
  rw [cond_false,Ky (show (([]:List α).length+s.length)*k≤140737488355328∧([]:List α).length+s.length≤maxLen by rw [List.length_nil,Nat.zero_add]; exact h)]
  rfl
theorem Y07 {n k:Nat} (hn:n≤1000000) (hk:k≤1000):n*k≤140737488355328∧n≤maxLen:=
 ⟨Nat.le_trans (Nat.mul_le_mul hn hk) (by decide),by simp only [maxLen]; omega⟩
theorem Q98 {s:List G1} (h:s.length≤1000000):Qz s=some s:=J7d (Y07 (k:=112) h (by decide))
theorem Q97 {s:List Ga} (h:s.length≤1000000):R8 s=some s:=J7d (Y07 (k:=32) h (by decide))
theorem Q96 {s:List Int} (h:s.length≤1000000):Qy s=some s:=J7d (Y07 (k:=8) h (by decide))
def Ha2 (b:Box):Bool:=decide (b.Size=20)||decide (b.Size=40)
theorem Hd5 (boxes:List Box) (i:Int):G2a boxes i=some (match Jp boxes i with
  | some b=>(b,Ha2 b)
  | none=>(Box.mk 0 ByteArray.empty 0 false 0 0 0 0 false,false)):=by
 unfold G2a
 rw [J6a]
 cases Jp boxes i <;> rfl
theorem R60 {β:Type} {Q:β→Prop} {boxes:List Box} {state:List G3} {ashore pre post:List Int} {y:Int} (e:ashore=pre++y::post) (ha:pre.length≤1000000) {A:Option β} {B:Box→Option β}
  (hA:(∀ b,Jp boxes y=some b→¬ (b.Size=20∨b.Size=40))∨(∃ p∈pre,y≤p)∨y∈state.map (·.Box)→Wp A Q)
  (hB:∀ b,Jp boxes y=some b→(b.Size=20∨b.Size=40)→Wp (B b) Q) :
  Wp (bnd (G2a boxes y) fun r162=>
     bnd (bif ((!(!r162.2))&&(decide (0 < (pre.length:Int)))) then chk ((pre.length:Int) - 1) some else some 0) fun v165=>
     bnd (bif ((!(!r162.2))&&(decide (0 < (pre.length:Int)))) then Qr ashore v165 some else some default) fun y166=>
     bnd (bif (!((!r162.2)||((decide (0 < (pre.length:Int)))&&(decide (y≤y166))))) then Jd state (fun z0=>Yo z0 y) else some default) fun r167=>
     bif (((!r162.2)||((decide (0 < (pre.length:Int)))&&(decide (y≤y166))))||r167) then A else B r162.1) Q:=by
 refine Gy (Hd5 boxes y) ?_
 cases hf:Jp boxes y with
 | none=>
  have hA:=hA (.inl fun b hb=>by rw [hf] at hb; cases hb)
  exact H8 (Gg (H8 (Gg (H8 (Gg hA)))))
 | some b=>
  simp only
  by_cases hz:b.Size=20∨b.Size=40
  ·have h0:Ha2 b=true:=by unfold Ha2; simpa using hz
   rw [h0]
   simp only [Bool.not_true,Bool.not_false,Bool.true_and,Bool.false_or]
   have hc:=Jb5 (l:=state) (f:=fun z0=>Yo z0 y) (p:=fun x=>decide (x.Box=y)) (fun x _=>rfl)
   have h5:(state.any fun x=>decide (x.Box=y))=true→y∈state.map (·.Box):=fun h=>by
    obtain⟨x,hx,e⟩:=List.any_eq_true.1 h
    exact Mi.2 ⟨x,hx,Kw e⟩
   by_cases hp:0 < (pre.length:Int)
   ·obtain⟨p,h1,h2,h3⟩:=Hf2 (l:=ashore) (y:=y) e (by omega)
    rw [Ky hp]
    simp only [cond_true,Bool.true_and]
    refine H8 (Z2 (by omega) (Gg (H8 (Zr (show (pre.length:Int) - 1=((pre.length - 1:Nat):Int) by omega) h1 (Gg ?_)))))
    by_cases h4:y≤p
    ·rw [Ky h4]
     exact H8 (Gg (hA (.inr (.inl ⟨p,h3,h4⟩))))
    ·rw [Kz h4]
     refine Gy hc (Hb (fun h=>hA (.inr (.inr (h5 (by simpa using h))))) (fun _=>hB b hf hz))
   ·rw [Kz hp]
    refine H8 (Gg (H8 (Gg (Gy hc (Hb (fun h=>hA (.inr (.inr (h5 (by simpa using h))))) (fun _=>hB b hf hz))))))
  ·have h0:Ha2 b=false:=by unfold Ha2; simpa using hz
   rw [h0]
   have hA:=hA (.inl fun d hd=>by rw [hf] at hd; cases hd; exact hz)
   exact H8 (Gg (H8 (Gg (H8 (Gg hA)))))
theorem Qae {β:Type} {Q:β→Prop} {s:G6} (hr:∀ x∈s.Covers,x.Rows.length≤1000000) {K:List Ga→Option β} (hK:Wp (K s.Covers) Q) :
  Wp (each (fun y41 i41 (s41:(List Ga)) nx41=>
   Qr s.Covers (i41:Int) fun y46=>
   bnd (Qy y46.Rows) fun r48=>
   Qr s41 (i41:Int) fun y49=>
   nx41 (s41.set (i41:Int).toNat (Ga.mk y49.Bay r48))) K s.Covers 0 s.Covers) Q:=by
 refine Q8 (fun _ t=>t=s.Covers) rfl (fun pre y post t nx e hI h0=>?_) (fun t ht=>by rw [ht]; exact hK)
 subst hI
 have hy:s.Covers[pre.length]? = some y:=by rw [e]; simp
 refine Zr rfl hy (Gy (Q96 (hr y (M3 hy))) (Zr rfl hy (h0 _ ?_)))
 apply List.ext_getElem?
 intro q
 rw [show ((pre.length:Int)).toNat=pre.length by omega,List.getElem?_set]
 split
 ·rename_i h
  subst h
  have:=(M0 hy).1
  rw [if_pos this,hy]
 ·rfl
theorem R5e {s:G6} {boxes:List Box} {l:List G3} {a:List Int} (hL:Q4d s) (hr:G27 s boxes l) (hl:l.length≤1000) (h5:a.length≤1000)
  (h2:∀ i∈a,∃ b,Jp boxes i=some b∧(b.Size=20∨b.Size=40)) (h0:a.Pairwise (· < ·)) (h3:∀ i∈a,i ∉ l.map (·.Box)) :
  Wp (G22 s boxes l a) (fun r=>r.2=0∧H07 s boxes r.1 ⟨l,[],a⟩∧r.1.lifts=0):=by
 have hs:=H7a hL
 have h6:=hL.covs.len
 have h7:=hs.cols.2
 unfold G22
 refine H8 (wp_mono (Q0f hs.right hs.tier (by omega)) (fun r4 h4=>Hb (fun h=>?_) (fun _=>?_)))
 ·rw [h4.2 hr] at h; cases h
 refine Gy (Q98 (by omega)) (Gy (Q97 (by omega)) (Qae (fun x hx=>by have:=hs.rows x hx; omega) ?_))
 refine Q8 (fun pre (st:Gv Slot Box)=>∀ y b,(y,b)∈Gv.Hc st ↔ (⟨b.ID,y⟩:G3)∈pre∧Jp boxes b.ID=some b) (fun y b=>⟨fun h=>(Jdb h).elim,fun h=>by cases h.1⟩) (fun pre x post st nx e hI h1=>?_) (fun st hI=>?_)
 ·have hx:x∈l:=by rw [e]; simp
  obtain⟨d,hd,_⟩:=hr.each x hx
  refine Gy (Hd5 boxes x.Box) ?_
  rw [hd]
  refine h1 _ (fun y b=>?_)
  have hid:=G95 hd
  show (y,b)∈Gv.Hc (Gv.put st x.Slot d) ↔ _
  rw [Jda,hI,Mh,Mj]
  constructor
  ·rintro(⟨rfl,rfl⟩ | ⟨g1,g2,g3⟩)
   ·exact⟨.inr (by rw [hid]),by rw [hid]; exact hd⟩
   ·exact⟨.inl g2,g3⟩
  ·rintro⟨g | g,g3⟩
   ·refine .inr ⟨fun h=>?_,g,g3⟩
    have ha:=hr.apart
    rw [e] at ha
    exact G92 ha _ g (by rw [show (⟨b.ID,y⟩:G3).Slot=x.Slot from h]; exact⟨rfl,rfl,.inl rfl⟩)
   ·have e1:b.ID=x.Box:=congrArg G3.Box g
    refine .inl ⟨congrArg G3.Slot g,?_⟩
    rw [e1,hd] at g3
    cases g3; rfl
 ·refine Q8 (fun pre (qt:Gv Int Box)=>∀ i b,(i,b)∈Gv.Hc qt ↔ i∈pre∧Jp boxes i=some b) (fun i b=>⟨fun h=>(Jdb h).elim,fun h=>by cases h.1⟩) (fun pre y post qt nx e hJ h1=>?_) (fun qt hJ=>?_)
  ·have hy:y∈a:=by rw [e]; simp
   refine R60 e (by have:=congrArg List.length e; simp only [Mc] at this; omega) (fun h=>?_) (fun b hb _=>h1 _ (fun i d=>?_))
   ·rcases h with h | ⟨p,hp,h⟩ | h
    ·obtain⟨b,hb,hz⟩:=h2 y hy
     exact(h b hb hz).elim
    ·rw [e] at h0
     have:=G92 h0 p hp
     omega
    ·exact(h3 y hy h).elim
   ·show (i,d)∈Gv.Hc (Gv.put qt y b) ↔ _
    rw [Jda,hJ,Mh,Mj]
    constructor
    ·rintro(⟨rfl,rfl⟩ | ⟨g1,g2,g3⟩)
     ·exact⟨.inr rfl,hb⟩
     ·exact⟨.inl g2,g3⟩
    ·rintro⟨g | g,g3⟩
     ·by_cases h:i=y
      ·subst h
       refine .inl ⟨rfl,?_⟩
       rw [hb] at g3
       cases g3; rfl
      ·exact .inr ⟨h,g,g3⟩
     ·subst g
      refine .inl ⟨rfl,?_⟩
      rw [hb] at g3
      cases g3; rfl
  ·exact Gg ⟨rfl,⟨rfl,rfl,hI,hJ,fun k v=>⟨fun h=>(Jdb h).elim,fun h=>by cases h.1⟩⟩,rfl⟩
def Q68 (boxes:List Box) (state:List G3) (a:List Int) (i:Nat) (y:Int):Prop:=
 (∀ b,Jp boxes y=some b→¬ (b.Size=20∨b.Size=40))∨(∃ p,0 < i∧a[i - 1]? = some p∧y≤p)∨y∈state.map (·.Box)
structure Gfa (s:G6) (boxes:List Box) (l:List G3) (a:List Int):Prop where
 ship:H06 s
 right:G27 s boxes l
 each:∀ i y,a[i]? = some y→¬ Q68 boxes l a i y
theorem Ya6 {a:List Int} (h:∀ i p y,a[i]? = some p→a[i+1]? = some y→p < y):a.Pairwise (· < ·):=by
 induction a with
 | nil=>exact List.Pairwise.nil
 | cons p r ih=>
  have hr:=ih (fun i q y h1 h2=>h (i+1) q y (by simpa using h1) (by simpa using h2))
  refine List.pairwise_cons.2 ⟨fun y hy=>?_,hr⟩
  cases r with
  | nil=>cases hy
  | cons q r=>
   have h0:=h 0 p q rfl rfl
   rcases Mk.1 hy with rfl | hy
   ·exact h0
   ·have:=(List.pairwise_cons.1 hr).1 y hy
    omega
theorem Gfa.box {s:G6} {boxes:List Box} {l:List G3} {a:List Int} (h:Gfa s boxes l a):∀ i∈a,∃ b,Jp boxes i=some b∧(b.Size=20∨b.Size=40):=fun i hi=>by
 obtain⟨j,hj⟩:=List.mem_iff_getElem?.1 hi
 have hb:=h.each j i hj
 cases hf:Jp boxes i with
 | none=>exact(hb (.inl fun b hb=>by rw [hf] at hb; cases hb)).elim
 | some b=>exact⟨b,rfl,Classical.byContradiction fun g=>hb (.inl fun d hd=>by rw [hf] at hd; cases hd; exact g)⟩
theorem Gfa.asc {s:G6} {boxes:List Box} {l:List G3} {a:List Int} (h:Gfa s boxes l a):a.Pairwise (· < ·):=Ya6 fun i p y h1 h2=>by
 have hb:=h.each (i+1) y h2
 rcases Int.lt_or_le p y with g | g
 ·exact g
 ·exact(hb (.inr (.inl ⟨p,by omega,h1,g⟩))).elim
theorem Gfa.dis {s:G6} {boxes:List Box} {l:List G3} {a:List Int} (h:Gfa s boxes l a):∀ i∈a,i ∉ l.map (·.Box):=fun i hi hm=>by
 obtain⟨j,hj⟩:=List.mem_iff_getElem?.1 hi
 exact h.each j i hj (.inr (.inr hm))
theorem J52 {α σ R:Type} {f:α→Nat→σ→(σ→Option R)→Option R} {k:σ→Option R} {A:Option R} (bad:Nat→α→Prop):∀ (xs:List α) (i:Nat) (s:σ),
  (∀ j y,xs[j]? = some y→∀ s nx,(bad (i+j) y∧f y (i+j) s nx=A)∨(¬ bad (i+j) y∧∃ s',f y (i+j) s nx=nx s'))→(∃ j y,xs[j]? = some y∧bad (i+j) y)→each f k xs i s=A
 | [],i,s,_,h=>by
  obtain⟨j,y,h1,_⟩:=h
  simp at h1
 | x::r,i,s,hf,h=>by
  rw [each]
  rcases hf 0 x rfl s (fun s=>each f k r (i+1) s) with ⟨_,e⟩ | ⟨hb,s',e⟩
  ·exact e
  ·refine Eq.trans e (J52 bad r (i+1) s' (fun j y hj s nx=>?_) ?_)
   ·have:=hf (j+1) y (by simpa using hj) s nx
    rw [show i+1+j=i+(j+1) by omega]
    exact this
   ·obtain⟨j,y,h1,h2⟩:=h
    cases j with
    | zero=>simp at h1; subst h1; exact(hb h2).elim
    | succ j=>exact⟨j,y,by simpa using h1,by rw [show i+1+j=i+(j+1) by omega]; exact h2⟩
theorem Jd1 {α σ R:Type} {f:α→Nat→σ→(σ→Option R)→Option R} {k:σ→Option R} {A:Option R} (hk:∀ s,k s=A):∀ (xs:List α) (i:Nat) (s:σ),(∀ j y,xs[j]? = some y→∀ s nx,∃ s',f y (i+j) s nx=nx s')→each f k xs i s=A
 | [],_,s,_=>hk s
 | x::r,i,s,hf=>by
  rw [each]
  obtain⟨s',e⟩:=hf 0 x rfl s (fun s=>each f k r (i+1) s)
  refine Eq.trans e (Jd1 hk r (i+1) s' (fun j y hj s nx=>?_))
  have:=hf (j+1) y (by simpa using hj) s nx
  rw [show i+1+j=i+(j+1) by omega]
  exact this
theorem Y29 {β:Type} {z:Int} {k:Int→Option β} (h1 : -9223372036854775808≤z∧z≤9223372036854775807):chk z k=k z:=by
 unfold chk Q8a
 rw [Ky h1.1,Ky h1.2]; rfl
theorem Jd0 {α β:Type} {l:List α} {i:Int} {k:α→Option β} {m:Nat} {x:α} (hi:i=(m:Int)) (hx:l[m]? = some x):Qr l i k=k x:=by
 subst hi
 unfold Qr
 rw [Ky (by omega:(0:Int)≤m),cond_true,show (m:Int).toNat=m by omega,hx]
 rfl
theorem Q9b {β:Type} {boxes:List Box} {state:List G3} {a:List Int} {i:Nat} {y:Int} (hi:i≤1000000) (hy:a[i]? = some y) {A:Option β} {B:Box→Option β} :
  (Q68 boxes state a i y∧(bnd (G2a boxes y) fun r162=>
     bnd (bif ((!(!r162.2))&&(decide (0 < (i:Int)))) then chk ((i:Int) - 1) some else some 0) fun v165=>
     bnd (bif ((!(!r162.2))&&(decide (0 < (i:Int)))) then Qr a v165 some else some default) fun y166=>
     bnd (bif (!((!r162.2)||((decide (0 < (i:Int)))&&(decide (y≤y166))))) then Jd state (fun z0=>Yo z0 y) else some default) fun r167=>
     bif (((!r162.2)||((decide (0 < (i:Int)))&&(decide (y≤y166))))||r167) then A else B r162.1)=A) ∨
  (¬ Q68 boxes state a i y∧∃ b,Jp boxes y=some b∧(bnd (G2a boxes y) fun r162=>
     bnd (bif ((!(!r162.2))&&(decide (0 < (i:Int)))) then chk ((i:Int) - 1) some else some 0) fun v165=>
     bnd (bif ((!(!r162.2))&&(decide (0 < (i:Int)))) then Qr a v165 some else some default) fun y166=>
     bnd (bif (!((!r162.2)||((decide (0 < (i:Int)))&&(decide (y≤y166))))) then Jd state (fun z0=>Yo z0 y) else some default) fun r167=>
     bif (((!r162.2)||((decide (0 < (i:Int)))&&(decide (y≤y166))))||r167) then A else B r162.1)=B b):=by
 rw [Hd5]
 cases hf:Jp boxes y with
 | none=>exact .inl ⟨.inl (fun b hb=>by rw [hf] at hb; cases hb),rfl⟩
 | some b=>
  simp only [Qt]
  by_cases hz:b.Size=20∨b.Size=40
  ·have h5:Ha2 b=true:=by unfold Ha2; simpa using hz
   rw [h5]
   simp only [Bool.not_true,Bool.not_false,Bool.true_and,Bool.false_or]
   have hc:=Jb5 (l:=state) (f:=fun z0=>Yo z0 y) (p:=fun x=>decide (x.Box=y)) (fun x _=>rfl)
   have h3:(state.any fun x=>decide (x.Box=y))=true ↔ y∈state.map (·.Box):=by
    rw [List.any_eq_true,Mi]
    exact⟨fun⟨x,hx,e⟩=>⟨x,hx,Kw e⟩,fun⟨x,hx,e⟩=>⟨x,hx,Ky e⟩⟩
   have h6:¬ (∀ d,some b=some d→¬ (d.Size=20∨d.Size=40)):=fun h=>h b rfl hz
   rw [hc]
   by_cases hp:0 < (i:Int)
   ·have hl:i - 1 < a.length:=by have:=(M0 hy).1; omega
    have hq:a[i - 1]? = some a[i - 1]:=M1 hl
    rw [Ky hp]
    simp only [cond_true,Bool.true_and]
    rw [Y29 (by omega),Qt,Jd0 (show (i:Int) - 1=((i - 1:Nat):Int) by omega) hq,Qt]
    by_cases h4:y≤a[i - 1]
    ·rw [Ky h4]
     exact .inl ⟨.inr (.inl ⟨_,by omega,hq,h4⟩),rfl⟩
    ·rw [Kz h4]
     simp only [Bool.not_false,cond_true,Bool.false_or,Qt]
     by_cases hm:y∈state.map (·.Box)
     ·rw [h3.2 hm]; exact .inl ⟨.inr (.inr hm),rfl⟩
     ·have:(state.any fun x=>decide (x.Box=y))=false:=by rw [← Bool.not_eq_true]; exact fun h=>hm (h3.1 h)
      rw [this]
      refine .inr ⟨?_,b,rfl,rfl⟩
      rintro(h | ⟨p,_,h1,h2⟩ | h)
      ·rw [hf] at h; exact h6 h
      ·rw [hq] at h1; cases h1; exact h4 h2
      ·exact hm h
   ·rw [Kz hp]
    simp only [cond_false,Bool.false_and,Bool.not_false,cond_true,Bool.false_or,Qt]
    by_cases hm:y∈state.map (·.Box)
    ·rw [h3.2 hm]; exact .inl ⟨.inr (.inr hm),rfl⟩
    ·have:(state.any fun x=>decide (x.Box=y))=false:=by rw [← Bool.not_eq_true]; exact fun h=>hm (h3.1 h)
     rw [this]
     refine .inr ⟨?_,b,rfl,rfl⟩
     rintro(h | ⟨p,h0,_⟩ | h)
     ·rw [hf] at h; exact h6 h
     ·omega
     ·exact hm h
  ·have h5:Ha2 b=false:=by unfold Ha2; simpa using hz
   rw [h5]
   exact .inl ⟨.inl (fun d hd=>by rw [hf] at hd; cases hd; exact hz),rfl⟩
theorem Q95 {R:Type} {s:G6} (hr:∀ x∈s.Covers,x.Rows.length≤1000000) {K:List Ga→Option R} {A:Option R} (hK:∀ t,K t=A) :
  each (fun y41 i41 (s41:(List Ga)) nx41=>
   Qr s.Covers (i41:Int) fun y46=>
   bnd (Qy y46.Rows) fun r48=>
   Qr s41 (i41:Int) fun y49=>
   nx41 (s41.set (i41:Int).toNat (Ga.mk y49.Bay r48))) K s.Covers 0 s.Covers=A:=by
 have key:∀ (xs:List Ga) (i:Nat) (t:List Ga),t.length=s.Covers.length→i+xs.length≤s.Covers.length→each (fun y41 i41 (s41:(List Ga)) nx41=>
   Qr s.Covers (i41:Int) fun y46=>
   bnd (Qy y46.Rows) fun r48=>
   Qr s41 (i41:Int) fun y49=>
   nx41 (s41.set (i41:Int).toNat (Ga.mk y49.Bay r48))) K xs i t=A:=by
  intro xs
  induction xs with
  | nil=>exact fun i t _ _=>hK t
  | cons x r ih=>
   intro i t ht hi
   rw [M8] at hi
   have h1:s.Covers[i]? = some s.Covers[i]:=M1 (by omega)
   have h2:t[i]? = some t[i]:=M1 (by omega)
   rw [each,Jd0 rfl h1,Q96 (hr _ (M3 h1)),Qt,Jd0 rfl h2]
   exact ih (i+1) _ (by rw [List.length_set]; exact ht) (by omega)
 exact key _ 0 _ rfl (by omega)
theorem R5f {s:G6} {boxes:List Box} {l:List G3} {a:List Int} (hp:∀ c∈s.Columns,c.Plugs.length≤1048576) (hr:∀ x∈s.Covers,x.Rows.length≤1000000) (hc:s.Columns.length≤1000) (hv:s.Covers.length≤1000)
  (hl:l.length≤1000) (h6:a.length≤1000) (h:¬ Gfa s boxes l a):G22 s boxes l a=none∧Gb2 s boxes l a=some 2:=by
 obtain⟨r,h5,h4⟩:=Rdb (s:=s) (boxes:=boxes) (l:=l) hp (fun x hx=>by have:=hr x hx; omega) (by omega)
 unfold G22 Gb2
 rw [h5,Qt,Qt]
 cases r with
 | false=>exact⟨rfl,rfl⟩
 | true=>
  obtain⟨hS,hR⟩:=h4.1 rfl
  have h3:∃ j y,a[j]? = some y∧Q68 boxes l a (0+j) y:=by
   apply Classical.byContradiction
   intro g
   refine h ⟨hS,hR,fun i y hy hb=>g ⟨i,y,hy,by rw [Nat.zero_add]; exact hb⟩⟩
  have hj:∀ j y,a[j]? = some y→0+j≤1000000∧a[0+j]? = some y:=fun j y hj=>⟨by have:=(M0 hj).1; omega,by rw [Nat.zero_add]; exact hj⟩
  rw [Q98 (by omega),Qt,Q97 (by omega),Qt]
  constructor
  ·refine Q95 hr (fun t=>Jd1 (fun q=>J52 (Q68 boxes l a) _ _ _ (fun j y h0 s nx=>?_) h3) _ _ _ (fun j y _ s nx=>?_))
   ·rcases Q9b (boxes:=boxes) (state:=l) (hj j y h0).1 (hj j y h0).2 (A:=(none:Option (Gh×Int))) (B:=fun b=>nx (Gv.put s y b)) with ⟨h1,h2⟩ | ⟨h1,b,_,h2⟩
    ·exact .inl ⟨h1,h2⟩
    ·exact .inr ⟨h1,_,h2⟩
   ·exact⟨_,by rw [Hd5,Qt]⟩
  ·refine Q95 hr (fun t=>Jd1 (fun q=>J52 (Q68 boxes l a) _ _ _ (fun j y h0 s nx=>?_) h3) _ _ _ (fun j y _ s nx=>?_))
   ·rcases Q9b (boxes:=boxes) (state:=l) (hj j y h0).1 (hj j y h0).2 (A:=(some 2:Option Int)) (B:=fun b=>nx (Gv.put s y b)) with ⟨h1,h2⟩ | ⟨h1,b,_,h2⟩
    ·exact .inl ⟨h1,h2⟩
    ·exact .inr ⟨h1,_,h2⟩
   ·exact⟨_,by rw [Hd5,Qt]⟩
end Go.Proofs.YtmfhaflabpnaoaaGreat
