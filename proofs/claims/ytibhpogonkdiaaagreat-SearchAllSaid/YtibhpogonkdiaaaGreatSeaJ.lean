/-
 Small ships; search.states and search.Least over a list that can be evalu The examples of chapter 28. SearchAll. SearchAll.
-/
import Derived.Test.YtibhpogonkdiaaaGreatSeaE
import Derived.Test.YtibhpogonkdiaaaGreatXW
set_option linter.unusedVariables false
set_option linter.unusedSimpArgs false
set_option linter.unnecessarySimpa false
set_option maxRecDepth 100000
namespace Go.Proofs.YtibhpogonkdiaaaGreat
open Go.RowKit

def limit (c:G6):G6:=G6.mk c.Bay c.Row c.Deck (min c.Tiers 3) c.Height c.Kilos20 c.Kilos40 c.Lash c.Plugs c.X c.Y c.Z
structure J7c (s:Gf):Prop where
 built:Hd6 s
 few:s.Columns.length≤3
 low:∀ c∈s.Columns,2≤c.Tiers∧c.Tiers≤3
theorem Qf6 (l:List H4) (covers:Int) (hp:∀ p∈l,Hcf p):Wp (Y0 l covers) J7c:=by
 unfold Y0
 refine J1 (H08 (m:=min l.length 3) (by omega) (by omega) ?_)
 refine J1 (wp_mono (J1d (l.take (min l.length 3)) covers fun p h=>hp p (List.mem_of_mem_take h)) fun s0 h0=>?_)
 obtain⟨h0,h3⟩:=h0
 rw [List.length_take] at h3
 refine R1 (fun pre s28=>s28=pre.map limit++s0.Columns.drop pre.length) (by simp) (fun pre y post s28 nx e hI h2=>?_) (fun s28 hI=>Ha ?_)
 ·have hd:s0.Columns.drop pre.length=y::post:=by rw [e]; simp
  have hy:s28[pre.length]? = some y:=by rw [hI,hd]; simp
  refine Zb (m:=pre.length) rfl hy (Zb (m:=pre.length) rfl hy (h2 _ ?_))
  have h4:s0.Columns.drop (pre++[y]).length=post:=by rw [e]; simp
  rw [Int.toNat_natCast,hI,hd,h4]
  rw [List.set_append_right _ _ (by simp)]
  simp [limit]
 ·rw [hI,List.drop_length,List.append_nil]
  have hc:=h0.cols
  refine⟨⟨by simpa using h0.some,⟨by simpa using hc.len,fun c hm=>?_,?_⟩,h0.covs⟩,by simp; omega,fun c hm=>?_⟩
  ·obtain⟨c,h1,rfl⟩:=Mf.1 hm
   obtain⟨a1,a2,a3,a4,a5,a6,a7,a8,a9,a10,a11⟩:=hc.each c h1
   exact⟨a1,a2,by show 2≤min c.Tiers 3∧min c.Tiers 3≤5; omega,a4,a5,a6,a7,a8,a9,a10,a11⟩
  ·rw [List.map_map]
   exact hc.nodup
  ·obtain⟨c,h1,rfl⟩:=Mf.1 hm
   have:=(hc.each c h1).tiers
   show 2≤min c.Tiers 3∧min c.Tiers 3≤3
   omega
theorem J7c.right {s:Gf} (h:J7c s):Qu s=some true:=Q52 h.built
theorem R71 {s:Gf} (h:∀ c∈s.Columns,0≤c.Tiers∧c.Tiers≤3):Wp (G30 s) (fun t=>t≤3):=by
 unfold G30
 refine R1 (fun pre t=>t≤3) (by omega) (fun pre y post t nx e hI h0=>?_) (fun t hI=>Ha hI)
 have:=h y (by rw [e]; simp)
 exact Gb1 (fun t=>t≤3) (fun K hK=>Qm (fun _=>hK _ this.2) (fun _=>hK _ hI)) (fun t ht=>h0 _ ht)
theorem little {s:Gf} (h1:s.Columns.length≤3) (h2:∀ c∈s.Columns,0≤c.Tiers∧c.Tiers≤3):Z9 s=some true:=by
 refine H41 ?_
 unfold Z9
 have hd:decide ((s.Columns.length:Int)≤3)=true:=Kv (by omega)
 rw [hd]
 exact J1 (wp_mono (R71 h2) fun t ht=>Ha (by rw [Kv ht]; rfl))
theorem R1c {F:Nat} {s:Gf} {boxes:List Box} {ids:List Int} (hr:Qu s=some true) (hc:s.Columns.length≤3) (ht:∀ c∈s.Columns,0≤c.Tiers∧c.Tiers≤3) (hw:Whole boxes ids) (hl:ids.length≤4) (hF:ids.length < F) :
  Wp (Yi F s boxes ids) (fun r=>r.2=0∧Qe4 F s boxes ids r.1):=by
 unfold Yi
 refine J0 hr ?_
 simp only [Bool.not_true,cond_false]
 refine R1 (fun _ _=>True) trivial (fun pre y post u nx e _ h2=>?_) (fun u _=>?_)
 ·obtain⟨b,hb,h4⟩:=hw.size y (by rw [e]; simp)
  refine J0 (He1 boxes y) ?_
  rw [hb]
  simp only [Bool.not_true,Bool.false_or,h4,ne_eq,not_true_eq_false,decide_false,Bool.not_false,Bool.true_and]
  cases h3:decide (0 < (pre.length:Int)) with
  | false=>
   simp only [cond_false,Bool.false_and]
   exact J1 (Ha (J1 (Ha (h2 _ trivial))))
  | true=>
   have hp:=Kt h3
   simp only [cond_true,Bool.true_and]
   have h1:pre.length - 1 < pre.length:=by omega
   have h6:pre.length < ids.length:=by rw [e]; simp
   have hz:ids[pre.length - 1]? = some pre[pre.length - 1]:=by rw [e,M4 h1,Ky h1]
   refine J1 (Rw ⟨by omega,by omega⟩ (Ha (J1 (Zb (m:=pre.length - 1) (by omega) hz (Ha ?_)))))
   have hs:=hw.sorted
   rw [e] at hs
   have:=(List.pairwise_append.1 hs).2.2 _ (List.getElem_mem h1) y (List.mem_cons_self ..)
   rw [Kw (by omega),cond_false]
   exact h2 _ trivial
 ·refine J0 (little hc ht) ?_
  rw [Kw (by omega)]
  simp only [Bool.not_true,Bool.or_self,cond_false]
  refine J1 (wp_mono (Q31 hr (by omega) (fun c hm=>by have:=ht c hm; omega) hw (by omega) hF ?_) fun R hR=>Ha ⟨rfl,hR⟩)
  have h5:(Rx s).length≤3:=by unfold Rx; simpa using hc
  rcases Nat.eq_zero_or_pos (Rx s).length with h0 | h0
  ·unfold G29
   cases F with
   | zero=>omega
   | succ F=>
    rw [Gd7,h0]
    cases ids.isEmpty <;> simp
  ·have:=Jf9 (ts:=Rx s) (m:=4) (by omega) (F:=F) (ids:=ids) (hs:=List.replicate s.Columns.length 0) hl
   refine Nat.le_trans this (Nat.le_trans (Nat.pow_le_pow_left (show (Rx s).length*4≤12 by omega) _) (Nat.le_trans (Nat.pow_le_pow_right (by omega) hl) (by decide)))
theorem Q69 {F:Nat} {s:Gf} {boxes:List Box} {ids:List Int} (hh:∀ c∈s.Columns,c.Height≤0) (hw:Whole boxes ids):∀ r∈G29 F s ids,G52 s boxes (canon r):=fun r hr=>by
 obtain⟨w1,w2,w3⟩:=Gc4 hr
 have h0:=Zy r
 have h3:=Gc2 w1 hw.sorted
 have h6:∀ z:Slot,z∈(canon r).map (·.Slot) ↔ z∈r.map (·.Slot):=fun z=>(h0.map _).mem_iff
 refine⟨fun x hx=>?_,List.pairwise_map.1 (by rw [h3]; exact hw.sorted),?_,fun m c hc=>.inl (hh c (M0 hc))⟩
 ·have h4:=h0.mem_iff.1 hx
  obtain⟨b,hb,h7⟩:=hw.size x.Box (by rw [← h3]; exact List.mem_map_of_mem hx)
  obtain⟨e0,c,e1,e2,e3,e4,_⟩:=w2.place x h4
  rw [H4e] at e3
  have h5:c < s.Columns.length:=by unfold Rx at e2; simpa using e2
  have h8:(Rx s).getD c 0=s.Columns[c].Tiers:=by unfold Rx; simp [List.getD,h5]
  refine⟨b,hb,⟨⟨c,s.Columns[c],e1,Ky h5,by rw [← h8]; exact e4⟩,e3,by rw [h7]; simp [Hc6,e0]⟩,?_⟩
  rcases w2.held x h4 with h | ⟨y,hy,h9⟩
  ·have:=h c e1
   rw [H4e] at this
   exact .inl this
  ·refine .inr (.inl ?_)
   unfold below
   rw [h6,e0,← h9]
   exact List.mem_map_of_mem hy
 ·have hd:(canon r).Pairwise (fun a b=>a.Slot≠b.Slot):=h0.symm.pairwise (w3.imp fun {a b} h e=>by
   unfold He2 at h
   rw [e] at h
   omega) (fun h e=>h e.symm)
  refine hd.imp_of_mem fun {a b} ha hb a0 hm=>a0 ?_
  obtain⟨f0,_⟩:=w2.place a (h0.mem_iff.1 ha)
  obtain⟨g0,_⟩:=w2.place b (h0.mem_iff.1 hb)
  obtain⟨m1,m2,_⟩:=hm
  obtain⟨ba,⟨c1,t1,h1⟩⟩:=a
  obtain⟨bb,⟨c2,t2,h2⟩⟩:=b
  simp only at m1 m2 f0 g0
  rw [m1,m2,f0,g0]
theorem R7e:∀ {a b:List G1},Rz a b < 0→Rz a b = -1:=by
 have h3:∀ x y:Int,G28 x y = -1∨G28 x y=0∨G28 x y=1:=fun x y=>by
  unfold G28
  by_cases h:x < y
  ·simp [h]
  ·by_cases h2:y < x <;> simp [h,h2]
 have hs:∀ a b:Slot,G43 a b = -1∨G43 a b=0∨G43 a b=1:=fun a b=>by
  rw [J31]; unfold J23
  rcases h3 a.G6 b.G6 with h | h | h <;> simp [h]
  rcases h3 a.Tier b.Tier with h | h | h <;> simp [h]
  exact h3 _ _
 intro a
 induction a with
 | nil=>intro b h; cases b <;> simp [Rz] at h ⊢
 | cons x a ih=>
  intro b h
  cases b with
  | nil=>simp [Rz] at h
  | cons y b=>
   unfold Rz at h ⊢
   rcases hs x.Slot y.Slot with h1 | h1 | h1 <;> simp [h1] at h ⊢
   exact ih h
theorem Qac {s:Gf} (h1:1≤s.Columns.length∧s.Columns.length≤100) (h2:∀ c∈s.Columns,1≤c.Tiers∧c.Tiers≤100):Wp (G89 s 40) (fun r=>1≤r.length∧r.length≤10000):=by
 unfold G89
 refine J0 (show Gbb s 40=some () from rfl) ?_
 have h4:Wp (G70 s 40) (fun r=>1≤r.length∧r.length≤10000):=by
  unfold G70
  refine R1 (fun pre r=>r.length≤100*pre.length∧(pre≠[]→1≤r.length)) ⟨by simp,fun h=>(h rfl).elim⟩ (fun pre c post r nx e hI h0=>?_) (fun r hI=>Ha ⟨hI.2 (fun h=>by rw [h] at h1; simp at h1),by omega⟩)
  have ht:=h2 c (by rw [e]; simp)
  refine Yq (Kv (by omega)) ?_
  refine Je2 (fun i r'=>r'.length=r.length+i) rfl (fun i r' nx2 hi h5 h3=>?_) (fun r' h5=>h0 _ ⟨?_,fun _=>?_⟩)
  ·refine J0 (J0d 40) ?_
   show Wp (each _ _ [0] 0 r') _
   simp only [each]
   exact h3 _ (by simp only [M9,Ma]; omega)
  ·simp only [M9,Ma]; omega
  ·omega
 refine J1 (wp_mono h4 fun ys h6=>?_)
 refine R1 (fun pre r=>r=pre) rfl (fun pre y post r nx e hI h0=>?_) (fun r hI=>by subst hI; exact Ha h6)
 subst hI
 have hl:r.length < ys.length:=by rw [e]; simp
 exact Yq (G92 (by rw [Ma]; omega) (by omega)) (h0 _ rfl)
open Go.RowKit Go.Sort

def Ge9 (F:Nat) (s:Gf) (boxes:List Box) (ids:List Int):List (List G1):=H29 Rz (((G29 F s ids).map canon).filter fun l=>(Qw s boxes l).getD false)
theorem R00 {F:Nat} {s:Gf} {boxes:List Box} {ids:List Int} (hr:Qu s=some true) (hc:s.Columns.length≤1000) (ht:∀ c∈s.Columns,c.Tiers≤1000000) (hw:Whole boxes ids) (hl:ids.length≤1000) (hF:ids.length < F) (hn:(G29 F s ids).length≤1000000) :
  Q9 F s boxes ids=some (Ge9 F s boxes ids):=by
 have h5:ids.Nodup:=hw.sorted.imp fun h=>by omega
 refine H41 ?_
 unfold Q9
 have h7:J10 (s.Columns.length:Int)=some s.Columns.length:=by unfold J10; rw [Kv (by omega)]; simp
 refine J0 h7 (Yq (Kv ⟨by omega,Nat.le_trans hc (by decide),by omega⟩) ?_)
 refine J0 (x:=()) rfl ?_
 refine J0 (Jd0 s F ids (List.replicate s.Columns.length 0) (by simp) hc (fun h hh=>by rw [List.mem_replicate] at hh; omega) hF hl) ?_
 show Wp (each _ _ (G29 F s ids) 0 []) _
 have h8:(G29 F s ids).Pairwise (fun a b=>¬ a.Perm b):=Ha2 (by unfold Rx; simp) (fun h hh=>by rw [List.mem_replicate] at hh; omega) h5
 refine R1 (fun pre s18=>s18=(pre.map canon).filter fun l=>(Qw s boxes l).getD false) rfl (fun pre y post s18 nx e hI h6=>?_) (fun s18 hI=>?_)
 ·have hy:y∈G29 F s ids:=by rw [e]; simp
  obtain⟨w1,w2,w3⟩:=Gc4 hy
  have h9:y.length=ids.length:=by have:=w1.length_eq; simpa using this
  refine J0 (J0a (w1.nodup_iff.2 h5) (by omega)) ?_
  have a8:(canon y).length=ids.length:=by rw [(Zy y).length_eq,h9]
  obtain⟨b,hb,_⟩:=H23 (boxes:=boxes) (l:=canon y) hr ht (by omega)
  refine J0 hb ?_
  have a6:pre.length < (G29 F s ids).length:=by rw [e]; simp
  have a9:s18.length≤pre.length:=by rw [hI]; exact Nat.le_trans (Kq ..) (by simp)
  refine Qm (fun a0=>?_) (fun a1=>?_)
  ·refine Yq (Kv ⟨?_,?_⟩) (h6 _ ?_)
   ·rw [Ma]; omega
   ·rw [Ma]; exact Nat.le_trans (by omega:s18.length+1≤1000001) (by decide)
   ·rw [hI,List.map_append,List.filter_append]
    simp [hb,a0]
  ·refine h6 _ ?_
   rw [hI,List.map_append,List.filter_append]
   simp [hb,a1]
 ·have a2:s18.Pairwise (fun a b=>Rz a b≠0):=by
   rw [hI]
   refine List.Pairwise.filter _ (List.pairwise_map.2 (h8.imp_of_mem fun {a b} ha hb hp hz=>hp ?_))
   have e1:=Gc2 (Gc4 ha).1 hw.sorted
   have e2:=Gc2 (Gc4 hb).1 hw.sorted
   have a3:canon a=canon b:=Jec (by rw [e1,e2]) (He5 hz)
   exact(Zy a).symm.trans (by rw [a3]; exact Zy b)
  have a7:s18.length≤1000000:=by rw [hI]; exact Nat.le_trans (Kq ..) (by simpa using hn)
  have h0:∀ a∈s18,∀ b∈s18,Rz a b=0→a=b:=fun a ha b hb h=>by
   obtain⟨i,hi,rfl⟩:=List.mem_iff_getElem.1 ha
   obtain⟨j,hj,rfl⟩:=List.mem_iff_getElem.1 hb
   have hp:=List.pairwise_iff_getElem.1 a2
   rcases Nat.lt_trichotomy i j with a4 | rfl | a5
   ·exact(hp i j hi hj a4 h).elim
   ·rfl
   ·have:=Zm.anti s18[i] s18[j]
    exact(hp j i hj hi a5 (by omega)).elim
  have h3:∀ r',r'.Perm s18→G3b Rz r'→r'=H29 Rz s18:=fun r' hp hs=>by
   refine List.Perm.eq_of_pairwise (le:=J24 Rz) (fun a b ha hb h1 h2=>?_) (hs.imp fun h=>Ku h) (Yx Zm.ordc s18) (hp.trans (Yf _ _).symm)
   have:=Zm.anti a b
   exact h0 a (hp.mem_iff.1 ha) b ((Yf _ _).mem_iff.1 hb) (by omega)
  have h4:H4b (fun z0 z1=>Re z0 z1) s18=some (H29 Rz s18):=Jbb Rz H57 (Jeb Zm.ordc) (by omega) (Yf _ _) ((Yx Zm.ordc s18).imp fun h=>Kw h) h3
  refine J0 h4 (Ha ?_)
  unfold Ge9
  rw [hI]

def H62 (st:Gf→List Box→List Int→Option (List (List G1))) (F:Nat) (s:Gf) (boxes:List Box) (calls:Int):Option (G60×Int×Int):=
 bnd (G0b s boxes calls) fun r4=>
 bif (!r4) then
 (some ((G60.mk [] []),0,5))
 else
 (need (decide (calls≤9223372036854775807)) <|
  upto (fun i53 (s53:(List (List (List G1)))) nx53=>
   bnd (Rk boxes (i53:Int)) fun r59=>
   bnd (st s boxes r59) fun r60=>
   need (decide ((s53.length+[r60].length)*24≤140737488355328∧s53.length+[r60].length≤maxLen)) <|
   Ju (s53++[r60]) (i53:Int) fun y63=>
   bif decide ((y63.length:Int)=0) then
   (some ((G60.mk [] []),0,4))
   else
   (nx53 (s53++[r60])))
  (fun(s53:(List (List (List G1))))=>
   Ju s53 0 fun y73=>
   each (fun y99 i99 (s99:Int×(Gu Gs Gd)) nx99=>
    jp (fun kj102=>
     bnd (Qe F 0 (i99:Int) s99.2 calls s53 (fun z0 z1=>Jp F z0 z1 s boxes)) fun r105=>
     bnd (Qe F 0 s99.1 r105.2 calls s53 (fun z0 z1=>Jp F z0 z1 s boxes)) fun r106=>
     bif decide (r105.1.restows < r106.1.restows) then
     (kj102 ((i99:Int),r106.2))
     else
     (kj102 (s99.1,r106.2))) fun(j102:Int×(Gu Gs Gd))=>
    nx99 (j102.1,j102.2))
   (fun(s99:Int×(Gu Gs Gd))=>
    bnd (Qe F 0 s99.1 s99.2 calls s53 (fun z0 z1=>Jp F z0 z1 s boxes)) fun r108=>
    need (decide (calls≤9223372036854775807)) <|
    upto (fun i152 (s152:Int×(List (List G1))×(List (List Int))×(Gu Gs Gd)) nx152=>
     Ju s53 (i152:Int) fun y158=>
     Ju y158 s152.1 fun y160=>
     need (decide ((s152.2.1.length+[y160].length)*24≤140737488355328∧s152.2.1.length+[y160].length≤maxLen)) <|
     bnd (Qe F (i152:Int) s152.1 s152.2.2.2 calls s53 (fun z0 z1=>Jp F z0 z1 s boxes)) fun r163=>
     nx152 (r163.1.next,(s152.2.1++[y160]),s152.2.2.1,r163.2))
    (fun(s152:Int×(List (List G1))×(List (List Int))×(Gu Gs Gd))=>
     some ((G60.mk s152.2.1 s152.2.2.1),r108.1.restows,0)) calls.toNat 0 (s99.1,[],[],r108.2)) y73 0 (0,(Gu.empty:Gu Gs Gd))) calls.toNat 0 [])
theorem R80 (F:Nat) (s:Gf) (boxes:List Box) (calls:Int):Qf F s boxes calls=H62 (Q9 F) F s boxes calls:=rfl
theorem R1a {α β:Type} {m:Option α} {k k':α→Option β} (h:∀ x,m=some x→k x=k' x):bnd m k=bnd m k':=by
 cases m with
 | none=>rfl
 | some x=>exact h x rfl
theorem Q45 {st st':Gf→List Box→List Int→Option (List (List G1))} {F:Nat} {s:Gf} {boxes:List Box} {calls:Int} (h:∀ (i:Int) r,Rk boxes i=some r→st s boxes r=st' s boxes r):H62 st F s boxes calls=H62 st' F s boxes calls:=by
 unfold H62
 have e:∀ {β:Type} (i:Int) (k:List Int→List (List G1)→Option β),bnd (Rk boxes i) (fun r=>bnd (st s boxes r) (k r))=bnd (Rk boxes i) (fun r=>bnd (st' s boxes r) (k r)):=fun i k=>R1a fun r hr=>by rw [h i r hr]
 congr 1
 funext r4
 congr 1
 congr 1
 congr 1
 funext i53 s53 nx53
 exact e _ _

def abB (k:Int) (b:Box):Bool:=decide (b.Load≤k)&&decide (k < b.Discharge)
def H2e (boxes:List Box) (k:Int):List Int:=(boxes.filter (abB k)).map (·.ID)
theorem Ha0 {α:Type} (p:α→Bool) (l:List α) (x:α):(l++[x]).filter p=l.filter p++(bif p x then [x] else []):=by
 rw [List.filter_append]
 cases h:p x <;> simp [h]
theorem Q40 (boxes:List Box) (k:Int) (hl:boxes.length≤100000):Rk boxes k=some (H2e boxes k):=by
 refine H41 ?_
 unfold Rk H2e
 refine R1 (fun pre s=>s=(pre.filter (abB k)).map (·.ID)) rfl (fun pre y post s nx e hs h0=>?_) (fun s hs=>Ha hs)
 subst hs
 have hp:pre.length+1≤boxes.length:=by rw [e]; simp
 have hf:=Kq (abB k) pre
 refine Gb1 (fun j=>j=((pre++[y]).filter (abB k)).map (·.ID)) (fun K hK=>Qm (fun h=>Yq (G92 (by simp only [Md,Ma]; omega) (by omega)) (hK _ ?_)) (fun h=>hK _ ?_)) (fun j hj=>h0 _ hj)
 ·have h':abB k y=true:=h
  rw [Ha0,h']; simp
 ·have h':abB k y=false:=h
  rw [Ha0,h']; simp
structure Jdd (boxes:List Box):Prop where
 sorted:boxes.Pairwise (fun a b=>a.ID < b.ID)
 size:∀ b∈boxes,b.Size=40
theorem Qe0 {boxes:List Box} (h:boxes.Pairwise (fun a b=>a.ID < b.ID)) {b:Box} (hb:b∈boxes):G94 boxes b.ID=some b:=by
 unfold G94
 induction boxes with
 | nil=>cases hb
 | cons x r ih=>
  rw [List.pairwise_cons] at h
  rcases Mh.1 hb with rfl | hb
  ·simp
  ·have:=h.1 b hb
   rw [List.find?_cons_of_neg (by simp; omega)]
   exact ih h.2 hb
theorem Jdd.whole {boxes:List Box} (h:Jdd boxes) (k:Int):Whole boxes (H2e boxes k):=by
 refine⟨?_,fun id hid=>?_⟩
 ·unfold H2e
  exact List.pairwise_map.2 ((h.sorted.filter _).imp fun h=>h)
 ·unfold H2e at hid
  obtain⟨b,hb,rfl⟩:=Mf.1 hid
  have h0:=(Mi.1 hb).1
  exact⟨b,Qe0 h.sorted h0,h.size b h0⟩
theorem Qbd (boxes:List Box) (k:Int):(H2e boxes k).length≤boxes.length:=by
 unfold H2e
 rw [Md]
 exact Kq _ _
structure Qbf (s:Gf):Prop where
 right:Qu s=some true
 cols:s.Columns.length≤3
 tiers:∀ c∈s.Columns,0≤c.Tiers∧c.Tiers≤3
theorem Qcf {F:Nat} {s:Gf} {ids:List Int} (hc:s.Columns.length≤3) (hl:ids.length≤4):(G29 F s ids).length≤1000000:=by
 have h1:(Rx s).length≤3:=by unfold Rx; simpa using hc
 rcases Nat.eq_zero_or_pos (Rx s).length with h0 | h0
 ·unfold G29
  cases F with
  | zero=>simp [G19]
  | succ F=>
   rw [Gd7,h0]
   cases ids.isEmpty <;> simp
 ·have:=Jf9 (ts:=Rx s) (m:=4) (by omega) (F:=F) (ids:=ids) (hs:=List.replicate s.Columns.length 0) hl
  refine Nat.le_trans this (Nat.le_trans (Nat.pow_le_pow_left (show (Rx s).length*4≤12 by omega) _) (Nat.le_trans (Nat.pow_le_pow_right (by omega) hl) (by decide)))
theorem Jb9 {F:Nat} {s:Gf} {boxes:List Box} {ids:List Int} (hs:Qbf s) (hw:Whole boxes ids) (hl:ids.length≤4) (hF:ids.length < F):Q9 F s boxes ids=some (Ge9 F s boxes ids):=
 R00 hs.right (by have:=hs.cols; omega) (fun c hc=>by have:=hs.tiers c hc; omega) hw (by omega) hF (Qcf hs.cols hl)
theorem J69 {F:Nat} {s:Gf} {boxes:List Box} {calls:Int} (hs:Qbf s) (hb:Jdd boxes) (hl:boxes.length≤4) (hF:boxes.length < F):Qf F s boxes calls=H62 (fun s boxes ids=>some (Ge9 F s boxes ids)) F s boxes calls:=by
 rw [R80]
 refine Q45 fun i r hr=>?_
 rw [Q40 boxes i (by omega)] at hr
 cases hr
 have:=Qbd boxes i
 exact Jb9 hs (hb.whole i) (by omega) (by omega)

def tw (n:Nat):Gf:=Gf.mk ((List.range n).map fun(i:Nat)=>G6.mk 0 (i:Int) false 2 0 0 0 0 [] 0 0 0) [] (Light.mk 0 0 0 0) [] [] [] (Gm.mk 0 0 0 0)
def bxA:List Box:=[(Box.mk 1 ByteArray.empty 40 false 0 0 2 0 false),(Box.mk 2 ByteArray.empty 40 false 0 1 3 0 false)]
def bxB:List Box:=[(Box.mk 1 ByteArray.empty 40 false 0 0 1 0 false),(Box.mk 2 ByteArray.empty 40 false 0 0 1 0 false),(Box.mk 3 ByteArray.empty 40 false 0 0 1 0 false)]
theorem Hae {n:Nat} (h:1≤n∧n≤3):Qbf (tw n):=by
 have h:n=1∨n=2∨n=3:=by omega
 rcases h with rfl | rfl | rfl <;> exact⟨by kernel_rfl,by decide,by decide⟩
theorem Jd5:Jdd bxA:=⟨by unfold bxA; simp,by unfold bxA; simp⟩
theorem R19:Jdd bxB:=⟨by unfold bxB; simp,by unfold bxB; simp⟩
theorem R6c:Whole bxA [1,2]:=⟨by simp,fun id hid=>by
 simp at hid
 rcases hid with rfl | rfl
 ·exact⟨_,rfl,rfl⟩
 ·exact⟨_,rfl,rfl⟩⟩
theorem R86:Ro 60=some true:=by
 have t1:Jc 1=some (tw 1):=by kernel_rfl
 have t2:Jc 2=some (tw 2):=by kernel_rfl
 have t3:Jc 3=some (tw 3):=by kernel_rfl
 have t4:Jc 4=some (tw 4):=by kernel_rfl
 have l1:Qf 60 (tw 1) bxA 4=H62 (fun s boxes ids=>some (Ge9 60 s boxes ids)) 60 (tw 1) bxA 4:=J69 (Hae (by decide)) Jd5 (by decide) (by decide)
 have l2:Qf 60 (tw 2) bxA 4=H62 (fun s boxes ids=>some (Ge9 60 s boxes ids)) 60 (tw 2) bxA 4:=J69 (Hae (by decide)) Jd5 (by decide) (by decide)
 have l3:Qf 60 (tw 1) bxB 2=H62 (fun s boxes ids=>some (Ge9 60 s boxes ids)) 60 (tw 1) bxB 2:=J69 (Hae (by decide)) R19 (by decide) (by decide)
 have s1:Q9 60 (tw 2) bxA [1,2]=some (Ge9 60 (tw 2) bxA [1,2]):=Jb9 (Hae (by decide)) R6c (by decide) (by decide)
 unfold Ro
 rw [t1,G9f]
 show bnd (Qf 60 (tw 1) bxA 4) _=_
 rw [l1,t2]
 simp only [G9f]
 show bnd _ (fun r5=>bnd (Qf 60 (tw 2) bxA 4) _)=_
 rw [l2]
 unfold Yi
 show bnd _ (fun r5=>bnd _ fun r8=>bnd (bnd _ fun r4=>bif _ then _ else each _ (fun _=>bnd _ fun r43=>bif _ then _ else bnd (Q9 60 (tw 2) bxA [1,2]) _) _ _ _) fun r11=>bnd (Qf 60 (tw 1) bxB 2) _)=_
 rw [s1,l3]
 kernel_rfl

theorem Q4f {α γ σ β:Type} {b:γ→Nat→σ→(σ→Option β)→Option β} {kx:σ→Option β} {f:α→γ}:∀ (xs:List α) (i:Nat) (s:σ),each (fun y i s nx=>b (f y) i s nx) kx xs i s=each b kx (xs.map f) i s
 | [],_,_=>rfl
 | x::xs,i,s=>by
  rw [List.map_cons,each,each]
  congr 1
  funext s'
  exact Q4f xs (i+1) s'
def R36 (F:Nat) (ts:List Int) (n:Int):Option Int:=
 each (fun y5 i5 (s5:(List Int)) nx5=>
  loop (fun nx13 (s13:Int×(List Int))=>
   bif decide (s13.1≤(min y5 4)) then
   (loop (fun nx52 (s52:Int×(List Int))=>
     bif decide (s52.1 < 5) then
     (Ju s52.2 s52.1 fun y56=>
      chk (s52.1 - s13.1) fun v57=>
      Ju s5 v57 fun y58=>
      chk (y56+y58) fun v60=>
      Ju s52.2 s52.1 fun y61=>
      chk (s52.1+1) fun v62=>
      nx52 (v62,(s52.2.set s52.1.toNat v60)))
     else
     (chk (s13.1+1) fun v63=>
      nx13 (v63,s52.2))) F (s13.1,s13.2))
   else
   (nx5 s13.2)) F (0,[0,0,0,0,0]))
 (fun(s5:(List Int))=>
  Ju s5 n fun y65=>
  loop (fun nx76 (s76:Int×Int)=>
   bif decide (s76.2≤n) then
   (chk (s76.1*s76.2) fun v80=>
    chk (s76.2+1) fun v81=>
    nx76 (v80,v81))
   else
   (some s76.1)) F (y65,2)) ts 0 [1,0,0,0,0]
theorem R6d (F:Nat) (s:Gf) (n:Int):R3 F s n=R36 F (Rx s) n:=by
 unfold R3 R36 Rx
 exact Q4f (f:=fun c:G6=>c.Tiers) (b:=fun y5 i5 (s5:(List Int)) nx5=>
  loop (fun nx13 (s13:Int×(List Int))=>
   bif decide (s13.1≤(min y5 4)) then
   (loop (fun nx52 (s52:Int×(List Int))=>
     bif decide (s52.1 < 5) then
     (Ju s52.2 s52.1 fun y56=>
      chk (s52.1 - s13.1) fun v57=>
      Ju s5 v57 fun y58=>
      chk (y56+y58) fun v60=>
      Ju s52.2 s52.1 fun y61=>
      chk (s52.1+1) fun v62=>
      nx52 (v62,(s52.2.set s52.1.toNat v60)))
     else
     (chk (s13.1+1) fun v63=>
      nx13 (v63,s52.2))) F (s13.1,s13.2))
   else
   (nx5 s13.2)) F (0,[0,0,0,0,0])) s.Columns 0 [1,0,0,0,0]
def bxs (n:Nat):List Box:=(List.range n).map fun(j:Nat)=>Box.mk (2*((j+1:Nat):Int)) ByteArray.empty 40 false 0 0 1 0 false
def idl (n:Nat):List Int:=(List.range n).map fun(j:Nat)=>2*((j+1:Nat):Int)
def Q11:List (List Int):=[[2],[3],[2,2],[2,3],[3,2],[3,3],[2,2,2],[2,2,3],[2,3,2],[2,3,3],[3,2,2],[3,2,3],[3,3,2],[3,3,3]]
theorem R12:(Q11.all fun T=>(List.range 5).all fun n=>decide (R36 60 T (n:Int)=some ((G19 T 60 (idl n) (List.replicate T.length 0)).length:Int)))=true:=by kernel_rfl
theorem R6e {s:Gf} (h:J7c s):Rx s∈Q11:=by
 have h1:=h.built.some
 have h2:=h.few
 have h3:=h.low
 unfold Rx
 have key:∀ c∈s.Columns,c.Tiers=2∨c.Tiers=3:=fun c hc=>by have:=h3 c hc; omega
 match hl:s.Columns,h1,h2,key with
 | [],h1,_,_=>simp at h1
 | [a],_,_,k=>rcases k a (by simp) with e | e <;> simp [Q11,e]
 | [a,b],_,_,k=>rcases k a (by simp) with e | e <;> rcases k b (by simp) with e2 | e2 <;> simp [Q11,e,e2]
 | [a,b,c],_,_,k=>rcases k a (by simp) with e | e <;> rcases k b (by simp) with e2 | e2 <;> rcases k c (by simp) with e3 | e3 <;> simp [Q11,e,e2,e3]
 | _::_::_::_::_,_,h2,_=>simp at h2
theorem Q6a {s:Gf} (h:J7c s) {n:Nat} (hn:n≤4):R3 60 s (n:Int)=some ((G29 60 s (idl n)).length:Int):=by
 have:=List.all_eq_true.1 (List.all_eq_true.1 R12 _ (R6e h)) n (List.mem_range.2 (by omega))
 rw [R6d,Kt this]
 unfold G29 Rx
 rw [Md]
theorem R18 (n:Nat):Jdd (bxs n):=by
 refine⟨List.pairwise_map.2 ((List.pairwise_lt_range).imp fun {a b} h=>by show (2*((a+1:Nat):Int)) < 2*((b+1:Nat):Int); omega),fun b hb=>?_⟩
 obtain⟨j,_,rfl⟩:=Mf.1 hb
 rfl
theorem R10 (n:Nat):Whole (bxs n) (idl n):=by
 have h:=R18 n
 have e:idl n=(bxs n).map (·.ID):=by unfold idl bxs; rw [List.map_map]; rfl
 rw [e]
 refine⟨List.pairwise_map.2 h.sorted,fun id hid=>?_⟩
 obtain⟨b,hb,rfl⟩:=Mf.1 hid
 exact⟨b,Qe0 h.sorted hb,h.size b hb⟩
theorem Jc9:∀ {a b:List G1} (x y:G1),a.length=b.length→Rz (a++[x]) (b++[y])=bif decide (Rz a b=0) then G43 x.Slot y.Slot else Rz a b
 | [],[],x,y,_=>by
  unfold Rz
  by_cases h:G43 x.Slot y.Slot=0 <;> simp [Rz,h]
 | [],_::_,_,_,h=>by simp at h
 | _::_,[],_,_,h=>by simp at h
 | p::a,q::b,x,y,h=>by
  have ih:=Jc9 (a:=a) (b:=b) x y (by simpa using h)
  rw [List.cons_append,List.cons_append]
  unfold Rz
  by_cases e:G43 p.Slot q.Slot=0
  ·simp [e]; exact ih
  ·simp [e]

theorem Jb8 {α:Type} {l:List α} {k:Nat} {x:α} (h:l[k]? = some x):l.take (k+1)=l.take k++[x]:=by
 obtain⟨hk,rfl⟩:=Kx h
 rw [List.take_succ_eq_append_getElem hk]
theorem R47 (l:List H4) (covers many:Int) (slots:List Int) (hp:∀ p∈l,Hcf p) (hm:Byte many) (b9:∀ v∈slots,Byte v):Rq 60 l covers many slots=some true:=by
 obtain⟨m0,m1⟩:=hm
 refine H41 ?_
 unfold Rq
 refine J1 (wp_mono (Qf6 l covers hp) fun s hs=>?_)
 refine Rw ⟨by omega,by omega⟩ (J1 (Hda (by decide) ?_))
 obtain⟨n,hn⟩:∃ n:Nat,many.tmod 5=(n:Int):=⟨(many.tmod 5).toNat,by have:=Int.tmod_nonneg 5 m0; omega⟩
 have c0:n≤4:=by have:=Int.tmod_lt_of_pos many (show (0:Int) < 5 by decide); omega
 rw [hn]
 refine Yq (Kv (by omega)) ?_
 rw [Int.toNat_natCast]
 have c1:∀ c∈s.Columns,0≤c.Tiers∧c.Tiers≤3:=fun c hc=>by have:=hs.low c hc; omega
 refine Je2 (fun i st=>st=(bxs i,idl i)) rfl (fun i st nx hi hI h4=>?_) (fun st hI=>?_)
 ·subst hI
  have e1:bxs (i+1)=bxs i++[Box.mk (2*((i+1:Nat):Int)) ByteArray.empty 40 false 0 0 1 0 false]:=by unfold bxs; rw [List.range_succ,List.map_append]; rfl
  have e2:idl (i+1)=idl i++[2*((i+1:Nat):Int)]:=by unfold idl; rw [List.range_succ,List.map_append]; rfl
  have l1:(bxs i).length=i:=by unfold bxs; simp
  have l2:(idl i).length=i:=by unfold idl; simp
  refine Rw ⟨by omega,by omega⟩ (Yq ?_ (Rw ⟨by omega,by omega⟩ (Yq ?_ (h4 _ ?_))))
  ·exact G92 (by rw [Ma]; show (bxs i).length+1≤_; omega) (by omega)
  ·exact G92 (by rw [Ma]; show (idl i).length+1≤_; omega) (by omega)
  ·rw [e1,e2]
 ·subst hI
  have hw:=R10 n
  have h3:(idl n).length=n:=by unfold idl; simp
  refine J1 (wp_mono (R1c (F:=60) (boxes:=bxs n) (ids:=idl n) hs.right hs.few c1 hw (by omega) (by omega)) fun r hr=>?_)
  obtain⟨R,er⟩:=r
  obtain⟨e0,hR⟩:=hr
  simp only at e0 hR
  subst e0
  refine Qm (fun h=>by simp at h) (fun _=>?_)
  refine J1 (wp_mono (Qac ⟨hs.built.some,by have:=hs.few; omega⟩ (fun c hc=>by have:=hs.low c hc; omega)) fun places d0=>?_)
  refine Qm (fun h=>by have:=Kt h; omega) (fun _=>?_)
  refine R1 (fun pre st=>st.map (·.Box)=pre) rfl (fun pre y post st nx e hI h4=>?_) (fun some_ hI=>?_)
  ·have e:idl n=pre++y::post:=e
   have c7:pre.length < n:=by rw [← h3,e]; simp
   have d1:st.length=pre.length:=by rw [← hI]; simp
   refine Gb1 (fun j:Int=>0≤j∧j≤1000) (fun K hK=>Qm (fun h=>?_) (fun _=>hK _ ⟨by decide,by decide⟩)) (fun j hj=>?_)
   ·have h8:=Kt h
    refine J1 (Hda (by omega) ?_)
    have ht:((pre.length:Int)).tmod (slots.length:Int)=((pre.length % slots.length:Nat):Int):=by rw [Int.tmod_eq_emod_of_nonneg (by omega)]; rfl
    rw [ht]
    have h0:pre.length % slots.length < slots.length:=Nat.mod_lt _ (by omega)
    have hv:=b9 _ (List.getElem_mem h0)
    obtain⟨v0,v1⟩:=hv
    exact Zb (m:=pre.length % slots.length) rfl (Ky h0) (Rw ⟨by omega,by omega⟩ (Rw ⟨by omega,by omega⟩ (hK _ ⟨by omega,by omega⟩)))
   ·obtain⟨jn,rfl⟩:∃ jn:Nat,j=(jn:Int):=⟨j.toNat,by omega⟩
    refine J1 (Hda (by omega) ?_)
    have ht:((jn:Int)).tmod (places.length:Int)=((jn % places.length:Nat):Int):=by rw [Int.tmod_eq_emod_of_nonneg (by omega)]; rfl
    rw [ht]
    have h0:jn % places.length < places.length:=Nat.mod_lt _ (by omega)
    refine Zb (m:=jn % places.length) rfl (Ky h0) (Yq ?_ (h4 _ ?_))
    ·exact G92 (by rw [Ma]; omega) (by omega)
    ·rw [List.map_append,hI]; rfl
  ·have hI:some_.map (·.Box)=idl n:=hI
   have c8:some_.length=n:=by rw [← h3,← hI]; simp
   have a8:∀ x∈R,G52 s (bxs n) x∧x.length=n:=fun x hx=>by
    obtain⟨h1,h2⟩:=(hR.mem x).1 hx
    exact⟨h1,by have:=congrArg List.length h2; rw [Md] at this; omega⟩
   have c9:R.length≤1000000:=Nat.le_trans hR.le (Qcf hs.few (by omega))
   have a9:∀ c∈s.Columns,c.Tiers≤1000000:=fun c hc=>by have:=hs.low c hc; omega
   refine R1 (fun pre (st:Int)=>st=((pre.filter fun x=>decide (x=some_)).length:Int)) rfl (fun pre y post st nx e h5 h4=>?_) (fun met h5=>?_)
   ·have e:R=pre++y::post:=e
    obtain⟨y1,y2⟩:=a8 y (by rw [e]; simp)
    have h9:pre.length < R.length:=by rw [e]; simp
    have d2:(pre.filter fun x=>decide (x=some_)).length≤pre.length:=Kq _ _
    refine Gb1 (fun st'=>st'=(((pre++[y]).filter fun x=>decide (x=some_)).length:Int)) (fun K hK=>?_) (fun st' h=>h4 _ h)
    refine J1 (wp_mono (H23 hs.right a9 (by omega)) fun b hb=>?_)
    have c2:=hb.2 y1
    subst c2
    refine Qm (fun h=>by
     simp only [Bool.not_true,Bool.false_or,Mc] at h
     rw [h3] at h; omega) (fun _=>?_)
    refine R1 (fun q (b:Bool)=>b=decide (q=some_.take q.length)) (by simp) (fun q z rest b nx2 e2 h6 a2=>?_) (fun b h6=>?_)
    ·have c3:q.length < n:=by rw [← y2,e2]; simp
     have hz:some_[q.length]? = some some_[q.length]:=Ky (by omega)
     have b0:=Jb8 hz
     cases b with
     | false=>
      refine J1 (Ha (a2 _ ?_))
      rw [Bool.false_and,M9,Ma,b0]
      refine(Kw fun h=>?_).symm
      have:=(List.append_inj h (by rw [List.length_take]; omega)).1
      rw [Kv this] at h6; cases h6
     | true=>
      refine J1 (Zb (m:=q.length) rfl hz (Ha (a2 _ ?_)))
      have hq:=Kt h6.symm
      rw [Bool.true_and,M9,Ma,b0]
      rw [decide_eq_decide]
      constructor
      ·intro h; rw [← hq,h]
      ·intro h
       have:=(List.append_inj h (by rw [List.length_take]; omega)).2
       simpa using this
    ·have c4:b=decide (y=some_):=by rw [h6,List.take_of_length_le (by omega)]
     have a3:(((pre++[y]).filter fun x=>decide (x=some_)).length:Int)=bif b then st+1 else st:=by
      rw [Ha0,M9,h5,c4]
      cases decide (y=some_) <;> simp
     refine Gb1 (fun st'=>st'=(((pre++[y]).filter fun x=>decide (x=some_)).length:Int)) (fun K2 b1=>Qm (fun h=>Rw ⟨by omega,by omega⟩ (b1 _ (by rw [a3,h,cond_true]))) (fun h=>b1 _ (by rw [a3,h,cond_false]))) (fun st' a4=>?_)
     refine Qm (fun h8=>?_) (fun _=>hK _ a4)
     have h8:=Kt h8
     have h0:pre.length - 1 < R.length:=by omega
     have a7:R[pre.length - 1]? = some R[pre.length - 1]:=Ky h0
     obtain⟨_,pl⟩:=a8 R[pre.length - 1] (List.getElem_mem h0)
     have b4:R[pre.length]'(h9)=y:=by
      have:R[pre.length]? = some y:=by rw [e]; simp
      rw [Ky h9] at this
      exact Kz this
     have b5:Rz R[pre.length - 1] y = -1:=R7e (by
      have:=List.pairwise_iff_getElem.1 hR.sorted (pre.length - 1) pre.length h0 h9 (by omega)
      rwa [b4] at this)
     refine R1 (fun q (o:Int)=>o=Rz ((R[pre.length - 1]).take q.length) q) (by simp [Rz]) (fun q z rest o nx3 e3 a0 b6=>?_) (fun o a0=>?_)
     ·have c3:q.length < n:=by rw [← y2,e3]; simp
      have hz:(R[pre.length - 1])[q.length]? = some (R[pre.length - 1])[q.length]:=Ky (by omega)
      have a1:Rz ((R[pre.length - 1]).take (q++[z]).length) (q++[z])=bif decide (o=0) then G43 (R[pre.length - 1])[q.length].Slot z.Slot else o:=by
       rw [M9,Ma,Jb8 hz,Jc9 _ _ (by rw [List.length_take]; omega),← a0]
      refine Gb1 (fun o'=>o'=Rz ((R[pre.length - 1]).take (q++[z]).length) (q++[z])) (fun K3 b2=>Qm (fun h=>?_) (fun h=>b2 _ (by rw [a1,h,cond_false]))) (fun o' c5=>b6 _ c5)
      refine Rw ⟨by omega,by omega⟩ (Zb (m:=pre.length - 1) (by omega) a7 (Zb (m:=q.length) rfl hz (J0 (Q39 _ _) (b2 _ (by rw [a1,h,cond_true])))))
     ·rw [List.take_of_length_le (by omega),b5] at a0
      subst a0
      exact Qm (fun h=>by simp at h) (fun _=>hK _ a4)
   ·have hb:=H23 (boxes:=bxs n) (l:=some_) hs.right a9 (by omega)
    have a5:=hR.mem some_
    have b7:R.Nodup:=hR.sorted.imp fun {a b} h e=>by
     subst e
     rw [Zm.refl] at h; omega
    have h5:met=((R.filter fun x=>decide (x=some_)).length:Int):=h5
    have h7:(G52 s (bxs n) some_→met=1)∧(¬ G52 s (bxs n) some_→met=0):=by
     rw [h5]
     by_cases hr:some_∈R
     ·refine⟨fun _=>?_,fun h=>(h (a5.1 hr).1).elim⟩
      have:R.filter (fun x=>decide (x=some_))=[some_]:=by
       have hp:(R.filter (fun x=>decide (x=some_))).Nodup:=b7.filter _
       have ha:∀ x∈R.filter (fun x=>decide (x=some_)),x=some_:=fun x hx=>Kt (Mi.1 hx).2
       have a6:some_∈R.filter (fun x=>decide (x=some_)):=Mi.2 ⟨hr,Kv rfl⟩
       match hq:R.filter (fun x=>decide (x=some_)),hp,ha,a6 with
       | [],_,_,a6=>simp at a6
       | [a],_,ha,_=>rw [ha a (by simp)]
       | a::b::_,hp,ha,_=>
        have e1:=ha a (by simp)
        have e2:=ha b (by simp)
        rw [e1,e2] at hp
        simp at hp
      rw [this]; rfl
     ·refine⟨fun h=>(hr (a5.2 ⟨h,hI⟩)).elim,fun _=>?_⟩
      have:R.filter (fun x=>decide (x=some_))=[]:=List.filter_eq_nil_iff.2 fun x hx h=>hr (by rw [← Kt h]; exact hx)
      rw [this]; rfl
    have b8:R.length=(G29 60 s (idl n)).length:=hR.count (Q69 (fun c hc=>by rw [(hs.built.cols.each c hc).height]; exact Int.le_refl _) hw)
    refine Gb1 (fun w:Int=>w=met) (fun K hK=>J1 (wp_mono hb fun b b3=>Qm (fun h=>hK _ ?_) (fun h=>hK _ ?_))) (fun w c6=>?_)
    ·exact(h7.1 (b3.1 h)).symm
    ·exact(h7.2 fun hr=>by rw [b3.2 hr] at h; cases h).symm
    ·subst c6
     rw [Kv rfl]
     simp only [cond_true,Bool.true_and]
     rw [h3]
     refine J0 (Q6a hs c0) ?_
     rw [b8,Kv rfl]
     simp only [cond_true,Bool.true_and]
     exact J0 R86 (Ha rfl)
end Go.Proofs.YtibhpogonkdiaaaGreat
