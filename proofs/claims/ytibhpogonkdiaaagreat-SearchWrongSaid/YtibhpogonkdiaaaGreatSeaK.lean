/-
 Small ships; search.states and search.Least over a list that can be evalu The examples of chapter 28. SearchAll. SearchAll. The memo of search.Least:
-/
import Derived.Test.YtibhpogonkdiaaaGreatSeaE
import Derived.Test.YtibhpogonkdiaaaGreatXW
set_option linter.unusedVariables false
set_option linter.unusedSimpArgs false
set_option linter.unnecessarySimpa false
set_option maxRecDepth 100000
namespace Go.Proofs.YtibhpogonkdiaaaGreat
open Go.RowKit

def limit (c:G5):G5:=G5.mk c.Bay c.Row c.Deck (min c.Tiers 3) c.Height c.Kilos20 c.Kilos40 c.Lash c.Plugs c.X c.Y c.Z
structure G9d (s:Ge):Prop where
 built:H85 s
 few:s.Columns.length≤3
 low:∀ c∈s.Columns,2≤c.Tiers∧c.Tiers≤3
theorem Jc9 (l:List H2) (covers:Int) (hp:∀ p∈l,H84 p):Wp (Rf l covers) G9d:=by
 unfold Rf
 refine Ht (H1a (m:=min l.length 3) (by omega) (by omega) ?_)
 refine Ht (wp_mono (J32 (l.take (min l.length 3)) covers fun p h=>hp p (List.mem_of_mem_take h)) fun s0 h0=>?_)
 obtain⟨h0,h3⟩:=h0
 rw [List.length_take] at h3
 refine R4 (fun pre s28=>s28=pre.map limit++s0.Columns.drop pre.length) (by simp) (fun pre y post s28 nx e hI h2=>?_) (fun s28 hI=>H5 ?_)
 ·have hd:s0.Columns.drop pre.length=y::post:=by rw [e]; simp
  have hy:s28[pre.length]? = some y:=by rw [hI,hd]; simp
  refine Rb (m:=pre.length) rfl hy (Rb (m:=pre.length) rfl hy (h2 _ ?_))
  have h4:s0.Columns.drop (pre++[y]).length=post:=by rw [e]; simp
  rw [Int.toNat_natCast,hI,hd,h4]
  rw [List.set_append_right _ _ (by simp)]
  simp [limit]
 ·rw [hI,List.drop_length,List.append_nil]
  have hc:=h0.cols
  refine⟨⟨by simpa using h0.some,⟨by simpa using hc.len,fun c hm=>?_,?_⟩,h0.covs⟩,by simp; omega,fun c hm=>?_⟩
  ·obtain⟨c,h1,rfl⟩:=Mg.1 hm
   obtain⟨a1,a2,a3,a4,a5,a6,a7,a8,a9,a10,a11⟩:=hc.each c h1
   exact⟨a1,a2,by show 2≤min c.Tiers 3∧min c.Tiers 3≤5; omega,a4,a5,a6,a7,a8,a9,a10,a11⟩
  ·rw [List.map_map]
   exact hc.nodup
  ·obtain⟨c,h1,rfl⟩:=Mg.1 hm
   have:=(hc.each c h1).tiers
   show 2≤min c.Tiers 3∧min c.Tiers 3≤3
   omega
theorem G9d.right {s:Ge} (h:G9d s):Jm s=some true:=Q71 h.built
theorem R9e {s:Ge} (h:∀ c∈s.Columns,0≤c.Tiers∧c.Tiers≤3):Wp (G3d s) (fun t=>t≤3):=by
 unfold G3d
 refine R4 (fun pre t=>t≤3) (by omega) (fun pre y post t nx e hI h0=>?_) (fun t hI=>H5 hI)
 have:=h y (by rw [e]; simp)
 exact G90 (fun t=>t≤3) (fun K hK=>Q6 (fun _=>hK _ this.2) (fun _=>hK _ hI)) (fun t ht=>h0 _ ht)
theorem little {s:Ge} (h1:s.Columns.length≤3) (h2:∀ c∈s.Columns,0≤c.Tiers∧c.Tiers≤3):Q3 s=some true:=by
 refine H46 ?_
 unfold Q3
 have hd:decide ((s.Columns.length:Int)≤3)=true:=Kw (by omega)
 rw [hd]
 exact Ht (wp_mono (R9e h2) fun t ht=>H5 (by rw [Kw ht]; rfl))
theorem J51 {F:Nat} {s:Ge} {boxes:List Box} {ids:List Int} (hh:∀ c∈s.Columns,c.Height≤0) (hw:Whole boxes ids):∀ r∈G26 F s ids,G4e s boxes (canon r):=fun r hr=>by
 obtain⟨w1,w2,w3⟩:=Gda hr
 have h0:=G0c r
 have h3:=Gd8 w1 hw.sorted
 have h6:∀ z:Slot,z∈(canon r).map (·.Slot) ↔ z∈r.map (·.Slot):=fun z=>(h0.map _).mem_iff
 refine⟨fun x hx=>?_,List.pairwise_map.1 (by rw [h3]; exact hw.sorted),?_,fun m c hc=>.inl (hh c (M1 hc))⟩
 ·have h4:=h0.mem_iff.1 hx
  obtain⟨b,hb,h7⟩:=hw.size x.Box (by rw [← h3]; exact List.mem_map_of_mem hx)
  obtain⟨e0,c,e1,e2,e3,e4,_⟩:=w2.place x h4
  rw [H5d] at e3
  have h5:c < s.Columns.length:=by unfold Y9 at e2; simpa using e2
  have h8:(Y9 s).getD c 0=s.Columns[c].Tiers:=by unfold Y9; simp [List.getD,h5]
  refine⟨b,hb,⟨⟨c,s.Columns[c],e1,Kz h5,by rw [← h8]; exact e4⟩,e3,by rw [h7]; simp [Hda,e0]⟩,?_⟩
  rcases w2.held x h4 with h | ⟨y,hy,h9⟩
  ·have:=h c e1
   rw [H5d] at this
   exact .inl this
  ·refine .inr (.inl ?_)
   unfold below
   rw [h6,e0,← h9]
   exact List.mem_map_of_mem hy
 ·have hd:(canon r).Pairwise (fun a b=>a.Slot≠b.Slot):=h0.symm.pairwise (w3.imp fun {a b} h e=>by
   unfold Hf6 at h
   rw [e] at h
   omega) (fun h e=>h e.symm)
  refine hd.imp_of_mem fun {a b} ha hb a0 hm=>a0 ?_
  obtain⟨f0,_⟩:=w2.place a (h0.mem_iff.1 ha)
  obtain⟨g0,_⟩:=w2.place b (h0.mem_iff.1 hb)
  obtain⟨m1,m2,_⟩:=hm
  obtain⟨ba,⟨c1,t1,h1⟩⟩:=a
  obtain⟨bb,⟨c2,t2,h2⟩⟩:=b
  simp only at m1 m2 f0 g0
  rw [m1,m2,f0,g0]
open Go.RowKit Go.Sort

def Gcd (F:Nat) (s:Ge) (boxes:List Box) (ids:List Int):List (List G1):=H1e Ya (((G26 F s ids).map canon).filter fun l=>(Qv s boxes l).getD false)
theorem R28 {F:Nat} {s:Ge} {boxes:List Box} {ids:List Int} (hr:Jm s=some true) (hc:s.Columns.length≤1000) (ht:∀ c∈s.Columns,c.Tiers≤1000000) (hw:Whole boxes ids) (hl:ids.length≤1000) (hF:ids.length < F) (hn:(G26 F s ids).length≤1000000) :
  Q2 F s boxes ids=some (Gcd F s boxes ids):=by
 have h5:ids.Nodup:=hw.sorted.imp fun h=>by omega
 refine H46 ?_
 unfold Q2
 have h7:J26 (s.Columns.length:Int)=some s.Columns.length:=by unfold J26; rw [Kw (by omega)]; simp
 refine Hh h7 (Rk (Kw ⟨by omega,Nat.le_trans hc (by decide),by omega⟩) ?_)
 refine Hh (x:=()) rfl ?_
 refine Hh (Je9 s F ids (List.replicate s.Columns.length 0) (by simp) hc (fun h hh=>by rw [List.mem_replicate] at hh; omega) hF hl) ?_
 show Wp (each _ _ (G26 F s ids) 0 []) _
 have h8:(G26 F s ids).Pairwise (fun a b=>¬ a.Perm b):=Hb6 (by unfold Y9; simp) (fun h hh=>by rw [List.mem_replicate] at hh; omega) h5
 refine R4 (fun pre s18=>s18=(pre.map canon).filter fun l=>(Qv s boxes l).getD false) rfl (fun pre y post s18 nx e hI h6=>?_) (fun s18 hI=>?_)
 ·have hy:y∈G26 F s ids:=by rw [e]; simp
  obtain⟨w1,w2,w3⟩:=Gda hy
  have h9:y.length=ids.length:=by have:=w1.length_eq; simpa using this
  refine Hh (J1d (w1.nodup_iff.2 h5) (by omega)) ?_
  have a8:(canon y).length=ids.length:=by rw [(G0c y).length_eq,h9]
  obtain⟨b,hb,_⟩:=Ge2 (boxes:=boxes) (l:=canon y) hr ht (by omega)
  refine Hh hb ?_
  have a6:pre.length < (G26 F s ids).length:=by rw [e]; simp
  have a9:s18.length≤pre.length:=by rw [hI]; exact Nat.le_trans (Kr ..) (by simp)
  refine Q6 (fun a0=>?_) (fun a1=>?_)
  ·refine Rk (Kw ⟨?_,?_⟩) (h6 _ ?_)
   ·rw [Mb]; omega
   ·rw [Mb]; exact Nat.le_trans (by omega:s18.length+1≤1000001) (by decide)
   ·rw [hI,List.map_append,List.filter_append]
    simp [hb,a0]
  ·refine h6 _ ?_
   rw [hI,List.map_append,List.filter_append]
   simp [hb,a1]
 ·have a2:s18.Pairwise (fun a b=>Ya a b≠0):=by
   rw [hI]
   refine List.Pairwise.filter _ (List.pairwise_map.2 (h8.imp_of_mem fun {a b} ha hb hp hz=>hp ?_))
   have e1:=Gd8 (Gda ha).1 hw.sorted
   have e2:=Gd8 (Gda hb).1 hw.sorted
   have a3:canon a=canon b:=Q05 (by rw [e1,e2]) (Hf9 hz)
   exact(G0c a).symm.trans (by rw [a3]; exact G0c b)
  have a7:s18.length≤1000000:=by rw [hI]; exact Nat.le_trans (Kr ..) (by simpa using hn)
  have h0:∀ a∈s18,∀ b∈s18,Ya a b=0→a=b:=fun a ha b hb h=>by
   obtain⟨i,hi,rfl⟩:=List.mem_iff_getElem.1 ha
   obtain⟨j,hj,rfl⟩:=List.mem_iff_getElem.1 hb
   have hp:=List.pairwise_iff_getElem.1 a2
   rcases Nat.lt_trichotomy i j with a4 | rfl | a5
   ·exact(hp i j hi hj a4 h).elim
   ·rfl
   ·have:=G02.anti s18[i] s18[j]
    exact(hp j i hj hi a5 (by omega)).elim
  have h3:∀ r',r'.Perm s18→G48 Ya r'→r'=H1e Ya s18:=fun r' hp hs=>by
   refine List.Perm.eq_of_pairwise (le:=J3b Ya) (fun a b ha hb h1 h2=>?_) (hs.imp fun h=>Kv h) (Ze G02.ordc s18) (hp.trans (Yv _ _).symm)
   have:=G02.anti a b
   exact h0 a (hp.mem_iff.1 ha) b ((Yv _ _).mem_iff.1 hb) (by omega)
  have h4:H5a (fun z0 z1=>Rw z0 z1) s18=some (H1e Ya s18):=Jd4 Ya H67 (Q04 G02.ordc) (by omega) (Yv _ _) ((Ze G02.ordc s18).imp fun h=>Kx h) h3
  refine Hh h4 (H5 ?_)
  unfold Gcd
  rw [hI]

def H72 (st:Ge→List Box→List Int→Option (List (List G1))) (F:Nat) (s:Ge) (boxes:List Box) (calls:Int):Option (G4f×Int×Int):=
 bnd (Jo s boxes calls) fun r4=>
 bif (!r4) then
 (some ((G4f.mk [] []),0,5))
 else
 (need (decide (calls≤9223372036854775807)) <|
  upto (fun i53 (s53:(List (List (List G1)))) nx53=>
   bnd (Rj boxes (i53:Int)) fun r59=>
   bnd (st s boxes r59) fun r60=>
   need (decide ((s53.length+[r60].length)*24≤140737488355328∧s53.length+[r60].length≤maxLen)) <|
   Jz (s53++[r60]) (i53:Int) fun y63=>
   bif decide ((y63.length:Int)=0) then
   (some ((G4f.mk [] []),0,4))
   else
   (nx53 (s53++[r60])))
  (fun(s53:(List (List (List G1))))=>
   Jz s53 0 fun y73=>
   each (fun y99 i99 (s99:Int×(Gu Gs Gc)) nx99=>
    jp (fun kj102=>
     bnd (Qc F 0 (i99:Int) s99.2 calls s53 (fun z0 z1=>Jd F z0 z1 s boxes)) fun r105=>
     bnd (Qc F 0 s99.1 r105.2 calls s53 (fun z0 z1=>Jd F z0 z1 s boxes)) fun r106=>
     bif decide (r105.1.restows < r106.1.restows) then
     (kj102 ((i99:Int),r106.2))
     else
     (kj102 (s99.1,r106.2))) fun(j102:Int×(Gu Gs Gc))=>
    nx99 (j102.1,j102.2))
   (fun(s99:Int×(Gu Gs Gc))=>
    bnd (Qc F 0 s99.1 s99.2 calls s53 (fun z0 z1=>Jd F z0 z1 s boxes)) fun r108=>
    need (decide (calls≤9223372036854775807)) <|
    upto (fun i152 (s152:Int×(List (List G1))×(List (List Int))×(Gu Gs Gc)) nx152=>
     Jz s53 (i152:Int) fun y158=>
     Jz y158 s152.1 fun y160=>
     need (decide ((s152.2.1.length+[y160].length)*24≤140737488355328∧s152.2.1.length+[y160].length≤maxLen)) <|
     bnd (Qc F (i152:Int) s152.1 s152.2.2.2 calls s53 (fun z0 z1=>Jd F z0 z1 s boxes)) fun r163=>
     nx152 (r163.1.next,(s152.2.1++[y160]),s152.2.2.1,r163.2))
    (fun(s152:Int×(List (List G1))×(List (List Int))×(Gu Gs Gc))=>
     some ((G4f.mk s152.2.1 s152.2.2.1),r108.1.restows,0)) calls.toNat 0 (s99.1,[],[],r108.2)) y73 0 (0,(Gu.empty:Gu Gs Gc))) calls.toNat 0 [])
theorem Rad (F:Nat) (s:Ge) (boxes:List Box) (calls:Int):J1 F s boxes calls=H72 (Q2 F) F s boxes calls:=rfl
theorem R47 {α β:Type} {m:Option α} {k k':α→Option β} (h:∀ x,m=some x→k x=k' x):bnd m k=bnd m k':=by
 cases m with
 | none=>rfl
 | some x=>exact h x rfl
theorem Q64 {st st':Ge→List Box→List Int→Option (List (List G1))} {F:Nat} {s:Ge} {boxes:List Box} {calls:Int} (h:∀ (i:Int) r,Rj boxes i=some r→st s boxes r=st' s boxes r):H72 st F s boxes calls=H72 st' F s boxes calls:=by
 unfold H72
 have e:∀ {β:Type} (i:Int) (k:List Int→List (List G1)→Option β),bnd (Rj boxes i) (fun r=>bnd (st s boxes r) (k r))=bnd (Rj boxes i) (fun r=>bnd (st' s boxes r) (k r)):=fun i k=>R47 fun r hr=>by rw [h i r hr]
 congr 1
 funext r4
 congr 1
 congr 1
 congr 1
 funext i53 s53 nx53
 exact e _ _

def abB (k:Int) (b:Box):Bool:=decide (b.Load≤k)&&decide (k < b.Discharge)
def H40 (boxes:List Box) (k:Int):List Int:=(boxes.filter (abB k)).map (·.ID)
theorem Hb4 {α:Type} (p:α→Bool) (l:List α) (x:α):(l++[x]).filter p=l.filter p++(bif p x then [x] else []):=by
 rw [List.filter_append]
 cases h:p x <;> simp [h]
theorem J23 (boxes:List Box) (k:Int) (hl:boxes.length≤100000):Rj boxes k=some (H40 boxes k):=by
 refine H46 ?_
 unfold Rj H40
 refine R4 (fun pre s=>s=(pre.filter (abB k)).map (·.ID)) rfl (fun pre y post s nx e hs h0=>?_) (fun s hs=>H5 hs)
 subst hs
 have hp:pre.length+1≤boxes.length:=by rw [e]; simp
 have hf:=Kr (abB k) pre
 refine G90 (fun j=>j=((pre++[y]).filter (abB k)).map (·.ID)) (fun K hK=>Q6 (fun h=>Rk (G32 (by simp only [Me,Mb]; omega) (by omega)) (hK _ ?_)) (fun h=>hK _ ?_)) (fun j hj=>h0 _ hj)
 ·have h':abB k y=true:=h
  rw [Hb4,h']; simp
 ·have h':abB k y=false:=h
  rw [Hb4,h']; simp
structure Jf6 (boxes:List Box):Prop where
 sorted:boxes.Pairwise (fun a b=>a.ID < b.ID)
 size:∀ b∈boxes,b.Size=40
theorem R08 {boxes:List Box} (h:boxes.Pairwise (fun a b=>a.ID < b.ID)) {b:Box} (hb:b∈boxes):G5c boxes b.ID=some b:=by
 unfold G5c
 induction boxes with
 | nil=>cases hb
 | cons x r ih=>
  rw [List.pairwise_cons] at h
  rcases Mi.1 hb with rfl | hb
  ·simp
  ·have:=h.1 b hb
   rw [List.find?_cons_of_neg (by simp; omega)]
   exact ih h.2 hb
theorem Jf6.whole {boxes:List Box} (h:Jf6 boxes) (k:Int):Whole boxes (H40 boxes k):=by
 refine⟨?_,fun id hid=>?_⟩
 ·unfold H40
  exact List.pairwise_map.2 ((h.sorted.filter _).imp fun h=>h)
 ·unfold H40 at hid
  obtain⟨b,hb,rfl⟩:=Mg.1 hid
  have h0:=(Mj.1 hb).1
  exact⟨b,R08 h.sorted h0,h.size b h0⟩
theorem Qe5 (boxes:List Box) (k:Int):(H40 boxes k).length≤boxes.length:=by
 unfold H40
 rw [Me]
 exact Kr _ _
structure Q1d (s:Ge):Prop where
 right:Jm s=some true
 cols:s.Columns.length≤3
 tiers:∀ c∈s.Columns,0≤c.Tiers∧c.Tiers≤3
theorem Qf6 {F:Nat} {s:Ge} {ids:List Int} (hc:s.Columns.length≤3) (hl:ids.length≤4):(G26 F s ids).length≤1000000:=by
 have h1:(Y9 s).length≤3:=by unfold Y9; simpa using hc
 rcases Nat.eq_zero_or_pos (Y9 s).length with h0 | h0
 ·unfold G26
  cases F with
  | zero=>simp [G27]
  | succ F=>
   rw [G9b,h0]
   cases ids.isEmpty <;> simp
 ·have:=Q13 (ts:=Y9 s) (m:=4) (by omega) (F:=F) (ids:=ids) (hs:=List.replicate s.Columns.length 0) hl
  refine Nat.le_trans this (Nat.le_trans (Nat.pow_le_pow_left (show (Y9 s).length*4≤12 by omega) _) (Nat.le_trans (Nat.pow_le_pow_right (by omega) hl) (by decide)))
theorem Hf5 {F:Nat} {s:Ge} {boxes:List Box} {ids:List Int} (hs:Q1d s) (hw:Whole boxes ids) (hl:ids.length≤4) (hF:ids.length < F):Q2 F s boxes ids=some (Gcd F s boxes ids):=
 R28 hs.right (by have:=hs.cols; omega) (fun c hc=>by have:=hs.tiers c hc; omega) hw (by omega) hF (Qf6 hs.cols hl)
theorem Hd7 {F:Nat} {s:Ge} {boxes:List Box} {calls:Int} (hs:Q1d s) (hb:Jf6 boxes) (hl:boxes.length≤4) (hF:boxes.length < F):J1 F s boxes calls=H72 (fun s boxes ids=>some (Gcd F s boxes ids)) F s boxes calls:=by
 rw [Rad]
 refine Q64 fun i r hr=>?_
 rw [J23 boxes i (by omega)] at hr
 cases hr
 have:=Qe5 boxes i
 exact Hf5 hs (hb.whole i) (by omega) (by omega)

def tw (n:Nat):Ge:=Ge.mk ((List.range n).map fun(i:Nat)=>G5.mk 0 (i:Int) false 2 0 0 0 0 [] 0 0 0) [] (Light.mk 0 0 0 0) [] [] [] (Gg.mk 0 0 0 0)
def bxA:List Box:=[(Box.mk 1 ByteArray.empty 40 false 0 0 2 0 false),(Box.mk 2 ByteArray.empty 40 false 0 1 3 0 false)]
def bxB:List Box:=[(Box.mk 1 ByteArray.empty 40 false 0 0 1 0 false),(Box.mk 2 ByteArray.empty 40 false 0 0 1 0 false),(Box.mk 3 ByteArray.empty 40 false 0 0 1 0 false)]
theorem Hc3 {n:Nat} (h:1≤n∧n≤3):Q1d (tw n):=by
 have h:n=1∨n=2∨n=3:=by omega
 rcases h with rfl | rfl | rfl <;> exact⟨by kernel_rfl,by decide,by decide⟩
theorem Jee:Jf6 bxA:=⟨by unfold bxA; simp,by unfold bxA; simp⟩
theorem R46:Jf6 bxB:=⟨by unfold bxB; simp,by unfold bxB; simp⟩
theorem R99:Whole bxA [1,2]:=⟨by simp,fun id hid=>by
 simp at hid
 rcases hid with rfl | rfl
 ·exact⟨_,rfl,rfl⟩
 ·exact⟨_,rfl,rfl⟩⟩
theorem R0b:R6 60=some true:=by
 have t1:Jf 1=some (tw 1):=by kernel_rfl
 have t2:Jf 2=some (tw 2):=by kernel_rfl
 have t3:Jf 3=some (tw 3):=by kernel_rfl
 have t4:Jf 4=some (tw 4):=by kernel_rfl
 have l1:J1 60 (tw 1) bxA 4=H72 (fun s boxes ids=>some (Gcd 60 s boxes ids)) 60 (tw 1) bxA 4:=Hd7 (Hc3 (by decide)) Jee (by decide) (by decide)
 have l2:J1 60 (tw 2) bxA 4=H72 (fun s boxes ids=>some (Gcd 60 s boxes ids)) 60 (tw 2) bxA 4:=Hd7 (Hc3 (by decide)) Jee (by decide) (by decide)
 have l3:J1 60 (tw 1) bxB 2=H72 (fun s boxes ids=>some (Gcd 60 s boxes ids)) 60 (tw 1) bxB 2:=Hd7 (Hc3 (by decide)) R46 (by decide) (by decide)
 have s1:Q2 60 (tw 2) bxA [1,2]=some (Gcd 60 (tw 2) bxA [1,2]):=Hf5 (Hc3 (by decide)) R99 (by decide) (by decide)
 unfold R6
 rw [t1,Gb4]
 show bnd (J1 60 (tw 1) bxA 4) _=_
 rw [l1,t2]
 simp only [Gb4]
 show bnd _ (fun r5=>bnd (J1 60 (tw 2) bxA 4) _)=_
 rw [l2]
 unfold Jg
 show bnd _ (fun r5=>bnd _ fun r8=>bnd (bnd _ fun r4=>bif _ then _ else each _ (fun _=>bnd _ fun r43=>bif _ then _ else bnd (Q2 60 (tw 2) bxA [1,2]) _) _ _ _) fun r11=>bnd (J1 60 (tw 1) bxB 2) _)=_
 rw [s1,l3]
 kernel_rfl


theorem Hf3 {α:Type} {l:List α} {k:Nat} {x:α} (h:l[k]? = some x):l.take (k+1)=l.take k++[x]:=by
 obtain⟨hk,rfl⟩:=Ky h
 rw [List.take_succ_eq_append_getElem hk]

section map
variable {κ ν:Type} [DecidableEq κ]
theorem Q76 (m:Gu κ ν) (a b:κ) (v:ν):Gu.has (Gu.put m a v) b=(decide (a=b)||Gu.has m b):=by
 unfold Gu.has Gu.put
 rw [← Gff,← Gff,H7f]
 by_cases h:a=b <;> simp [h]
theorem Q77 (m:Gu κ ν) (a b:κ) (v z:ν):Gu.get (Gu.put m a v) b z=if a=b then v else Gu.get m b z:=by
 unfold Gu.get Gu.put
 rw [H7f]
 split <;> rfl
end map
def pick (rs:Int) (best:Int×Int) (j:Nat):Int×Int:=bif decide (best.2 < 0)||decide (rs < best.1) then (rs,(j:Int)) else best
def G7c:List Int→Nat→Int×Int→Int×Int
 | [],_,b=>b
 | r::l,i,b=>G7c l (i+1) (pick r b i)
def Zi (R:List G1→List G1→Int) (all:List (List (List G1))):Nat→Nat→List G1→Int×Int
 | 0,_,_=>(0,-1)
 | d+1,k,a=>G7c ((all.getD (k+1) []).map fun b=>R a b+(Zi R all d (k+1) b).1) 0 (0,-1)
theorem J24 {B:Int} (hB:0≤B):∀ {l:List Int} {i:Nat} {b:Int×Int},(∀ r∈l,0≤r∧r≤B)→0≤b.1∧b.1≤B→0≤(G7c l i b).1∧(G7c l i b).1≤B
 | [],_,_,_,h=>h
 | r::l,i,b,hl,h=>by
  have hp:0≤(pick r b i).1∧(pick r b i).1≤B:=by
   unfold pick
   cases decide (b.2 < 0)||decide (r < b.1) with
   | true=>exact hl r (List.mem_cons_self ..)
   | false=>exact h
  exact J24 (l:=l) (i:=i+1) (b:=pick r b i) hB (fun x hx=>hl x (List.mem_cons_of_mem _ hx)) hp
theorem J7c (x:Int):∀ (l:List Int) (i:Nat) (b:Int×Int),G7c (l++[x]) i b=pick x (G7c l i b) (i+l.length)
 | [],i,b=>rfl
 | r::l,i,b=>by
  rw [List.cons_append,G7c,J7c x l,G7c,M6,show i+1+l.length=i+(l.length+1) by omega]
theorem J34 {R:List G1→List G1→Int} {all:List (List (List G1))} (hR:∀ a b,0≤R a b∧R a b≤1000):∀ (d k:Nat) (a:List G1),0≤(Zi R all d k a).1∧(Zi R all d k a).1≤1000*(d:Int)
 | 0,_,_=>⟨Int.le_refl _,Int.le_refl _⟩
 | d+1,k,a=>by
  refine J24 (B:=1000*((d+1:Nat):Int)) (by omega) (fun r hr=>?_) ⟨Int.le_refl _,by omega⟩
  obtain⟨b,_,rfl⟩:=Mg.1 hr
  have h1:=hR a b
  have h2:=J34 (all:=all) hR d (k+1) b
  omega
def Qf7 (b:Int×Int):Gc:=Gc.mk b.1 b.2
def Good (R:List G1→List G1→Int) (all:List (List (List G1))) (calls:Nat) (m:Gu Gs Gc):Prop:=
 ∀ k i:Int,Gu.has m ⟨k,i⟩=true→∃ (kn jn d:Nat) (L:List (List G1)) (a:List G1),k=(kn:Int)∧i=(jn:Int)∧kn+d+1=calls∧all[kn]? = some L∧L[jn]? = some a∧Gu.get m ⟨k,i⟩ (Gc.mk 0 0)=Qf7 (Zi R all d kn a)
theorem Qdd {R:List G1→List G1→Int} {all:List (List (List G1))} {calls:Nat}:Good R all calls Gu.empty:=fun k i h=>by simp [Gu.has,Gu.empty,G70] at h
theorem R37 {R:List G1→List G1→Int} {Rm:List G1→List G1→Option Int} {all:List (List (List G1))} {calls:Nat} (hc:calls≤1000) (hR:∀ a b,0≤R a b∧R a b≤1000) (hm:∀ (k:Nat) L L' a b,all[k]? = some L→all[k+1]? = some L'→a∈L→b∈L'→Rm a b=some (R a b)) (a3:all.length=calls) :
  ∀ (d k j F:Nat) (L:List (List G1)) (a:List G1) (m:Gu Gs Gc),k+d+1=calls→all[k]? = some L→L[j]? = some a→Good R all calls m→d < F →
   Wp (Qc F (k:Int) (j:Int) m (calls:Int) all Rm) (fun r=>r.1=Qf7 (Zi R all d k a)∧Good R all calls r.2):=by
 intro d
 induction d with
 | zero=>
  intro k j F L a m hk hL ha hg hF
  obtain⟨F,rfl⟩:∃ n,F=n+1:=⟨F - 1,by omega⟩
  show Wp (Yg _ _ _ _ _ _ _) _
  unfold Yg Rv
  refine Ht (Ht (H5 (Q6 (fun h=>?_) (fun h=>?_))))
  ·obtain⟨kn,jn,d',L',a',h1,h2,h3,h4,h5,h6⟩:=hg _ _ h
   have e1:kn=k:=by omega
   have e2:jn=j:=by omega
   subst e1
   subst e2
   rw [hL] at h4; cases h4
   rw [ha] at h5; cases h5
   have e3:d'=0:=by omega
   subst e3
   exact H5 (H5 ⟨h6,hg⟩)
  ·unfold Zo
   refine Ht (R3 ⟨by omega,by omega⟩ (Q6 (fun _=>H5 (H5 (H5 ⟨rfl,?_⟩))) (fun h=>by have:=Kv h; omega)))
   intro k' i' hh
   rw [Q76] at hh
   rw [Q77]
   by_cases e:(⟨(k:Int),(j:Int)⟩:Gs)=⟨k',i'⟩
   ·rw [if_pos e]
    injection e with e1 e2
    subst e1
    subst e2
    exact⟨k,j,0,L,a,rfl,rfl,hk,hL,ha,rfl⟩
   ·rw [if_neg e]
    rw [Kx e,Bool.false_or] at hh
    exact hg k' i' hh
 | succ d ih=>
  intro k j F L a m hk hL ha hg hF
  obtain⟨F,rfl⟩:∃ n,F=n+1:=⟨F - 1,by omega⟩
  show Wp (Yg _ _ _ _ _ _ _) _
  unfold Yg Rv
  refine Ht (Ht (H5 (Q6 (fun h=>?_) (fun h=>?_))))
  ·obtain⟨kn,jn,d',L',a',h1,h2,h3,h4,h5,h6⟩:=hg _ _ h
   have e1:kn=k:=by omega
   have e2:jn=j:=by omega
   subst e1
   subst e2
   rw [hL] at h4; cases h4
   rw [ha] at h5; cases h5
   have e3:d'=d+1:=by omega
   subst e3
   exact H5 (H5 ⟨h6,hg⟩)
  ·have h9:k+1 < all.length:=by omega
   obtain⟨L',h0⟩:∃ L',all[k+1]? = some L':=⟨_,Kz h9⟩
   have h8:all.getD (k+1) []=L':=by simp [List.getD,h0]
   unfold Zo
   refine Ht (R3 ⟨by omega,by omega⟩ (Q6 (fun h=>by have:=Ku h; omega) (fun _=>?_)))
   refine R3 ⟨by omega,by omega⟩ (Rb (m:=k+1) (by omega) h0 ?_)
   refine R4 (fun pre st=>(st.1,st.2.1)=G7c (pre.map fun b=>R a b+(Zi R all d (k+1) b).1) 0 (0,-1)∧Good R all calls st.2.2) ⟨rfl,hg⟩ (fun pre y post st nx e hI a0=>?_) (fun st hI=>H5 (H5 (H5 ⟨?_,?_⟩)))
   ·obtain⟨i1,i2⟩:=hI
    have hy:L'[pre.length]? = some y:=by rw [e]; simp
    have a1:y∈L':=M1 hy
    have a2:a∈L:=M1 ha
    refine G90 (fun q=>(q.2.1,q.2.2)=G7c ((pre++[y]).map fun b=>R a b+(Zi R all d (k+1) b).1) 0 (0,-1)∧Good R all calls q.1) (fun K hK=>?_) (fun q hq=>a0 _ hq)
    refine Rb (m:=k) rfl hL (Rb (m:=j) rfl ha (R3 ⟨by omega,by omega⟩ (Rb (m:=k+1) (by omega) h0 (Rb (m:=pre.length) rfl hy ?_))))
    refine Hh (hm k L L' a y hL h0 a2 a1) (R3 ⟨by omega,by omega⟩ ?_)
    have e1:(k:Int)+1=((k+1:Nat):Int):=by omega
    rw [e1]
    refine Ht (wp_mono (ih (k+1) pre.length F L' y st.2.2 (by omega) h0 hy i2 (by omega)) fun r hr=>?_)
    obtain⟨r1,r2⟩:=hr
    have b1:=hR a y
    have b2:=J34 (all:=all) hR d (k+1) y
    have er:r.1.restows=(Zi R all d (k+1) y).1:=by rw [r1]; rfl
    refine R3 ⟨by omega,by omega⟩ ?_
    have h7:G7c ((pre++[y]).map fun b=>R a b+(Zi R all d (k+1) b).1) 0 (0,-1)=pick (R a y+r.1.restows) (st.1,st.2.1) pre.length:=by
     rw [List.map_append,List.map_singleton,J7c,← i1,er,Me,Nat.zero_add]
    refine Q6 (fun h=>hK _ ⟨?_,r2⟩) (fun h=>hK _ ⟨?_,r2⟩)
    ·rw [h7]; unfold pick; rw [h]; rfl
    ·rw [h7]; unfold pick; rw [h]; rfl
   ·show Gc.mk st.1 st.2.1=Qf7 (G7c ((all.getD (k+1) []).map fun b=>R a b+(Zi R all d (k+1) b).1) 0 (0,-1))
    rw [h8,← hI.1]; rfl
   ·intro k' i' hh
    rw [Q76] at hh
    rw [Q77]
    by_cases e:(⟨(k:Int),(j:Int)⟩:Gs)=⟨k',i'⟩
    ·rw [if_pos e]
     injection e with e1 e2
     subst e1
     subst e2
     refine⟨k,j,d+1,L,a,rfl,rfl,hk,hL,ha,?_⟩
     show Gc.mk st.1 st.2.1=Qf7 (G7c ((all.getD (k+1) []).map fun b=>R a b+(Zi R all d (k+1) b).1) 0 (0,-1))
     rw [h8,← hI.1]; rfl
    ·rw [if_neg e]
     rw [Kx e,Bool.false_or] at hh
     exact hI.2 k' i' hh
end Go.Proofs.YtibhpogonkdiaaaGreat
