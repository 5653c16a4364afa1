/-
 Small ships; search.states and search.Gf0 over a list that can be evaluat The examples of chapter 28. The memo of search.Gf0: SearchAll. SearchAll. Gf0: The search's sum is the least of all paths.
-/
import Derived.Test.YtibhpogonkdiaaaGreatSeaE
import Derived.Test.YtibhpogonkdiaaaGreatXW
set_option linter.unusedVariables false
set_option linter.unusedSimpArgs false
set_option linter.unnecessarySimpa false
set_option maxRecDepth 100000
namespace Go.Proofs.YtibhpogonkdiaaaGreat
open Go.RowKit

structure G89 (s:Gb):Prop where
 built:H6f s
 few:s.Columns.length≤3
 low:∀ c∈s.Columns,2≤c.Tiers∧c.Tiers≤3
theorem G89.right {s:Gb} (h:G89 s):Jg s=some true:=J72 h.built
theorem Y05 {s:Gb} (h:∀ c∈s.Columns,0≤c.Tiers∧c.Tiers≤3):Wp (G5d s) (fun t=>t≤3):=by
 unfold G5d
 refine Jb (fun pre t=>t≤3) (by omega) (fun pre y post t nx e hI h0=>?_) (fun t hI=>Gy hI)
 have:=h y (by rw [e]; simp)
 exact Yf (fun t=>t≤3) (fun K hK=>Hy (fun _=>hK _ this.2) (fun _=>hK _ hI)) (fun t ht=>h0 _ ht)
theorem little {s:Gb} (h1:s.Columns.length≤3) (h2:∀ c∈s.Columns,0≤c.Tiers∧c.Tiers≤3):Q8 s=some true:=by
 refine G6f ?_
 unfold Q8
 have hd:decide ((s.Columns.length:Int)≤3)=true:=Ku (by omega)
 rw [hd]
 exact H8 (wp_mono (Y05 h2) fun t ht=>Gy (by rw [Ku ht]; rfl))
open Go.RowKit Go.Sort

def Zs (F:Nat) (s:Gb) (boxes:List Box) (ids:List Int):List (List G1):=H49 Yx (((G40 F s ids).map canon).filter fun l=>(Q9 s boxes l).getD false)
theorem R83 {F:Nat} {s:Gb} {boxes:List Box} {ids:List Int} (hr:Jg s=some true) (hc:s.Columns.length≤1000) (ht:∀ c∈s.Columns,c.Tiers≤1000000) (hw:Whole boxes ids) (hl:ids.length≤1000) (hF:ids.length < F) (hn:(G40 F s ids).length≤1000000) :
  Q7 F s boxes ids=some (Zs F s boxes ids):=by
 have h5:ids.Nodup:=hw.sorted.imp fun h=>by omega
 refine G6f ?_
 unfold Q7
 have h7:H70 (s.Columns.length:Int)=some s.Columns.length:=by unfold H70; rw [Ku (by omega)]; simp
 refine Gw h7 (Jq (Ku ⟨by omega,Nat.le_trans hc (by decide),by omega⟩) ?_)
 refine Gw (x:=()) rfl ?_
 refine Gw (Q36 s F ids (List.replicate s.Columns.length 0) (by simp) hc (fun h hh=>by rw [List.mem_replicate] at hh; omega) hF hl) ?_
 show Wp (each _ _ (G40 F s ids) 0 []) _
 have h8:(G40 F s ids).Pairwise (fun a b=>¬ a.Perm b):=Hed (by unfold Yw; simp) (fun h hh=>by rw [List.mem_replicate] at hh; omega) h5
 refine Jb (fun pre s18=>s18=(pre.map canon).filter fun l=>(Q9 s boxes l).getD false) rfl (fun pre y post s18 nx e hI h6=>?_) (fun s18 hI=>?_)
 ·have hy:y∈G40 F s ids:=by rw [e]; simp
  obtain⟨w1,w2,w3⟩:=H06 hy
  have h9:y.length=ids.length:=by have:=w1.length_eq; simpa using this
  refine Gw (J5c (w1.nodup_iff.2 h5) (by omega)) ?_
  have a8:(canon y).length=ids.length:=by rw [(G22 y).length_eq,h9]
  obtain⟨b,hb,_⟩:=G58 (boxes:=boxes) (l:=canon y) hr ht (by omega)
  refine Gw hb ?_
  have a6:pre.length < (G40 F s ids).length:=by rw [e]; simp
  have a9:s18.length≤pre.length:=by rw [hI]; exact Nat.le_trans (Kp ..) (by simp)
  refine Hy (fun a0=>?_) (fun a1=>?_)
  ·refine Jq (Ku ⟨?_,?_⟩) (h6 _ ?_)
   ·rw [M9]; omega
   ·rw [M9]; exact Nat.le_trans (by omega:s18.length+1≤1000001) (by decide)
   ·rw [hI,List.map_append,List.filter_append]
    simp [hb,a0]
  ·refine h6 _ ?_
   rw [hI,List.map_append,List.filter_append]
   simp [hb,a1]
 ·have a2:s18.Pairwise (fun a b=>Yx a b≠0):=by
   rw [hI]
   refine List.Pairwise.filter _ (List.pairwise_map.2 (h8.imp_of_mem fun {a b} ha hb hp hz=>hp ?_))
   have e1:=H04 (H06 ha).1 hw.sorted
   have e2:=H04 (H06 hb).1 hw.sorted
   have a3:canon a=canon b:=Q53 (by rw [e1,e2]) (J33 hz)
   exact(G22 a).symm.trans (by rw [a3]; exact G22 b)
  have a7:s18.length≤1000000:=by rw [hI]; exact Nat.le_trans (Kp ..) (by simpa using hn)
  have h0:∀ a∈s18,∀ b∈s18,Yx a b=0→a=b:=fun a ha b hb h=>by
   obtain⟨i,hi,rfl⟩:=List.mem_iff_getElem.1 ha
   obtain⟨j,hj,rfl⟩:=List.mem_iff_getElem.1 hb
   have hp:=List.pairwise_iff_getElem.1 a2
   rcases Nat.lt_trichotomy i j with a4 | rfl | a5
   ·exact(hp i j hi hj a4 h).elim
   ·rfl
   ·have:=G15.anti s18[i] s18[j]
    exact(hp j i hj hi a5 (by omega)).elim
  have h3:∀ r',r'.Perm s18→G69 Yx r'→r'=H49 Yx s18:=fun r' hp hs=>by
   refine List.Perm.eq_of_pairwise (le:=J79 Yx) (fun a b ha hb h1 h2=>?_) (hs.imp fun h=>Kt h) (Zz G15.ordc s18) (hp.trans (Ze _ _).symm)
   have:=G15.anti a b
   exact h0 a (hp.mem_iff.1 ha) b ((Ze _ _).mem_iff.1 hb) (by omega)
  have h4:H87 (fun z0 z1=>Ya z0 z1) s18=some (H49 Yx s18):=Q21 Yx H95 (Q51 G15.ordc) (by omega) (Ze _ _) ((Zz G15.ordc s18).imp fun h=>Kv h) h3
  refine Gw h4 (Gy ?_)
  unfold Zs
  rw [hI]

def Ha5 (st:Gb→List Box→List Int→Option (List (List G1))) (F:Nat) (s:Gb) (boxes:List Box) (calls:Int):Option (G5b×Int×Int):=
 bnd (Jo s boxes calls) fun r4=>
 bif (!r4) then
 (some ((G5b.mk [] []),0,5))
 else
 (need (decide (calls≤9223372036854775807)) <|
  upto (fun i53 (s53:(List (List (List G1)))) nx53=>
   bnd (Ry boxes (i53:Int)) fun r59=>
   bnd (st s boxes r59) fun r60=>
   need (decide ((s53.length+[r60].length)*24≤140737488355328∧s53.length+[r60].length≤maxLen)) <|
   Q4 (s53++[r60]) (i53:Int) fun y63=>
   bif decide ((y63.length:Int)=0) then
   (some ((G5b.mk [] []),0,4))
   else
   (nx53 (s53++[r60])))
  (fun(s53:(List (List (List G1))))=>
   Q4 s53 0 fun y73=>
   each (fun y99 i99 (s99:Int×(Gt Gx Ge)) nx99=>
    jp (fun kj102=>
     bnd (Qi F 0 (i99:Int) s99.2 calls s53 (fun z0 z1=>J2 F z0 z1 s boxes)) fun r105=>
     bnd (Qi F 0 s99.1 r105.2 calls s53 (fun z0 z1=>J2 F z0 z1 s boxes)) fun r106=>
     bif decide (r105.1.restows < r106.1.restows) then
     (kj102 ((i99:Int),r106.2))
     else
     (kj102 (s99.1,r106.2))) fun(j102:Int×(Gt Gx Ge))=>
    nx99 (j102.1,j102.2))
   (fun(s99:Int×(Gt Gx Ge))=>
    bnd (Qi F 0 s99.1 s99.2 calls s53 (fun z0 z1=>J2 F z0 z1 s boxes)) fun r108=>
    need (decide (calls≤9223372036854775807)) <|
    upto (fun i152 (s152:Int×(List (List G1))×(List (List Int))×(Gt Gx Ge)) nx152=>
     Q4 s53 (i152:Int) fun y158=>
     Q4 y158 s152.1 fun y160=>
     need (decide ((s152.2.1.length+[y160].length)*24≤140737488355328∧s152.2.1.length+[y160].length≤maxLen)) <|
     bnd (Qi F (i152:Int) s152.1 s152.2.2.2 calls s53 (fun z0 z1=>J2 F z0 z1 s boxes)) fun r163=>
     nx152 (r163.1.next,(s152.2.1++[y160]),s152.2.2.1,r163.2))
    (fun(s152:Int×(List (List G1))×(List (List Int))×(Gt Gx Ge))=>
     some ((G5b.mk s152.2.1 s152.2.2.1),r108.1.restows,0)) calls.toNat 0 (s99.1,[],[],r108.2)) y73 0 (0,(Gt.empty:Gt Gx Ge))) calls.toNat 0 [])
theorem Y14 (F:Nat) (s:Gb) (boxes:List Box) (calls:Int):Hp F s boxes calls=Ha5 (Q7 F) F s boxes calls:=rfl
theorem Ra8 {α β:Type} {m:Option α} {k k':α→Option β} (h:∀ x,m=some x→k x=k' x):bnd m k=bnd m k':=by
 cases m with
 | none=>rfl
 | some x=>exact h x rfl
theorem Qb9 {st st':Gb→List Box→List Int→Option (List (List G1))} {F:Nat} {s:Gb} {boxes:List Box} {calls:Int} (h:∀ (i:Int) r,Ry boxes i=some r→st s boxes r=st' s boxes r):Ha5 st F s boxes calls=Ha5 st' F s boxes calls:=by
 unfold Ha5
 have e:∀ {β:Type} (i:Int) (k:List Int→List (List G1)→Option β),bnd (Ry boxes i) (fun r=>bnd (st s boxes r) (k r))=bnd (Ry boxes i) (fun r=>bnd (st' s boxes r) (k r)):=fun i k=>Ra8 fun r hr=>by rw [h i r hr]
 congr 1
 funext r4
 congr 1
 congr 1
 congr 1
 funext i53 s53 nx53
 exact e _ _

def abB (k:Int) (b:Box):Bool:=decide (b.Load≤k)&&decide (k < b.Discharge)
def Zt (boxes:List Box) (k:Int):List Int:=(boxes.filter (abB k)).map (·.ID)
theorem Heb {α:Type} (p:α→Bool) (l:List α) (x:α):(l++[x]).filter p=l.filter p++(bif p x then [x] else []):=by
 rw [List.filter_append]
 cases h:p x <;> simp [h]
theorem Gd6 (boxes:List Box) (k:Int) (hl:boxes.length≤100000):Ry boxes k=some (Zt boxes k):=by
 refine G6f ?_
 unfold Ry Zt
 refine Jb (fun pre s=>s=(pre.filter (abB k)).map (·.ID)) rfl (fun pre y post s nx e hs h0=>?_) (fun s hs=>Gy hs)
 subst hs
 have hp:pre.length+1≤boxes.length:=by rw [e]; simp
 have hf:=Kp (abB k) pre
 refine Yf (fun j=>j=((pre++[y]).filter (abB k)).map (·.ID)) (fun K hK=>Hy (fun h=>Jq (Rf (by simp only [Mc,M9]; omega) (by omega)) (hK _ ?_)) (fun h=>hK _ ?_)) (fun j hj=>h0 _ hj)
 ·have h':abB k y=true:=h
  rw [Heb,h']; simp
 ·have h':abB k y=false:=h
  rw [Heb,h']; simp
structure Jf2 (boxes:List Box):Prop where
 sorted:boxes.Pairwise (fun a b=>a.ID < b.ID)
 size:∀ b∈boxes,b.Size=40
theorem Q60 {boxes:List Box} (h:boxes.Pairwise (fun a b=>a.ID < b.ID)) {b:Box} (hb:b∈boxes):G81 boxes b.ID=some b:=by
 unfold G81
 induction boxes with
 | nil=>cases hb
 | cons x r ih=>
  rw [List.pairwise_cons] at h
  rcases Mg.1 hb with rfl | hb
  ·simp
  ·have:=h.1 b hb
   rw [List.find?_cons_of_neg (by simp; omega)]
   exact ih h.2 hb
theorem Jf2.whole {boxes:List Box} (h:Jf2 boxes) (k:Int):Whole boxes (Zt boxes k):=by
 refine⟨?_,fun id hid=>?_⟩
 ·unfold Zt
  exact List.pairwise_map.2 ((h.sorted.filter _).imp fun h=>h)
 ·unfold Zt at hid
  obtain⟨b,hb,rfl⟩:=Me.1 hid
  have h0:=(Mh.1 hb).1
  exact⟨b,Q60 h.sorted h0,h.size b h0⟩
theorem G88 (boxes:List Box) (k:Int):(Zt boxes k).length≤boxes.length:=by
 unfold Zt
 rw [Mc]
 exact Kp _ _
structure Ge9 (s:Gb):Prop where
 right:Jg s=some true
 cols:s.Columns.length≤3
 tiers:∀ c∈s.Columns,0≤c.Tiers∧c.Tiers≤3
theorem J84 {F:Nat} {s:Gb} {ids:List Int} (hc:s.Columns.length≤3) (hl:ids.length≤4):(G40 F s ids).length≤1000000:=by
 have h1:(Yw s).length≤3:=by unfold Yw; simpa using hc
 rcases Nat.eq_zero_or_pos (Yw s).length with h0 | h0
 ·unfold G40
  cases F with
  | zero=>simp [G41]
  | succ F=>
   rw [Gc5,h0]
   cases ids.isEmpty <;> simp
 ·have:=Q62 (ts:=Yw s) (m:=4) (by omega) (F:=F) (ids:=ids) (hs:=List.replicate s.Columns.length 0) hl
  refine Nat.le_trans this (Nat.le_trans (Nat.pow_le_pow_left (show (Yw s).length*4≤12 by omega) _) (Nat.le_trans (Nat.pow_le_pow_right (by omega) hl) (by decide)))
theorem Gfd {F:Nat} {s:Gb} {boxes:List Box} {ids:List Int} (hs:Ge9 s) (hw:Whole boxes ids) (hl:ids.length≤4) (hF:ids.length < F):Q7 F s boxes ids=some (Zs F s boxes ids):=
 R83 hs.right (by have:=hs.cols; omega) (fun c hc=>by have:=hs.tiers c hc; omega) hw (by omega) hF (J84 hs.cols hl)
theorem J10 {F:Nat} {s:Gb} {boxes:List Box} {calls:Int} (hs:Ge9 s) (hb:Jf2 boxes) (hl:boxes.length≤4) (hF:boxes.length < F):Hp F s boxes calls=Ha5 (fun s boxes ids=>some (Zs F s boxes ids)) F s boxes calls:=by
 rw [Y14]
 refine Qb9 fun i r hr=>?_
 rw [Gd6 boxes i (by omega)] at hr
 cases hr
 have:=G88 boxes i
 exact Gfd hs (hb.whole i) (by omega) (by omega)

def tw (n:Nat):Gb:=Gb.mk ((List.range n).map fun(i:Nat)=>G4.mk 0 (i:Int) false 2 0 0 0 0 [] 0 0 0) [] (Light.mk 0 0 0 0) [] [] [] (Gi.mk 0 0 0 0)
def bxA:List Box:=[(Box.mk 1 ByteArray.empty 40 false 0 0 2 0 false),(Box.mk 2 ByteArray.empty 40 false 0 1 3 0 false)]
def bxB:List Box:=[(Box.mk 1 ByteArray.empty 40 false 0 0 1 0 false),(Box.mk 2 ByteArray.empty 40 false 0 0 1 0 false),(Box.mk 3 ByteArray.empty 40 false 0 0 1 0 false)]
theorem Hfb {n:Nat} (h:1≤n∧n≤3):Ge9 (tw n):=by
 have h:n=1∨n=2∨n=3:=by omega
 rcases h with rfl | rfl | rfl <;> exact⟨by kernel_rfl,by decide,by decide⟩
theorem Q3b:Jf2 bxA:=⟨by unfold bxA; simp,by unfold bxA; simp⟩
theorem Ra7:Jf2 bxB:=⟨by unfold bxB; simp,by unfold bxB; simp⟩
theorem Y00:Whole bxA [1,2]:=⟨by simp,fun id hid=>by
 simp at hid
 rcases hid with rfl | rfl
 ·exact⟨_,rfl,rfl⟩
 ·exact⟨_,rfl,rfl⟩⟩
theorem Q6b:R7 60=some true:=by
 have t1:Jj 1=some (tw 1):=by kernel_rfl
 have t2:Jj 2=some (tw 2):=by kernel_rfl
 have t3:Jj 3=some (tw 3):=by kernel_rfl
 have t4:Jj 4=some (tw 4):=by kernel_rfl
 have l1:Hp 60 (tw 1) bxA 4=Ha5 (fun s boxes ids=>some (Zs 60 s boxes ids)) 60 (tw 1) bxA 4:=J10 (Hfb (by decide)) Q3b (by decide) (by decide)
 have l2:Hp 60 (tw 2) bxA 4=Ha5 (fun s boxes ids=>some (Zs 60 s boxes ids)) 60 (tw 2) bxA 4:=J10 (Hfb (by decide)) Q3b (by decide) (by decide)
 have l3:Hp 60 (tw 1) bxB 2=Ha5 (fun s boxes ids=>some (Zs 60 s boxes ids)) 60 (tw 1) bxB 2:=J10 (Hfb (by decide)) Ra7 (by decide) (by decide)
 have s1:Q7 60 (tw 2) bxA [1,2]=some (Zs 60 (tw 2) bxA [1,2]):=Gfd (Hfb (by decide)) Y00 (by decide) (by decide)
 unfold R7
 rw [t1,G42]
 show bnd (Hp 60 (tw 1) bxA 4) _=_
 rw [l1,t2]
 simp only [G42]
 show bnd _ (fun r5=>bnd (Hp 60 (tw 2) bxA 4) _)=_
 rw [l2]
 unfold Jk
 show bnd _ (fun r5=>bnd _ fun r8=>bnd (bnd _ fun r4=>bif _ then _ else each _ (fun _=>bnd _ fun r43=>bif _ then _ else bnd (Q7 60 (tw 2) bxA [1,2]) _) _ _ _) fun r11=>bnd (Hp 60 (tw 1) bxB 2) _)=_
 rw [s1,l3]
 kernel_rfl

section map
variable {κ ν:Type} [DecidableEq κ]
theorem Qcb (m:Gt κ ν) (a b:κ) (v:ν):Gt.has (Gt.put m a v) b=(decide (a=b)||Gt.has m b):=by
 unfold Gt.has Gt.put
 rw [← G93,← G93,H01]
 by_cases h:a=b <;> simp [h]
theorem Qcc (m:Gt κ ν) (a b:κ) (v z:ν):Gt.get (Gt.put m a v) b z=if a=b then v else Gt.get m b z:=by
 unfold Gt.get Gt.put
 rw [H01]
 split <;> rfl
end map
def pick (rs:Int) (best:Int×Int) (j:Nat):Int×Int:=bif decide (best.2 < 0)||decide (rs < best.1) then (rs,(j:Int)) else best
def Ga6:List Int→Nat→Int×Int→Int×Int
 | [],_,b=>b
 | r::l,i,b=>Ga6 l (i+1) (pick r b i)
def Yz (R:List G1→List G1→Int) (all:List (List (List G1))):Nat→Nat→List G1→Int×Int
 | 0,_,_=>(0,-1)
 | d+1,k,a=>Ga6 ((all.getD (k+1) []).map fun b=>R a b+(Yz R all d (k+1) b).1) 0 (0,-1)
theorem J62 {B:Int} (hB:0≤B):∀ {l:List Int} {i:Nat} {b:Int×Int},(∀ r∈l,0≤r∧r≤B)→0≤b.1∧b.1≤B→0≤(Ga6 l i b).1∧(Ga6 l i b).1≤B
 | [],_,_,_,h=>h
 | r::l,i,b,hl,h=>by
  have hp:0≤(pick r b i).1∧(pick r b i).1≤B:=by
   unfold pick
   cases decide (b.2 < 0)||decide (r < b.1) with
   | true=>exact hl r (List.mem_cons_self ..)
   | false=>exact h
  exact J62 (l:=l) (i:=i+1) (b:=pick r b i) hB (fun x hx=>hl x (List.mem_cons_of_mem _ hx)) hp
theorem Jbd (x:Int):∀ (l:List Int) (i:Nat) (b:Int×Int),Ga6 (l++[x]) i b=pick x (Ga6 l i b) (i+l.length)
 | [],i,b=>rfl
 | r::l,i,b=>by
  rw [List.cons_append,Ga6,Jbd x l,Ga6,M4,show i+1+l.length=i+(l.length+1) by omega]
theorem H9a {R:List G1→List G1→Int} {all:List (List (List G1))} (hR:∀ a b,0≤R a b∧R a b≤1000):∀ (d k:Nat) (a:List G1),0≤(Yz R all d k a).1∧(Yz R all d k a).1≤1000*(d:Int)
 | 0,_,_=>⟨Int.le_refl _,Int.le_refl _⟩
 | d+1,k,a=>by
  refine J62 (B:=1000*((d+1:Nat):Int)) (by omega) (fun r hr=>?_) ⟨Int.le_refl _,by omega⟩
  obtain⟨b,_,rfl⟩:=Me.1 hr
  have h1:=hR a b
  have h2:=H9a (all:=all) hR d (k+1) b
  omega
def R50 (b:Int×Int):Ge:=Ge.mk b.1 b.2
def Good (R:List G1→List G1→Int) (all:List (List (List G1))) (calls:Nat) (m:Gt Gx Ge):Prop:=
 ∀ k i:Int,Gt.has m ⟨k,i⟩=true→∃ (kn jn d:Nat) (L:List (List G1)) (a:List G1),k=(kn:Int)∧i=(jn:Int)∧kn+d+1=calls∧all[kn]? = some L∧L[jn]? = some a∧Gt.get m ⟨k,i⟩ (Ge.mk 0 0)=R50 (Yz R all d kn a)
theorem R39 {R:List G1→List G1→Int} {all:List (List (List G1))} {calls:Nat}:Good R all calls Gt.empty:=fun k i h=>by simp [Gt.has,Gt.empty,G99] at h
theorem R94 {R:List G1→List G1→Int} {Rm:List G1→List G1→Option Int} {all:List (List (List G1))} {calls:Nat} (hc:calls≤1000) (hR:∀ a b,0≤R a b∧R a b≤1000) (hm:∀ (k:Nat) L L' a b,all[k]? = some L→all[k+1]? = some L'→a∈L→b∈L'→Rm a b=some (R a b)) (a3:all.length=calls) :
  ∀ (d k j F:Nat) (L:List (List G1)) (a:List G1) (m:Gt Gx Ge),k+d+1=calls→all[k]? = some L→L[j]? = some a→Good R all calls m→d < F →
   Wp (Qi F (k:Int) (j:Int) m (calls:Int) all Rm) (fun r=>r.1=R50 (Yz R all d k a)∧Good R all calls r.2):=by
 intro d
 induction d with
 | zero=>
  intro k j F L a m hk hL ha hg hF
  obtain⟨F,rfl⟩:∃ n,F=n+1:=⟨F - 1,by omega⟩
  show Wp (Z3 _ _ _ _ _ _ _) _
  unfold Z3 Y9
  refine H8 (H8 (Gy (Hy (fun h=>?_) (fun h=>?_))))
  ·obtain⟨kn,jn,d',L',a',h1,h2,h3,h4,h5,h6⟩:=hg _ _ h
   have e1:kn=k:=by omega
   have e2:jn=j:=by omega
   subst e1
   subst e2
   rw [hL] at h4; cases h4
   rw [ha] at h5; cases h5
   have e3:d'=0:=by omega
   subst e3
   exact Gy (Gy ⟨h6,hg⟩)
  ·unfold G08
   refine H8 (Jd ⟨by omega,by omega⟩ (Hy (fun _=>Gy (Gy (Gy ⟨rfl,?_⟩))) (fun h=>by have:=Kt h; omega)))
   intro k' i' hh
   rw [Qcb] at hh
   rw [Qcc]
   by_cases e:(⟨(k:Int),(j:Int)⟩:Gx)=⟨k',i'⟩
   ·rw [if_pos e]
    injection e with e1 e2
    subst e1
    subst e2
    exact⟨k,j,0,L,a,rfl,rfl,hk,hL,ha,rfl⟩
   ·rw [if_neg e]
    rw [Kv e,Bool.false_or] at hh
    exact hg k' i' hh
 | succ d ih=>
  intro k j F L a m hk hL ha hg hF
  obtain⟨F,rfl⟩:∃ n,F=n+1:=⟨F - 1,by omega⟩
  show Wp (Z3 _ _ _ _ _ _ _) _
  unfold Z3 Y9
  refine H8 (H8 (Gy (Hy (fun h=>?_) (fun h=>?_))))
  ·obtain⟨kn,jn,d',L',a',h1,h2,h3,h4,h5,h6⟩:=hg _ _ h
   have e1:kn=k:=by omega
   have e2:jn=j:=by omega
   subst e1
   subst e2
   rw [hL] at h4; cases h4
   rw [ha] at h5; cases h5
   have e3:d'=d+1:=by omega
   subst e3
   exact Gy (Gy ⟨h6,hg⟩)
  ·have h9:k+1 < all.length:=by omega
   obtain⟨L',h0⟩:∃ L',all[k+1]? = some L':=⟨_,Kx h9⟩
   have h8:all.getD (k+1) []=L':=by simp [List.getD,h0]
   unfold G08
   refine H8 (Jd ⟨by omega,by omega⟩ (Hy (fun h=>by have:=Ks h; omega) (fun _=>?_)))
   refine Jd ⟨by omega,by omega⟩ (Qs (m:=k+1) (by omega) h0 ?_)
   refine Jb (fun pre st=>(st.1,st.2.1)=Ga6 (pre.map fun b=>R a b+(Yz R all d (k+1) b).1) 0 (0,-1)∧Good R all calls st.2.2) ⟨rfl,hg⟩ (fun pre y post st nx e hI a0=>?_) (fun st hI=>Gy (Gy (Gy ⟨?_,?_⟩)))
   ·obtain⟨i1,i2⟩:=hI
    have hy:L'[pre.length]? = some y:=by rw [e]; simp
    have a1:y∈L':=Kz hy
    have a2:a∈L:=Kz ha
    refine Yf (fun q=>(q.2.1,q.2.2)=Ga6 ((pre++[y]).map fun b=>R a b+(Yz R all d (k+1) b).1) 0 (0,-1)∧Good R all calls q.1) (fun K hK=>?_) (fun q hq=>a0 _ hq)
    refine Qs (m:=k) rfl hL (Qs (m:=j) rfl ha (Jd ⟨by omega,by omega⟩ (Qs (m:=k+1) (by omega) h0 (Qs (m:=pre.length) rfl hy ?_))))
    refine Gw (hm k L L' a y hL h0 a2 a1) (Jd ⟨by omega,by omega⟩ ?_)
    have e1:(k:Int)+1=((k+1:Nat):Int):=by omega
    rw [e1]
    refine H8 (wp_mono (ih (k+1) pre.length F L' y st.2.2 (by omega) h0 hy i2 (by omega)) fun r hr=>?_)
    obtain⟨r1,r2⟩:=hr
    have b1:=hR a y
    have b2:=H9a (all:=all) hR d (k+1) y
    have er:r.1.restows=(Yz R all d (k+1) y).1:=by rw [r1]; rfl
    refine Jd ⟨by omega,by omega⟩ ?_
    have h7:Ga6 ((pre++[y]).map fun b=>R a b+(Yz R all d (k+1) b).1) 0 (0,-1)=pick (R a y+r.1.restows) (st.1,st.2.1) pre.length:=by
     rw [List.map_append,List.map_singleton,Jbd,← i1,er,Mc,Nat.zero_add]
    refine Hy (fun h=>hK _ ⟨?_,r2⟩) (fun h=>hK _ ⟨?_,r2⟩)
    ·rw [h7]; unfold pick; rw [h]; rfl
    ·rw [h7]; unfold pick; rw [h]; rfl
   ·show Ge.mk st.1 st.2.1=R50 (Ga6 ((all.getD (k+1) []).map fun b=>R a b+(Yz R all d (k+1) b).1) 0 (0,-1))
    rw [h8,← hI.1]; rfl
   ·intro k' i' hh
    rw [Qcb] at hh
    rw [Qcc]
    by_cases e:(⟨(k:Int),(j:Int)⟩:Gx)=⟨k',i'⟩
    ·rw [if_pos e]
     injection e with e1 e2
     subst e1
     subst e2
     refine⟨k,j,d+1,L,a,rfl,rfl,hk,hL,ha,?_⟩
     show Ge.mk st.1 st.2.1=R50 (Ga6 ((all.getD (k+1) []).map fun b=>R a b+(Yz R all d (k+1) b).1) 0 (0,-1))
     rw [h8,← hI.1]; rfl
    ·rw [if_neg e]
     rw [Kv e,Bool.false_or] at hh
     exact hI.2 k' i' hh


theorem J2e {α:Type} {l:List α} {k:Nat} {x:α} (h:l[k]? = some x):l.take (k+1)=l.take k++[x]:=by
 obtain⟨hk,rfl⟩:=Kw h
 rw [List.take_succ_eq_append_getElem hk]

theorem He3:∀ (l:List Int) (i:Nat) (b:Int×Int),0≤b.2∨l≠[] →
  (Ga6 l i b=b∧0≤b.2∧∀ x∈l,b.1≤x)∨∃ j x,l[j]? = some x∧Ga6 l i b=(x,((i+j:Nat):Int))∧(∀ y∈l,x≤y)∧(∀ j' y,j' < j→l[j']? = some y→x < y)∧(0≤b.2→x < b.1)
 | [],i,b,h=>.inl ⟨rfl,h.elim id (fun h=>(h rfl).elim),fun x hx=>(M0 hx).elim⟩
 | r::l,i,b,h=>by
  have h7:Ga6 (r::l) i b=Ga6 l (i+1) (pick r b i):=rfl
  rw [h7]
  cases hc:(decide (b.2 < 0)||decide (r < b.1)) with
  | true=>
   have hp:pick r b i=(r,(i:Int)):=by unfold pick; rw [hc]; rfl
   rw [hp]
   have h6:0≤b.2→r < b.1:=fun h0=>by
    rcases (Bool.or_eq_true_iff).1 hc with h | h
    ·have:=Ks h; omega
    ·exact Ks h
   rcases He3 l (i+1) (r,(i:Int)) (.inl (by show (0:Int)≤(i:Int); omega)) with ⟨h1,_,h3⟩ | ⟨j,x,h1,h2,h3,h4,h5⟩
   ·refine .inr ⟨0,r,rfl,by rw [h1]; simp,fun y hy=>?_,fun j' y h8 _=>by omega,h6⟩
    rcases Mg.1 hy with rfl | hy
    ·exact Int.le_refl _
    ·exact h3 y hy
   ·have hx:x < r:=h5 (by show (0:Int)≤(i:Int); omega)
    refine .inr ⟨j+1,x,h1,by rw [h2]; congr 2; omega,fun y hy=>?_,fun j' y h8 hy=>?_,fun h0=>by have:=h6 h0; omega⟩
    ·rcases Mg.1 hy with rfl | hy
     ·omega
     ·exact h3 y hy
    ·cases j' with
     | zero=>cases hy; exact hx
     | succ j'=>exact h4 j' y (by omega) hy
  | false=>
   have hp:pick r b i=b:=by unfold pick; rw [hc]; rfl
   rw [hp]
   obtain⟨h9,a0⟩:=(Mj).1 hc
   have a1:=Kt h9
   have h6:=Kt a0
   rcases He3 l (i+1) b (.inl (by omega)) with ⟨h1,h2,h3⟩ | ⟨j,x,h1,h2,h3,h4,h5⟩
   ·refine .inl ⟨h1,h2,fun y hy=>?_⟩
    rcases Mg.1 hy with rfl | hy
    ·omega
    ·exact h3 y hy
   ·have hx:x < b.1:=h5 (by omega)
    refine .inr ⟨j+1,x,h1,by rw [h2]; congr 2; omega,fun y hy=>?_,fun j' y h8 hy=>?_,fun _=>hx⟩
    ·rcases Mg.1 hy with rfl | hy
     ·omega
     ·exact h3 y hy
    ·cases j' with
     | zero=>cases hy; omega
     | succ j'=>exact h4 j' y (by omega) hy
theorem Hf0 {R:List G1→List G1→Int} {all:List (List (List G1))} {d k:Nat} {a:List G1} {L:List (List G1)} (hL:all[k+1]? = some L) (h0:L≠[]) :
  ∃ (j:Nat) (b:List G1),L[j]? = some b∧Yz R all (d+1) k a=(R a b+(Yz R all d (k+1) b).1,(j:Int))∧∀ c∈L,R a b+(Yz R all d (k+1) b).1≤R a c+(Yz R all d (k+1) c).1:=by
 have h4:all.getD (k+1) []=L:=by simp [List.getD,hL]
 have he:Yz R all (d+1) k a=Ga6 (L.map fun b=>R a b+(Yz R all d (k+1) b).1) 0 (0,-1):=by
  show Ga6 ((all.getD (k+1) []).map fun b=>R a b+(Yz R all d (k+1) b).1) 0 (0,-1)=_
  rw [h4]
 rw [he]
 rcases He3 (L.map fun b=>R a b+(Yz R all d (k+1) b).1) 0 (0,-1) (.inr (by simpa using h0)) with ⟨_,h2,_⟩ | ⟨j,x,h1,h2,h3,_,_⟩
 ·exact absurd h2 (by decide)
 ·rw [M5] at h1
  obtain⟨b,hb,rfl⟩:=Option.map_eq_some_iff.1 h1
  refine⟨j,b,hb,by rw [h2,Nat.zero_add],fun c hc=>h3 _ (Me.2 ⟨c,hc,rfl⟩)⟩
def G50 (R:List G1→List G1→Int) (all:List (List (List G1))):Nat→Nat→List G1→List (List G1)
 | 0,_,a=>[a]
 | d+1,k,a=>a::G50 R all d (k+1) ((all.getD (k+1) []).getD (Yz R all (d+1) k a).2.toNat [])
theorem Hfe {α:Type} {l:List α} {k:Nat} {x:α} (h:l[k]? = some x):l.take (k+1)=l.take k++[x]:=J2e h
theorem Jc8 {R:List G1→List G1→Int} {all:List (List (List G1))} {F n:Nat} {s:Gb} {boxes:List Box} (hS:Jo s boxes (n:Int)=some true) (hn:1≤n∧n≤1000) (hF:n < F) (h8:all.length=n)
  (a7:∀ (i:Nat) L,all[i]? = some L→∃ ids,Ry boxes (i:Int)=some ids∧Q7 F s boxes ids=some L) (h9:∀ L∈all,L≠[]) (b3:∀ L∈all,L.length≤1000000)
  (hR:∀ a b,0≤R a b∧R a b≤1000) (hm:∀ (k:Nat) L L' a b,all[k]? = some L→all[k+1]? = some L'→a∈L→b∈L'→J2 F a b s boxes=some (R a b)) :
  Wp (Hp F s boxes (n:Int)) (fun r=>∃ L0 a0,all[0]? = some L0∧a0∈L0∧(∀ b∈L0,(Yz R all (n - 1) 0 a0).1≤(Yz R all (n - 1) 0 b).1)∧r=(G5b.mk (G50 R all (n - 1) 0 a0) [],(Yz R all (n - 1) 0 a0).1,0)):=by
 obtain⟨n0,n1⟩:=hn
 have h0:=fun(d k j:Nat) (L:List (List G1)) (a:List G1) (m:Gt Gx Ge) h1 h2 h3 h4=>R94 (Rm:=fun z0 z1=>J2 F z0 z1 s boxes) n1 hR hm h8 d k j F L a m h1 h2 h3 h4
 unfold Hp
 refine Gw hS ?_
 simp only [Bool.not_true,cond_false]
 refine Jq (Ku (by omega)) ?_
 rw [Int.toNat_natCast]
 refine G7f (fun i st=>st=all.take i) rfl (fun i st nx hi hI h6=>?_) (fun st hI=>?_)
 ·subst hI
  obtain⟨L,hL⟩:∃ L,all[i]? = some L:=⟨_,Kx (by omega)⟩
  obtain⟨ids,h1,h2⟩:=a7 i L hL
  have a8:=Kz hL
  have a9:(all.take i).length=i:=by rw [List.length_take]; omega
  refine Gw h1 (Gw h2 (Jq ?_ ?_))
  ·exact Rf (by rw [a9,M9]; omega) (by omega)
  ·refine Qs (m:=i) rfl (x:=L) (by rw [← Hfe hL]; rw [M6]; simp [hL]) ?_
   refine Hy (fun h=>?_) (fun _=>h6 _ (Hfe hL).symm)
   have:=Ks h
   exact(h9 L a8 (Kn (by omega))).elim
 ·have hI:st=all:=by rw [hI,← h8,List.take_length]
  subst hI
  obtain⟨L0,h5⟩:∃ L,st[0]? = some L:=⟨_,Kx (by omega)⟩
  have a1:=Kz h5
  refine Qs (m:=0) rfl h5 ?_
  have a2:=h9 L0 a1
  obtain⟨d,hd⟩:∃ d,n=d+1:=⟨n - 1,by omega⟩
  have b0:n - 1=d:=by omega
  rw [b0]
  refine Jb (fun pre (s99:Int×Gt Gx Ge)=>(∃ (j:Nat) (a:List G1),s99.1=(j:Int)∧L0[j]? = some a∧∀ b∈pre,(Yz R st d 0 a).1≤(Yz R st d 0 b).1)∧Good R st n s99.2) ?_ (fun pre y post s99 nx e hI h6=>?_) (fun s99 hI=>?_)
  ·obtain⟨x,hx⟩:∃ x,L0[0]? = some x:=⟨_,Kx (List.length_pos_iff.2 a2)⟩
   exact⟨⟨0,x,rfl,hx,fun b hb=>(M0 hb).elim⟩,R39⟩
  ·obtain⟨⟨j,a,h1,h2,h3⟩,hg⟩:=hI
   have hy:L0[pre.length]? = some y:=by rw [e]; simp
   refine Yf (fun q=>(∃ (j:Nat) (a:List G1),q.1=(j:Int)∧L0[j]? = some a∧∀ b∈pre++[y],(Yz R st d 0 a).1≤(Yz R st d 0 b).1)∧Good R st n q.2) (fun K hK=>?_) (fun q hq=>h6 _ hq)
   refine H8 (wp_mono (h0 d 0 pre.length L0 y s99.2 (by omega) h5 hy hg (by omega)) fun r105 a3=>?_)
   obtain⟨p1,p2⟩:=a3
   rw [h1]
   refine H8 (wp_mono (h0 d 0 j L0 a r105.2 (by omega) h5 h2 p2 (by omega)) fun r106 a4=>?_)
   obtain⟨q1,q2⟩:=a4
   rw [p1,q1]
   refine Hy (fun h=>hK _ ⟨⟨pre.length,y,rfl,hy,fun b hb=>?_⟩,q2⟩) (fun h=>hK _ ⟨⟨j,a,rfl,h2,fun b hb=>?_⟩,q2⟩)
   ·have h:(Yz R st d 0 y).1 < (Yz R st d 0 a).1:=Ks h
    rcases Md.1 hb with hb | hb
    ·have:=h3 b hb; omega
    ·rw [Mf.1 hb]; exact Int.le_refl _
   ·have h:¬ (Yz R st d 0 y).1 < (Yz R st d 0 a).1:=Kt h
    rcases Md.1 hb with hb | hb
    ·exact h3 b hb
    ·rw [Mf.1 hb]; omega
  ·obtain⟨⟨j,a,h1,h2,h3⟩,hg⟩:=hI
   rw [h1]
   refine H8 (wp_mono (h0 d 0 j L0 a s99.2 (by omega) h5 h2 hg (by omega)) fun r108 a5=>?_)
   obtain⟨p1,p2⟩:=a5
   refine Jq (Ku (by omega)) ?_
   rw [p1]
   refine G7f (fun i (s152:Int×List (List G1)×List (List Int)×Gt Gx Ge)=>s152.2.2.1=[]∧Good R st n s152.2.2.2∧s152.2.1.length=i∧((i=n∧s152.2.1=G50 R st d 0 a)∨∃ (d' j:Nat) (L:List (List G1)) (b:List G1),i+d'+1=n∧s152.1=(j:Int)∧st[i]? = some L∧L[j]? = some b∧s152.2.1++G50 R st d' i b=G50 R st d 0 a)) ⟨rfl,p2,rfl,.inr ⟨d,j,L0,a,by omega,rfl,h5,h2,rfl⟩⟩ (fun i s152 nx hi hI h6=>?_) (fun s152 hI=>?_)
   ·obtain⟨w1,w2,w3,w4⟩:=hI
    rcases w4 with ⟨w4,_⟩ | ⟨d',j',L,b,v1,v2,v3,v4,v5⟩
    ·omega
    rw [v2]
    refine Qs (m:=i) rfl v3 (Qs (m:=j') rfl v4 (Jq ?_ ?_))
    ·exact Rf (by rw [w3,M9]; omega) (by omega)
    ·refine H8 (wp_mono (h0 d' i j' L b s152.2.2.2 (by omega) v3 v4 w2 (by omega)) fun r163 a6=>?_)
     obtain⟨u1,u2⟩:=a6
     refine h6 _ ⟨w1,u2,by show (s152.2.1++[b]).length=i+1; simp [w3],?_⟩
     cases d' with
     | zero=>exact .inl ⟨by omega,v5⟩
     | succ d'=>
      obtain⟨L',h7⟩:∃ L',st[i+1]? = some L':=⟨_,Kx (by omega)⟩
      obtain⟨j2,b2,x1,x2,x3⟩:=Hf0 (R:=R) (d:=d') (a:=b) h7 (h9 L' (Kz h7))
      refine .inr ⟨d',j2,L',b2,by omega,by show r163.1.next=_; rw [u1,x2]; rfl,h7,x1,?_⟩
      show (s152.2.1++[b])++G50 R st d' (i+1) b2=_
      rw [← v5,List.append_assoc]
      have:G50 R st (d'+1) i b=b::G50 R st d' (i+1) b2:=by
       rw [G50,x2]
       have b1:st.getD (i+1) []=L':=by simp [List.getD,h7]
       rw [b1]
       simp [List.getD,x1]
      rw [this]; rfl
   ·obtain⟨w1,w2,w3,w4⟩:=hI
    rcases w4 with ⟨_,w4⟩ | ⟨d',j',L,b,v1,_⟩
    ·refine Gy ⟨L0,a,h5,Kz h2,h3,?_⟩
     rw [w1,w4]; rfl
    ·omega

def Q52 (R:List G1→List G1→Int):List (List G1)→Int
 | a::b::l=>R a b+Q52 R (b::l)
 | _=>0
def Q40 (all:List (List (List G1))):Nat→List (List G1)→Prop
 | _,[]=>True
 | k,a::l=>(∃ L,all[k]? = some L∧a∈L)∧Q40 all (k+1) l
theorem R67 {R:List G1→List G1→Int} {all:List (List (List G1))}:∀ (d k:Nat) (a:List G1) (l:List (List G1)),l.length=d→Q40 all (k+1) l→(Yz R all d k a).1≤Q52 R (a::l)
 | 0,k,a,l,hl,_=>by
  cases l with
  | nil=>exact Int.le_refl _
  | cons b l=>cases hl
 | d+1,k,a,l,hl,hp=>by
  cases l with
  | nil=>cases hl
  | cons b l=>
   obtain⟨⟨L,hL,hb⟩,h0⟩:=hp
   obtain⟨j,c,h1,h2,h3⟩:=Hf0 (R:=R) (d:=d) (a:=a) hL (List.ne_nil_of_mem hb)
   have h4:=h3 b hb
   have h5:=R67 (R:=R) d (k+1) b l (by simpa using hl) h0
   rw [h2]
   show R a c+(Yz R all d (k+1) c).1≤R a b+Q52 R (b::l)
   omega
theorem Jda {R:List G1→List G1→Int} {all:List (List (List G1))} (h3:∀ L∈all,L≠[]):∀ (d k:Nat) (a:List G1) (L:List (List G1)),k+d < all.length→all[k]? = some L→a∈L →
  Q40 all k (G50 R all d k a)∧(G50 R all d k a).length=d+1∧Q52 R (G50 R all d k a)=(Yz R all d k a).1∧(G50 R all d k a).head? = some a
 | 0,k,a,L,_,hL,ha=>⟨⟨⟨L,hL,ha⟩,trivial⟩,rfl,rfl,rfl⟩
 | d+1,k,a,L,hk,hL,ha=>by
  obtain⟨L',h0⟩:∃ L',all[k+1]? = some L':=⟨_,Kx (by omega)⟩
  obtain⟨j,b,h1,h2,_⟩:=Hf0 (R:=R) (d:=d) (a:=a) h0 (h3 L' (Kz h0))
  have hc:G50 R all (d+1) k a=a::G50 R all d (k+1) b:=by
   rw [G50,h2]
   have h4:all.getD (k+1) []=L':=by simp [List.getD,h0]
   rw [h4]
   simp [List.getD,h1]
  obtain⟨g1,g2,g3,g4⟩:=Jda (R:=R) h3 d (k+1) b L' (by omega) h0 (Kz h1)
  rw [hc,h2]
  refine⟨⟨⟨L,hL,ha⟩,g1⟩,by rw [M4,g2],?_,rfl⟩
  revert g3 g4
  cases G50 R all d (k+1) b with
  | nil=>intro _ g4; cases g4
  | cons c l=>
   intro g3 g4
   cases g4
   show R a b+Q52 R (b::l)=R a b+(Yz R all d (k+1) b).1
   rw [g3]
end Go.Proofs.YtibhpogonkdiaaaGreat
