/-
 Plans that Voyage makes are right; what is lifted; restows.
-/
import Derived.Test.YteoeccjboahfgaaGreatWp
import Derived.Test.YteoeccjboahfgaaGreatBuiltL
set_option maxRecDepth 100000
namespace Go.Proofs.YteoeccjboahfgaaGreat
open Go.RowKit

theorem G3c {α β:Type} {x:α} {k:α→Option β}:bnd (some x) k=k x:=rfl
/-- The place of the first element at which p holds, -1 if there is none. -/
def H40 {α:Type} (p:α→Bool) (l:List α):Int:=match l.findIdx? p with
 | some j=>(j:Int)
 | none => -1
theorem G82 {α:Type} {p:α→Bool} {f:α→Option Bool} {xs:List α} (hf:∀ x∈xs,f x=some (p x)) :
  each (fun y i (_:Unit) nx=>bnd (f y) fun r=>bif r then some (i:Int) else nx ()) (fun _=>some (-1)) xs 0 ()=some (H40 p xs):=by
 have key:∀ (xs:List α),(∀ x∈xs,f x=some (p x))→∀ i:Nat,each (fun y i (_:Unit) nx=>bnd (f y) fun r=>bif r then some (i:Int) else nx ()) (fun _=>some (-1)) xs i ()=some (match xs.findIdx? p with
  | some j=>((i+j:Nat):Int)
  | none => -1):=by
  intro xs
  induction xs with
  | nil=>intro _ i; rfl
  | cons x xs ih=>
   intro hf i
   rw [each,hf x (List.mem_cons_self ..),G3c,List.findIdx?_cons]
   cases p x with
   | true=>simp
   | false=>
    simp only [cond_false]
    rw [ih (fun y hy=>hf y (List.mem_cons_of_mem _ hy)) (i+1)]
    cases xs.findIdx? p with
    | none=>simp
    | some j=>show some (((i+1+j:Nat)):Int)=some (((i+(j+1):Nat)):Int); rw [show i+1+j=i+(j+1) by omega]
 rw [key xs hf 0]
 unfold H40
 cases xs.findIdx? p <;> simp
theorem G98 {α:Type} (p:α→Bool) (l:List α):(H40 p l = -1∧(∀ x∈l,p x=false)∧l.find? p=none)∨∃ (m:Nat) (x:α),H40 p l=(m:Int)∧l[m]? = some x∧p x=true∧l.find? p=some x:=by
 unfold H40
 cases h:l.findIdx? p with
 | none=>
  have:=List.findIdx?_eq_none_iff.1 h
  exact .inl ⟨rfl,this,List.find?_eq_none.2 (fun x hx=>by rw [this x hx]; simp)⟩
 | some j=>
  obtain⟨hj,h1,h2⟩:=List.findIdx?_eq_some_iff_getElem.1 h
  refine .inr ⟨j,l[j],rfl,by simp [hj],h1,?_⟩
  refine List.find?_eq_some_iff_getElem.2 ⟨h1,j,hj,rfl,fun k hk=>?_⟩
  simpa using h2 k hk
theorem H00 {α:Type} {p:α→Bool} {l:List α}:decide (0≤H40 p l)=l.any p:=by
 rcases G98 p l with ⟨h1,h2,_⟩ | ⟨m,x,h1,h2,h3,_⟩
 ·rw [h1]
  refine Eq.symm (List.any_eq_false.2 fun x hx=>?_)
  rw [h2 x hx]; exact Bool.false_ne_true
 ·rw [h1,decide_eq_true (by omega)]
  exact(List.any_eq_true.2 ⟨x,List.mem_of_getElem? h2,h3⟩).symm
def H44 (boxes:List Gr) (id:Int):Option Gr:=boxes.find? (fun b=>decide (b.ID=id))
theorem stow_find (boxes:List Gr) (id:Int):G76 boxes id=some (match H44 boxes id with
  | some b=>(b,true)
  | none=>(Gr.mk 0 ByteArray.empty 0 false 0 0 0 0 false,false)):=by
 unfold G76
 have h:Yk boxes (fun z0=>G57 z0 id)=some (H40 (fun b:Gr=>decide (b.ID=id)) boxes):=G82 (fun x _=>rfl)
 rw [h]
 simp only [G3c]
 unfold H44
 rcases G98 (fun b:Gr=>decide (b.ID=id)) boxes with ⟨h1,_,h3⟩ | ⟨m,x,h1,h2,_,h4⟩
 ·rw [h1,h3]; rfl
 ·rw [h1,h4,decide_eq_false (by omega),cond_false]
  unfold Rm
  rw [decide_eq_true (by omega),cond_true,show (m:Int).toNat=m by omega,h2]
  rfl
def findSt (l:List G7) (id:Int):Option G7:=l.find? (fun x=>decide (x.Gr=id))
def H01 (size:Int):List Int:=if size=40 then [0] else if size=20 then [1,2] else []
theorem J22 (size:Int):G11 size=some (H01 size):=by
 unfold G11 H01
 by_cases h:size=40
 ·simp [h]
 ·by_cases h2:size=20
  ·simp [h2]
  ·simp [h,h2]
theorem contains8 (l:List Int) (v:Int):Rz l v=some (l.any (fun y=>decide (v=y))):=by
 unfold Rz
 have h:Yv l v=some (H40 (fun y=>decide (v=y)) l):=by
  unfold Yv
  exact G82 (f:=fun y=>some (decide (v=y))) (fun x _=>rfl)
 rw [h]
 simp only [G3c]
 rw [H00]
theorem containsSlot (l:List Slot) (v:Slot):Rf l v=some (l.any (fun y=>decide (v=y))):=by
 unfold Rf
 have h:Yd l v=some (H40 (fun y=>decide (v=y)) l):=by
  unfold Yd
  exact G82 (f:=fun y=>some (decide (v=y))) (fun x _=>rfl)
 rw [h]
 simp only [G3c]
 rw [H00]
/-- There is such a slot in the ship, for boxes of a size. -/
structure Ge5 (s:Hc) (x:Slot) (size:Int):Prop where
 col:∃ (m:Nat) (c:G9),x.G9=(m:Int)∧s.Columns[m]? = some c∧x.Tier < c.Tiers
 tier:0≤x.Tier
 half:x.Half∈H01 size
theorem slot_right (s:Hc) (x:Slot) (size:Int):Wp (G87 s x size) (fun r=>r=true ↔ Ge5 s x size):=by
 unfold G87
 by_cases h0:0≤x.G9∧x.G9 < (s.Columns.length:Int)
 ·by_cases h1:0≤x.Tier
  ·obtain⟨m,hm⟩:∃ m:Nat,x.G9=(m:Int):=⟨x.G9.toNat,by omega⟩
   have hml:m < s.Columns.length:=by omega
   have hc:s.Columns[m]? = some s.Columns[m]:=by simp [hml]
   have e:(((decide (0≤x.G9))&&(decide (x.G9 < (s.Columns.length:Int))))&&(decide (0≤x.Tier)))=true:=by simp [h0.1,h0.2,h1]
   simp only [e,cond_true,Bool.true_and]
   refine Hd (Jq hm hc (Gw ?_))
   by_cases h2:x.Tier < (s.Columns[m]).Tiers
   ·rw [decide_eq_true h2]
    simp only [cond_true]
    refine H6 (J22 size) (H6 (contains8 _ _) (Gw ?_))
    rw [Bool.true_and,List.any_eq_true]
    constructor
    ·rintro⟨y,hy,he⟩
     have:=of_decide_eq_true he
     subst this
     exact⟨⟨m,_,hm,hc,h2⟩,h1,hy⟩
    ·exact fun h=>⟨_,h.half,by simp⟩
   ·rw [decide_eq_false h2]
    simp only [cond_false,Bool.false_and]
    refine Hd (Gw (Hd (Gw (Gw ⟨fun h=>(by cases h),fun h=>?_⟩))))
    obtain⟨m',c,g1,g2,g3⟩:=h.col
    have:m'=m:=by omega
    subst this
    rw [hc] at g2; cases g2
    exact(h2 g3).elim
  ·simp only [decide_eq_false h1,Bool.and_false,cond_false,Bool.false_and]
   exact Hd (Gw (Hd (Gw (Hd (Gw (Gw ⟨fun h=>(by cases h),fun h=>(h1 h.tier).elim⟩))))))
 ·have e:((decide (0≤x.G9))&&(decide (x.G9 < (s.Columns.length:Int))))=false:=by
   by_cases h:0≤x.G9
   ·have:¬ x.G9 < (s.Columns.length:Int):=fun g=>h0 ⟨h,g⟩
    simp [this]
   ·simp [h]
  simp only [e,Bool.false_and,cond_false]
  refine Hd (Gw (Hd (Gw (Hd (Gw (Gw ⟨fun h=>(by cases h),fun h=>?_⟩))))))
  obtain⟨m,c,g1,g2,_⟩:=h.col
  have:=(List.getElem?_eq_some_iff.1 g2).1
  exact(h0 (by omega)).elim
/-- What holds a slot. -/
def below (l:List Slot) (x:Slot) (half:Int):Prop:=(⟨x.G9,x.Tier - 1,half⟩:Slot)∈l
def HeldP (x:Slot) (l:List Slot):Prop:=x.Tier≤0∨below l x x.Half∨(x.Half=0∧below l x 1∧below l x 2)
theorem Hb1 (half:Int) (l:List Slot) (x:Slot) (ht : -1000000≤x.Tier∧x.Tier≤1000000):Wp (G12 half l x) (fun r=>r=true ↔ below l x half):=by
 unfold G12
 refine J1 ⟨by omega,by omega⟩ (H6 (containsSlot _ _) (Gw ?_))
 rw [List.any_eq_true]
 constructor
 ·rintro⟨y,hy,he⟩
  have:=of_decide_eq_true he
  subst this
  exact hy
 ·exact fun h=>⟨_,h,by simp⟩
theorem slot_held (x:Slot) (l:List Slot) (ht : -1000000≤x.Tier∧x.Tier≤1000000):Wp (Gb1 x l) (fun r=>r=true ↔ HeldP x l):=by
 unfold Gb1 HeldP
 refine Hq (fun h=>Gw ⟨fun _=>.inl (of_decide_eq_true h),fun _=>rfl⟩) (fun h=>?_)
 have h0:=of_decide_eq_false h
 refine Hd (wp_mono (Hb1 x.Half l x ht) (fun r7 h7=>?_))
 cases r7 with
 | true=>
  simp only [Bool.not_true,Bool.false_and,cond_false,Bool.true_or]
  exact Hd (Gw (Hd (Gw (Gw ⟨fun _=>.inr (.inl (h7.1 rfl)),fun _=>rfl⟩))))
 | false=>
  have h7':¬ below l x x.Half:=fun h=>by have:=h7.2 h; cases this
  simp only [Bool.not_false,Bool.true_and,Bool.false_or]
  by_cases hh:x.Half=0
  ·rw [decide_eq_true hh]
   simp only [cond_true,Bool.true_and]
   refine Hd (wp_mono (Hb1 1 l x ht) (fun r8 h8=>?_))
   cases r8 with
   | true=>
    simp only [cond_true,Bool.true_and]
    refine Hd (wp_mono (Hb1 2 l x ht) (fun r9 h9=>Gw ⟨fun h=>.inr (.inr ⟨hh,h8.1 rfl,h9.1 h⟩),fun h=>?_⟩))
    rcases h with h | h | ⟨_,_,h⟩
    ·exact(h0 h).elim
    ·exact(h7' h).elim
    ·exact h9.2 h
   | false=>
    simp only [cond_false,Bool.false_and]
    refine Hd (Gw (Gw ⟨fun h=>(by cases h),fun h=>?_⟩))
    rcases h with h | h | ⟨_,h,_⟩
    ·exact(h0 h).elim
    ·exact(h7' h).elim
    ·have:=h8.2 h; cases this
  ·rw [decide_eq_false hh]
   simp only [cond_false,Bool.false_and]
   refine Hd (Gw (Hd (Gw (Gw ⟨fun h=>(by cases h),fun h=>?_⟩))))
   rcases h with h | h | ⟨h,_⟩
   ·exact(h0 h).elim
   ·exact(h7' h).elim
   ·exact(hh h).elim
def Gfb (a b:Int):Prop:=a=b∨a=0∨b=0
theorem J21 (a b:Int):Wp (G38 a b) (fun r=>r=true ↔ Gfb a b):=by
 unfold G38 Gfb
 refine Gw ?_
 simp [or_assoc]
def Hde (a b:Slot):Prop:=a.G9=b.G9∧a.Tier=b.Tier∧Gfb a.Half b.Half
theorem slot_meet (a b:Slot):Wp (Gb0 a b) (fun r=>r=true ↔ Hde a b):=by
 unfold Gb0 Hde
 by_cases h:a.G9=b.G9∧a.Tier=b.Tier
 ·simp only [decide_eq_true h.1,decide_eq_true h.2,Bool.and_self,cond_true,Bool.true_and]
  exact Hd (wp_mono (J21 _ _) (fun r hr=>Gw ⟨fun e=>⟨h.1,h.2,hr.1 e⟩,fun e=>hr.2 e.2.2⟩))
 ·have e:(decide (a.G9=b.G9)&&decide (a.Tier=b.Tier))=false:=by
   by_cases h1:a.G9=b.G9
   ·have:¬ a.Tier=b.Tier:=fun h2=>h ⟨h1,h2⟩
    simp [this]
   ·simp [h1]
  simp only [e,cond_false,Bool.false_and]
  exact Hd (Gw (Gw ⟨fun e=>(by cases e),fun e=>(h ⟨e.1,e.2.1⟩).elim⟩))
def J92 (a b:Slot):Prop:=a.G9=b.G9∧b.Tier < a.Tier∧Gfb a.Half b.Half
theorem slot_over (a b:Slot):Wp (Gaf a b) (fun r=>r=true ↔ J92 a b):=by
 unfold Gaf J92
 by_cases h:a.G9=b.G9∧b.Tier < a.Tier
 ·simp only [decide_eq_true h.1,decide_eq_true h.2,Bool.and_self,cond_true,Bool.true_and]
  exact Hd (wp_mono (J21 _ _) (fun r hr=>Gw ⟨fun e=>⟨h.1,h.2,hr.1 e⟩,fun e=>hr.2 e.2.2⟩))
 ·have e:(decide (a.G9=b.G9)&&decide (b.Tier < a.Tier))=false:=by
   by_cases h1:a.G9=b.G9
   ·have:¬ b.Tier < a.Tier:=fun h2=>h ⟨h1,h2⟩
    simp [this]
   ·simp [h1]
  simp only [e,cond_false,Bool.false_and]
  exact Hd (Gw (Gw ⟨fun e=>(by cases e),fun e=>(h ⟨e.1,e.2.1⟩).elim⟩))
/-- The height of what stands in a half of a column. -/
def tallI (b:Gr):Int:=if b.High then 2896 else 2591
def J35 (boxes:List Gr) (column half:Int) (n:Int) (x:G7):Int:=
 if x.Slot.G9=column∧(x.Slot.Half=half∨x.Slot.Half=0) then (match H44 boxes x.Gr with | some b=>n+tallI b | none=>n) else n
def H8a (boxes:List Gr) (l:List G7) (column half:Int):Int:=l.foldl (J35 boxes column half) 0
theorem addH_le {boxes:List Gr} {column half n:Int} {x:G7}:n≤J35 boxes column half n x∧J35 boxes column half n x≤n+2896:=by
 unfold J35 tallI
 split
 ·split
  ·split <;> omega
  ·omega
 ·omega
theorem J1c (boxes:List Gr) (l:List G7) (column half:Int) (hl:l.length≤1000000):G37 boxes l column half=some (H8a boxes l column half):=by
 refine G4f ?_
 unfold G37 H8a
 refine J6 (fun pre n=>n=pre.foldl (J35 boxes column half) 0∧0≤n∧n≤2896*pre.length) ⟨rfl,Int.le_refl _,by simp⟩ (fun pre y post n nx e hn hnx=>?_) (fun n hn=>Gw hn.1)
 obtain⟨rfl,h1,h2⟩:=hn
 have hp:pre.length+1≤l.length:=by rw [e]; simp
 have ha:=addH_le (boxes:=boxes) (column:=column) (half:=half) (n:=pre.foldl (J35 boxes column half) 0) (x:=y)
 have hlen:((pre++[y]).length:Int)=pre.length+1:=by simp
 generalize hg:pre.foldl (J35 boxes column half) 0=n at *
 refine Y6 (fun j=>j=J35 boxes column half n y) (fun K hK=>?_) (fun j hj=>hnx _ ⟨by rw [hj,List.foldl_append,hg]; rfl,by omega,by rw [hlen]; omega⟩)
 refine Hq (fun hc=>?_) (fun hc=>hK _ ?_)
 ·have hc':y.Slot.G9=column∧(y.Slot.Half=half∨y.Slot.Half=0):=by simpa using hc
  refine H6 (stow_find boxes y.Gr) ?_
  cases hf:H44 boxes y.Gr with
  | none=>exact Hq (fun h=>by cases h) (fun _=>hK _ (by unfold J35; rw [if_pos hc',hf]))
  | some b=>
   refine Hq (fun _=>?_) (fun h=>by cases h)
   have ht:Gad b=some (tallI b):=by unfold Gad tallI; cases b.High <;> rfl
   have hadd:J35 boxes column half n y=n+tallI b:=by unfold J35; rw [if_pos hc',hf]
   refine H6 ht (J1 ?_ (hK _ hadd.symm))
   rw [← hadd]
   omega
 ·have hc':¬ (y.Slot.G9=column∧(y.Slot.Half=half∨y.Slot.Half=0)):=by simpa using hc
  unfold J35; rw [if_neg hc']
def FitsP (boxes:List Gr) (l:List G7) (m:Nat) (c:G9):Prop:=c.Height≤0∨(H8a boxes l m 1≤c.Height∧H8a boxes l m 2≤c.Height)
theorem stow_fits {s:Hc} {boxes:List Gr} {l:List G7} {m:Nat} {c:G9} (hc:s.Columns[m]? = some c) (hl:l.length≤1000000):Wp (Gae s boxes l (m:Int)) (fun r=>r=true ↔ FitsP boxes l m c):=by
 unfold Gae FitsP
 refine Jq rfl hc ?_
 by_cases h:c.Height≤0
 ·simp only [decide_eq_true h,Bool.not_true,cond_false,Bool.false_and,Bool.true_or]
  exact Hd (Gw (Hd (Gw (Gw ⟨fun _=>.inl h,fun _=>rfl⟩))))
 ·simp only [decide_eq_false h,Bool.not_false,cond_true,Bool.true_and,Bool.false_or]
  refine H6 (J1c boxes l m 1 hl) ?_
  by_cases h1:H8a boxes l m 1≤c.Height
  ·rw [decide_eq_true h1]
   simp only [cond_true,Bool.true_and]
   exact H6 (J1c boxes l m 2 hl) (Gw ⟨fun e=>.inr ⟨h1,of_decide_eq_true e⟩,fun e=>decide_eq_true (e.elim (fun e=>(h e).elim) (·.2))⟩)
  ·rw [decide_eq_false h1]
   simp only [cond_false,Bool.false_and]
   exact Hd (Gw (Gw ⟨fun e=>(by cases e),fun e=>e.elim (fun e=>(h e).elim) (fun e=>(h1 e.1).elim)⟩))
theorem stow_taken (l:List G7) (hl:l.length≤1000000):G85 l=some (l.map (·.Slot)):=by
 refine G4f ?_
 unfold G85
 refine J6 (fun pre s=>s=pre.map (·.Slot)) rfl (fun pre y post s nx e hs hnx=>?_) (fun s hs=>Gw hs)
 subst hs
 have hp:pre.length+1≤l.length:=by rw [e]; simp
 exact Q1 (Ro (by simp only [List.length_map,List.length_singleton]; omega) (by omega)) (hnx _ (by simp))
structure Gbd (s:Hc) (boxes:List Gr) (l:List G7):Prop where
 each:∀ x∈l,∃ b,H44 boxes x.Gr=some b∧Ge5 s x.Slot b.Size∧HeldP x.Slot (l.map (·.Slot))
 sorted:l.Pairwise (fun a b=>a.Gr < b.Gr)
 apart:l.Pairwise (fun a b=>¬ Hde b.Slot a.Slot)
 fits:∀ m c,s.Columns[m]? = some c→FitsP boxes l m c
theorem Ga3 {α:Type} {R:α→α→Prop} {l:List α} {x:α} (h:l.Pairwise R) (hx:∀ a∈l,R a x):(l++[x]).Pairwise R:=by
 rw [List.pairwise_append]
 refine⟨h,List.pairwise_singleton ..,fun a ha b hb=>?_⟩
 rw [List.mem_singleton] at hb; subst hb
 exact hx a ha
theorem Gc8 {α:Type} {R:α→α→Prop} {pre post:List α} {y:α} (h:(pre++y::post).Pairwise R):∀ a∈pre,R a y:=fun a ha=>(List.pairwise_append.1 h).2.2 a ha y (List.mem_cons_self ..)
theorem J6d {s:Hc} {boxes:List Gr} {l:List G7} (hr:Ya s=some true) (ht:∀ c∈s.Columns,c.Tiers≤1000000) (hl:l.length≤1000000):Wp (G07 s boxes l) (fun r=>r=true ↔ Gbd s boxes l):=by
 unfold G07
 refine H6 hr (Hq (fun h=>by cases h) (fun _=>?_))
 refine H6 (stow_taken l hl) ?_
 refine J6 (fun pre _=>(∀ x∈pre,∃ b,H44 boxes x.Gr=some b∧Ge5 s x.Slot b.Size∧HeldP x.Slot (l.map (·.Slot)))∧pre.Pairwise (fun a b=>a.Gr < b.Gr)∧pre.Pairwise (fun a b=>¬ Hde b.Slot a.Slot))
  ⟨fun x hx=>(List.not_mem_nil hx).elim,List.Pairwise.nil,List.Pairwise.nil⟩ (fun pre y post u nx e hI hnx=>?_) (fun u hI=>?_)
 ·obtain⟨i1,i2,i3⟩:=hI
  have hlen:pre.length < l.length:=by rw [e]; simp
  have hy:y∈l:=by rw [e]; simp
  have no:∀ {m:Option Bool},m=some false→¬ Gbd s boxes l→Wp m (fun r=>r=true ↔ Gbd s boxes l):=fun e h=>by subst e; exact Gw ⟨fun e=>(by cases e),fun e=>(h e).elim⟩
  refine H6 (stow_find boxes y.Gr) ?_
  cases hf:H44 boxes y.Gr with
  | none=>
   simp only [Bool.not_false,Bool.not_true,Bool.false_and,cond_false,Bool.true_or,cond_true]
   refine Hd (Gw (Hd (Gw (Hd (Gw (Hd (Gw (no rfl fun h=>?_))))))))
   obtain⟨b,hb,_⟩:=h.each y hy
   rw [hf] at hb; cases hb
  | some b=>
   simp only [Bool.not_true,Bool.not_false,Bool.true_and,Bool.false_or]
   -- the order
   have hprev:Wp (bif decide (0 < (pre.length:Int)) then Rn ((pre.length:Int) - 1) some else some 0) (fun v=>Wp (bif decide (0 < (pre.length:Int)) then Rm l v some else some default) (fun y20=>
     ((decide (0 < (pre.length:Int))&&decide (y.Gr≤y20.Gr))=true→¬ Gbd s boxes l)∧((decide (0 < (pre.length:Int))&&decide (y.Gr≤y20.Gr))=false→∀ a∈pre,a.Gr < y.Gr))):=by
    rcases List.eq_nil_or_concat pre with hp | ⟨pre',z,hp⟩
    ·subst hp
     simp only [List.length_nil]
     exact Gw (Gw ⟨fun h=>by simp at h,fun _ a ha=>(List.not_mem_nil ha).elim⟩)
    ·have hp':pre=pre'++[z]:=by simpa using hp
     have hpl:pre.length=pre'.length+1:=by rw [hp']; simp
     have hd:decide (0 < (pre.length:Int))=true:=decide_eq_true (by omega)
     have hz:l[pre'.length]? = some z:=by rw [e,hp']; simp
     rw [hd]
     simp only [cond_true,Bool.true_and]
     refine J1 ⟨by omega,by omega⟩ (Gw (Jq (m:=pre'.length) (by omega) hz (Gw ⟨fun h hR=>?_,fun h a ha=>?_⟩)))
     ·have:=of_decide_eq_true h
      have hs:=hR.sorted
      rw [e] at hs
      have:=Gc8 hs z (by rw [hp']; simp)
      omega
     ·have hzy:¬ y.Gr≤z.Gr:=of_decide_eq_false h
      rw [hp'] at ha
      rcases List.mem_append.1 ha with ha | ha
      ·have:=Gc8 (hp' ▸ i2:(pre'++z::[]).Pairwise _) a ha
       omega
      ·rw [List.mem_singleton] at ha; subst ha; omega
   refine Hd (wp_mono hprev (fun v hv=>Hd (wp_mono hv (fun y20 h20=>?_))))
   obtain⟨n1,n2⟩:=h20
   generalize (decide (0 < (pre.length:Int))&&decide (y.Gr≤y20.Gr))=c at n1 n2
   cases c with
   | true=>
    simp only [Bool.not_true,cond_false,Bool.true_or,cond_true]
    exact Hd (Gw (Hd (Gw (no rfl (n1 rfl)))))
   | false=>
    simp only [Bool.not_false,cond_true,Bool.false_or]
    have hsort:=n2 rfl
    refine Hd (wp_mono (slot_right s y.Slot b.Size) (fun r21 h21=>?_))
    cases r21 with
    | false=>
     simp only [Bool.not_false,Bool.not_true,cond_false,Bool.true_or,cond_true]
     refine Hd (Gw (no rfl fun h=>?_))
     obtain⟨b',hb,hs,_⟩:=h.each y hy
     rw [hf] at hb; cases hb
     have:=h21.2 hs; cases this
    | true=>
     have hslot:=h21.1 rfl
     simp only [Bool.not_true,Bool.not_false,cond_true,Bool.false_or]
     have htier : -1000000≤y.Slot.Tier∧y.Slot.Tier≤1000000:=by
      obtain⟨m,c,_,hc,h3⟩:=hslot.col
      have:=hslot.tier
      have:=ht c (List.mem_of_getElem? hc)
      omega
     refine Hd (wp_mono (slot_held y.Slot (l.map (·.Slot)) htier) (fun r22 h22=>?_))
     cases r22 with
     | false=>
      refine Hq (fun _=>no rfl fun h=>?_) (fun h=>by cases h)
      obtain⟨b',hb,_,hh⟩:=h.each y hy
      have:=h22.2 hh; cases this
     | true=>
      have hheld:=h22.1 rfl
      refine Hq (fun h=>by cases h) (fun _=>?_)
      refine Hd (G3a (m:=pre.length) rfl (by rw [List.length_map]; omega) ?_)
      have htk:(l.map (·.Slot)).take pre.length=pre.map (·.Slot):=by rw [← List.map_take,e,List.take_left']; rfl
      rw [htk]
      refine J6 (fun pr _=>∀ a∈pr,¬ Hde y.Slot a) (fun a ha=>(List.not_mem_nil ha).elim) (fun pr a pos u nx2 e2 hI2 hnx2=>?_) (fun u hI2=>hnx _ ⟨fun x hx=>?_,Ga3 i2 hsort,Ga3 i3 (fun a ha=>hI2 a.Slot (List.mem_map.2 ⟨a,ha,rfl⟩))⟩)
      ·refine Hd (wp_mono (slot_meet y.Slot a) (fun r48 h48=>?_))
       refine Hq (fun h=>no rfl fun hR=>?_) (fun h=>hnx2 _ (fun a' ha'=>?_))
       ·have hm:=h48.1 h
        have hin:a∈pre.map (·.Slot):=by rw [e2]; simp
        obtain⟨z,hz,rfl⟩:=List.mem_map.1 hin
        have ha:=hR.apart
        rw [e] at ha
        exact Gc8 ha z hz hm
       ·rcases List.mem_append.1 ha' with ha' | ha'
        ·exact hI2 a' ha'
        ·rw [List.mem_singleton] at ha'; subst ha'
         intro hm
         have:=h48.2 hm
         rw [this] at h; cases h
      ·rcases List.mem_append.1 hx with hx | hx
       ·exact i1 x hx
       ·rw [List.mem_singleton] at hx; subst hx
        exact⟨b,hf,hslot,hheld⟩
 ·obtain⟨i1,i2,i3⟩:=hI
  refine J6 (fun pre _=>∀ m c,m < pre.length→s.Columns[m]? = some c→FitsP boxes l m c) (fun m c h=>(Nat.not_lt_zero m h).elim) (fun pre y post u nx e hI hnx=>?_) (fun u hI=>Gw ⟨fun _=>⟨i1,i2,i3,fun m c hc=>hI m c (List.getElem?_eq_some_iff.1 hc).1 hc⟩,fun _=>rfl⟩)
  have hc:s.Columns[pre.length]? = some y:=by rw [e]; simp
  refine Hd (wp_mono (stow_fits hc hl) (fun r hr=>?_))
  cases r with
  | false=>exact Hq (fun _=>Gw ⟨fun e=>(by cases e),fun h=>by have:=hr.2 (h.fits _ _ hc); cases this⟩) (fun h=>by cases h)
  | true=>
   refine Hq (fun h=>by cases h) (fun _=>hnx _ (fun m c hm hmc=>?_))
   rw [List.length_append,List.length_singleton] at hm
   rcases Nat.lt_or_ge m pre.length with h | h
   ·exact hI m c h hmc
   ·have:m=pre.length:=by omega
    subst this
    rw [hc] at hmc; cases hmc
    exact hr.1 rfl
theorem wp_loop {β σ:Type} {Q:β→Prop} (I:σ→Prop) (μ:σ→Nat) {b:(σ→Option β)→σ→Option β} {F:Nat} {s:σ} (h0:I s) (hF:μ s < F)
  (hb:∀ s nx,I s→(∀ s',I s'→μ s' < μ s→Wp (nx s') Q)→Wp (b nx s) Q):Wp (loop b F s) Q:=by
 induction F generalizing s with
 | zero=>omega
 | succ F ih=>
  rw [loop]
  exact hb s _ h0 (fun s' h1 h2=>ih h1 (by omega))
section maps
variable {κ ν:Type} [DecidableEq κ]
theorem H6c (a:κ) (z:ν):Gu.get (Gu.empty:Gu κ ν) a z=z:=rfl
theorem J8b (a:κ):Gu.has (Gu.empty:Gu κ ν) a=false:=rfl
theorem Hdd (m:Gu κ ν) (a b:κ) (v z:ν):Gu.get (Gu.put m a v) b z=if a=b then v else Gu.get m b z:=by
 unfold Gu.get Gu.put
 simp only [H20]
 split <;> rfl
theorem amap_has_put (m:Gu κ ν) (a b:κ) (v:ν):Gu.has (Gu.put m a v) b=(decide (a=b)||Gu.has m b):=by
 unfold Gu.has Gu.put
 have h:=Gff (l:=G4c m.l a v) (a:=b)
 have h2:=Gff (l:=m.l) (a:=b)
 rw [← h,H20]
 by_cases e:a=b
 ·simp [e]
 ·simp [e,h2]
end maps
theorem J2b {α:Type} {l:List α} {wanted:α→Option Bool} {p:α→Bool} (hw:∀ x∈l,wanted x=some (p x)) (hl:l.length≤1000000) :
  each (fun y i (s:List Int) nx=>jp (fun kj=>bnd (wanted y) fun r=>bif r then (need (decide ((s.length+[(i:Int)].length)*8≤140737488355328∧s.length+[(i:Int)].length≤maxLen)) <| kj (s++[(i:Int)])) else (kj s)) fun(j:List Int)=>nx j)
   (fun s=>some s) l 0 []=some (G97 p l):=by
 refine G4f ?_
 refine J6 (fun pre s=>s=G97 p pre) rfl (fun pre x post s nx e hs hnx=>?_) (fun s hs=>Gw hs)
 subst hs
 have hpl:pre.length+1≤l.length:=by rw [e]; simp
 refine Y6 (fun j=>j=G97 p (pre++[x])) (fun K hK=>?_) (fun j hj=>hnx _ hj)
 refine H6 (hw x (by rw [e]; simp)) (Hq (fun h=>Q1 ?_ (hK _ ?_)) (fun h=>hK _ ?_))
 ·have:=J28 p pre
  exact Ro (by rw [List.length_singleton]; omega) (by omega)
 ·rw [H89,h]; rfl
 ·rw [H89,h]; simp
theorem idxs_cons {α:Type} (p:α→Bool) (x:α) (l:List α):G97 p (x::l)=(if p x then [0] else [])++(G97 p l).map (·+1):=by
 unfold G97
 rw [List.zipIdx_cons',List.filter_cons]
 have h:(((l.zipIdx.map (Prod.map id (fun n:Nat=>n+1))).filter (fun y:α×Nat=>p y.1)).map (fun y:α×Nat=>(y.2:Int)))=((l.zipIdx.filter (fun y:α×Nat=>p y.1)).map (fun y:α×Nat=>(y.2:Int))).map (·+1):=by
  rw [List.filter_map,List.map_map,List.map_map]
  rfl
 by_cases hx:p x=true
 ·rw [if_pos (show p (x,0).fst=true from hx),if_pos hx,List.map_cons]
  exact congrArg (List.cons _) h
 ·rw [if_neg (show ¬ p (x,0).fst=true from hx),if_neg hx,List.nil_append]
  exact h
theorem idxs_head {α:Type} (p:α→Bool) (l:List α):(G97 p l).head? = match l.findIdx? p with
  | some j=>some (j:Int)
  | none=>none:=by
 induction l with
 | nil=>rfl
 | cons x l ih=>
  rw [idxs_cons,List.findIdx?_cons]
  by_cases hx:p x
  ·simp [hx]
  ·simp only [hx,if_false,Bool.false_eq_true,List.nil_append,List.head?_map,ih]
   cases l.findIdx? p <;> simp
theorem idxs_pos {α:Type} (p:α→Bool) (l:List α):decide (0 < ((G97 p l).length:Int))=l.any p:=by
 by_cases h:∀ x∈l,p x=false
 ·rw [Hd6.2 h]
  refine Eq.symm (List.any_eq_false.2 fun x hx=>?_)
  rw [h x hx]; exact Bool.false_ne_true
 ·have h1:G97 p l≠[]:=fun e=>h (Hd6.1 e)
  have h2:=List.length_pos_iff.2 h1
  rw [decide_eq_true (by omega)]
  refine Eq.symm (List.any_eq_true.2 ?_)
  refine Classical.byContradiction fun hn=>h fun x hx=>?_
  cases hc:p x with
  | false=>rfl
  | true=>exact(hn ⟨x,hx,hc⟩).elim
/-- A cover lies over a place. -/
def covB (x:Ge) (c:G9):Bool:=decide (x.Bay=c.Bay)&&x.Rows.any (fun r=>decide (r=c.Row))
theorem ship_covers (x:Ge) (c:G9) (hl:x.Rows.length≤1000000):G58 x c=some (covB x c):=by
 unfold G58 covB
 by_cases h:x.Bay=c.Bay
 ·have hc:G08 x.Rows (fun z0=>G2e z0 c)=some (G97 (fun r=>decide (r=c.Row)) x.Rows):=by
   unfold G08
   exact J2b (fun x _=>rfl) hl
  rw [decide_eq_true h]
  simp only [cond_true,Bool.true_and]
  rw [hc,G3c,idxs_pos]
 ·rw [decide_eq_false h]
  rfl
def H03 (s:Hc) (c:G9):Int:=H40 (fun x=>covB x c) s.Covers
theorem H39 {s:Hc} {m:Nat} {c:G9} (hc:s.Columns[m]? = some c) (hr:∀ x∈s.Covers,x.Rows.length≤1000000) (hl:s.Covers.length≤1000000):Zp s (m:Int)=some (H03 s c):=by
 have hm:=(List.getElem?_eq_some_iff.1 hc).1
 refine G4f ?_
 unfold Zp
 refine Hq (fun h=>?_) (fun _=>?_)
 ·simp only [Bool.or_eq_true,decide_eq_true_eq] at h
  omega
 have hch:Yf s.Covers (fun z0=>Zk z0 s (m:Int))=some (G97 (fun x=>covB x c) s.Covers):=by
  unfold Yf
  refine J2b (fun x hx=>G4f ?_) hl
  unfold Zk
  exact Jq rfl hc (H6 (ship_covers x c (hr x hx)) (Gw rfl))
 refine H6 hch ?_
 have hh:=idxs_head (fun x=>covB x c) s.Covers
 unfold H03 H40
 cases hf:s.Covers.findIdx? (fun x=>covB x c) with
 | none=>
  rw [hf] at hh
  have h0:G97 (fun x=>covB x c) s.Covers=[]:=List.head?_eq_none_iff.1 hh
  rw [h0]
  exact Gw rfl
 | some j=>
  rw [hf] at hh
  cases hi:G97 (fun x=>covB x c) s.Covers with
  | nil=>rw [hi] at hh; cases hh
  | cons z r=>
   rw [hi] at hh
   simp only [List.head?_cons,Option.some.injEq] at hh
   subst hh
   refine Hq (fun h=>?_) (fun _=>Jq (m:=0) rfl rfl (Gw rfl))
   have:=of_decide_eq_true h
   simp only [List.length_cons] at this
   omega
def Ha1 (l:List G7) (x:G7):List G7:=l.filter (fun y=>decide (y.Gr < x.Gr))++[x]++l.filter (fun y=>decide (x.Gr < y.Gr))
theorem G22 {α:Type} (p:α→Bool) (l:List α) (x:α):(l++[x]).filter p=l.filter p++(if p x then [x] else []):=by
 rw [List.filter_append]
 by_cases h:p x <;> simp [h]
theorem J7d (l:List G7) (x:G7) (hl:l.length≤100000):Rh l x=some (Ha1 l x):=by
 refine G4f ?_
 unfold Rh Ha1
 refine J6 (fun pre s=>s=pre.filter (fun y=>decide (y.Gr < x.Gr))) rfl (fun pre y post s nx e hs hnx=>?_) (fun s hs=>?_)
 ·subst hs
  have hp:pre.length+1≤l.length:=by rw [e]; simp
  have hf:=List.length_filter_le (fun y:G7=>decide (y.Gr < x.Gr)) pre
  refine Y6 (fun j=>j=(pre++[y]).filter (fun y=>decide (y.Gr < x.Gr))) (fun K hK=>Hq (fun h=>Q1 (Ro (by rw [List.length_singleton]; omega) (by omega)) (hK _ ?_)) (fun h=>hK _ ?_)) (fun j hj=>hnx _ hj)
  ·rw [G22,h]; rfl
  ·rw [G22,h]; simp
 ·subst hs
  have hf:=List.length_filter_le (fun y:G7=>decide (y.Gr < x.Gr)) l
  refine Q1 (Ro (by rw [List.length_singleton]; omega) (by omega)) ?_
  refine J6 (fun pre s=>s=l.filter (fun y=>decide (y.Gr < x.Gr))++[x]++pre.filter (fun y=>decide (x.Gr < y.Gr))) (by simp) (fun pre y post s nx e hs hnx=>?_) (fun s hs=>Gw hs)
  subst hs
  have hp:pre.length+1≤l.length:=by rw [e]; simp
  have hg:=List.length_filter_le (fun y:G7=>decide (x.Gr < y.Gr)) pre
  refine Y6 (fun j=>j=l.filter (fun y=>decide (y.Gr < x.Gr))++[x]++(pre++[y]).filter (fun y=>decide (x.Gr < y.Gr))) (fun K hK=>Hq (fun h=>Q1 (Ro (by simp only [List.length_append,List.length_singleton]; omega) (by omega)) (hK _ ?_)) (fun h=>hK _ ?_)) (fun j hj=>hnx _ hj)
  ·rw [G22,h]; simp
  ·rw [G22,h]; simp
theorem H88 {l:List G7} {x y:G7}:y∈Ha1 l x ↔ y=x∨(y∈l∧y.Gr≠x.Gr):=by
 unfold Ha1
 simp only [List.mem_append,List.mem_filter,List.mem_singleton,decide_eq_true_eq]
 constructor
 ·rintro((⟨h1,h2⟩ | h) | ⟨h1,h2⟩)
  ·exact .inr ⟨h1,by omega⟩
  ·exact .inl h
  ·exact .inr ⟨h1,by omega⟩
 ·rintro(h | ⟨h1,h2⟩)
  ·exact .inl (.inr h)
  ·rcases Int.lt_or_gt_of_ne h2 with h | h
   ·exact .inl (.inl ⟨h1,h⟩)
   ·exact .inr ⟨h1,h⟩
theorem insSt_length (l:List G7) (x:G7):(Ha1 l x).length≤2*l.length+1:=by
 unfold Ha1
 have h1:=List.length_filter_le (fun y:G7=>decide (y.Gr < x.Gr)) l
 have h2:=List.length_filter_le (fun y:G7=>decide (x.Gr < y.Gr)) l
 simp only [List.length_append,List.length_singleton]
 omega
def holdsB (l:List G7) (id:Int):Bool:=l.any (fun x=>decide (x.Gr=id))
theorem holdsB_iff {l:List G7} {id:Int}:holdsB l id=true ↔ id∈l.map (·.Gr):=by
 unfold holdsB
 rw [List.any_eq_true,List.mem_map]
 constructor
 ·rintro⟨x,h1,h2⟩; exact⟨x,h1,of_decide_eq_true h2⟩
 ·rintro⟨x,h1,h2⟩; exact⟨x,h1,decide_eq_true h2⟩
theorem law23_holds (l:List G7) (id:Int):M_twistlocklaw23_holds l id=some (holdsB l id):=by
 refine G4f ?_
 unfold M_twistlocklaw23_holds
 refine J6 (fun pre _=>∀ x∈pre,decide (x.Gr=id)=false) (fun x hx=>(List.not_mem_nil hx).elim) (fun pre y post s nx e hI hnx=>Hq (fun h=>Gw ?_) (fun h=>hnx _ (fun x hx=>?_))) (fun s hI=>Gw ?_)
 ·exact(List.any_eq_true.2 ⟨y,by rw [e]; simp,h⟩).symm
 ·rcases List.mem_append.1 hx with hx | hx
  ·exact hI x hx
  ·rw [List.mem_singleton] at hx; subst hx; exact h
 ·refine(List.any_eq_false.2 fun x hx=>?_).symm
  rw [hI x hx]; exact Bool.false_ne_true
/-- Boxes that are on board behind a call. -/
def Gc9 (k:Int) (b:Gr):Bool:=decide (b.Load≤k)&&decide (k < b.Discharge)
def Ga5 (boxes:List Gr) (k:Int):List Int:=(boxes.filter (Gc9 k)).map (·.ID)
theorem plan_aboard (boxes:List Gr) (k:Int) (hl:boxes.length≤100000):G5a boxes k=some (Ga5 boxes k):=by
 refine G4f ?_
 unfold G5a Ga5
 refine J6 (fun pre s=>s=(pre.filter (Gc9 k)).map (·.ID)) rfl (fun pre y post s nx e hs hnx=>?_) (fun s hs=>Gw hs)
 subst hs
 have hp:pre.length+1≤boxes.length:=by rw [e]; simp
 have hf:=List.length_filter_le (Gc9 k) pre
 refine Y6 (fun j=>j=((pre++[y]).filter (Gc9 k)).map (·.ID)) (fun K hK=>Hq (fun h=>Q1 (Ro (by simp only [List.length_map,List.length_singleton]; omega) (by omega)) (hK _ ?_)) (fun h=>hK _ ?_)) (fun j hj=>hnx _ hj)
 ·have h':Gc9 k y=true:=h
  rw [G22,h']; simp
 ·have h':Gc9 k y=false:=h
  rw [G22,h']; simp
theorem equal_ids {l:List G7} {ids:List Int} (h:l.map (·.Gr)=ids):Ye l ids (fun z0 z1=>Zr z0 z1)=some true:=by
 refine G4f ?_
 subst h
 unfold Ye
 refine Hq (fun h=>?_) (fun _=>?_)
 ·have:=of_decide_eq_true h
  rw [List.length_map] at this
  exact(this rfl).elim
 refine J6 (fun _ _=>True) trivial (fun pre y post s nx e _ hnx=>?_) (fun s _=>Gw rfl)
 refine Jq (m:=pre.length) (x:=y.Gr) rfl (by rw [e]; simp) ?_
 have:Zr y y.Gr=some true:=by unfold Zr; simp
 exact H6 this (Hq (fun h=>by cases h) (fun _=>hnx _ trivial))
/-- The slot of a box in a state, and whether it is there. -/
def Qm (l:List G7) (id:Int):Slot×Bool:=match findSt l id with
 | some x=>(x.Slot,true)
 | none=>(⟨0,0,0⟩,false)
theorem G70 (l:List G7) (id:Int):G09 l id=some (Qm l id):=by
 unfold G09
 have h:Rr l (fun z0=>G59 z0 id)=some (H40 (fun x:G7=>decide (x.Gr=id)) l):=G82 (fun x _=>rfl)
 rw [h]
 simp only [G3c]
 unfold Qm findSt
 rcases G98 (fun x:G7=>decide (x.Gr=id)) l with ⟨h1,_,h3⟩ | ⟨m,x,h1,h2,_,h4⟩
 ·rw [h1,h3]; rfl
 ·rw [h1,h4,decide_eq_false (by omega),cond_false]
  unfold Rm
  rw [decide_eq_true (by omega),cond_true,show (m:Int).toNat=m by omega,h2]
  rfl
theorem G28 {l:List G7} {id:Int}:(Qm l id).2=true ↔ id∈l.map (·.Gr):=by
 unfold Qm
 cases h:findSt l id with
 | none=>
  refine⟨fun e=>(by cases e),fun e=>?_⟩
  obtain⟨x,hx,he⟩:=List.mem_map.1 e
  have:=List.find?_eq_none.1 h x hx
  simp [he] at this
 | some x=>
  refine⟨fun _=>?_,fun _=>rfl⟩
  have h1:=List.mem_of_find?_eq_some h
  have h2:=of_decide_eq_true (List.find?_some (p:=fun x:G7=>decide (x.Gr=id)) h)
  exact List.mem_map.2 ⟨x,h1,h2⟩
theorem G9a {l:List G7} {id:Int} (h:(Qm l id).2=true):∃ x∈l,x.Gr=id∧(Qm l id).1=x.Slot:=by
 unfold Qm at h ⊢
 cases hf:findSt l id with
 | none=>rw [hf] at h; cases h
 | some x=>exact⟨x,List.mem_of_find?_eq_some hf,of_decide_eq_true (List.find?_some (p:=fun x:G7=>decide (x.Gr=id)) hf),rfl⟩
/-- Ships whose covers and columns are few. -/
structure Small (s:Hc):Prop where
 right:Ya s=some true
 cols:1≤s.Columns.length∧s.Columns.length≤40
 tiers:∀ c∈s.Columns,c.Tiers≤100
 covs:s.Covers.length≤1000
 rows:∀ x∈s.Covers,x.Rows.length≤1000
theorem built_small {s:Hc} (h:J46 s):Small s:=
 ⟨built_right h,⟨h.some,by have:=h.cols.len; omega⟩,fun c hc=>by have:=(h.cols.each c hc).tiers; omega,by have:=h.covs.len; omega,fun x hx=>by
  rcases (h.covs.each x hx).rows with e | e <;> rw [e] <;> simp⟩
def ColIn (s:Hc) (x:Slot):Prop:=∃ (m:Nat) (c:G9),x.G9=(m:Int)∧s.Columns[m]? = some c
structure G6c (U:List Int) (m:Gu Int Unit) (l:List Int):Prop where
 nodup:l.Nodup
 sub:∀ a∈l,a∈U
 has:∀ a,Gu.has m a=decide (a∈l)
theorem G6c.le {U:List Int} {m:Gu Int Unit} {l:List Int} (h:G6c U m l):l.length≤U.length:=h.nodup.length_le_of_subset (fun a ha=>h.sub a ha)
theorem G6c.start {U:List Int}:G6c U (Gu.empty:Gu Int Unit) []:=⟨List.nodup_nil,fun a ha=>(List.not_mem_nil ha).elim,fun a=>by simp [J8b]⟩
theorem G6c.snoc {U:List Int} {m:Gu Int Unit} {l:List Int} (h:G6c U m l) {id:Int} (h1:id ∉ l) (h2:id∈U):G6c U (Gu.put m id ()) (l++[id]):=by
 refine⟨?_,fun a ha=>?_,fun a=>?_⟩
 ·rw [List.nodup_append]
  refine⟨h.nodup,by simp,fun a ha b hb=>?_⟩
  rw [List.mem_singleton] at hb; subst hb
  intro e; subst e; exact h1 ha
 ·rcases List.mem_append.1 ha with ha | ha
  ·exact h.sub a ha
  ·rw [List.mem_singleton] at ha; subst ha; exact h2
 ·rw [amap_has_put,h.has,Bool.eq_iff_iff]
  simp only [Bool.or_eq_true,decide_eq_true_eq,List.mem_append,List.mem_singleton]
  exact⟨fun h=>h.elim (fun e=>.inr e.symm) .inl,fun h=>h.elim .inr (fun e=>.inl e.symm)⟩
theorem set_add (m:Gu Int Unit) (k:Int):Zq m k=some (if Gu.has m k then (false,m) else (true,Gu.put m k ())):=by
 unfold Zq
 cases Gu.has m k <;> rfl
structure H6f (s:Hc) (U:List Int) (states:List (List G7)):Prop where
 small:Small s
 each:∀ st∈states,∀ x∈st,x.Gr∈U∧ColIn s x.Slot
 len:U.length≤1000
theorem deleteFunc {F:Nat} {l:List Int} {del:Int→Option Bool} {p:Int→Bool} (hd:∀ x∈l,del x=some (p x)) (hF:l.length+2≤F) (hl:l.length≤100000):R3 F l del=some (l.filter (fun x=>!p x)):=by
 refine G4f ?_
 unfold R3
 have hi:Zb l del=some (H40 p l):=G82 hd
 refine H6 hi ?_
 rcases G98 p l with ⟨h1,h2,_⟩ | ⟨m,x,h1,h2,h3,h4⟩
 ·rw [h1]
  refine Hq (fun _=>Gw ?_) (fun h=>by simp at h)
  exact(List.filter_eq_self.2 (fun a ha=>by rw [h2 a ha]; rfl)).symm
 ·have hm:=(List.getElem?_eq_some_iff.1 h2).1
  rw [h1]
  refine Hq (fun h=>?_) (fun _=>?_)
  ·have:=of_decide_eq_true h; omega
  refine J1 ⟨by omega,by omega⟩ ?_
  have hfirst:∀ k,k < m→∀ y,l[k]? = some y→p y=false:=by
   intro k hk y hy
   obtain⟨_,j,hj,hjx,hbef⟩:=List.find?_eq_some_iff_getElem.1 h4
   have hidx:l.findIdx? p=some m:=by
    have h5:=h1
    unfold H40 at h5
    cases hf:l.findIdx? p with
    | none=>rw [hf] at h5; simp only at h5; omega
    | some j2=>rw [hf] at h5; simp only at h5; rw [show j2=m by omega]
   obtain⟨_,_,hb⟩:=List.findIdx?_eq_some_iff_getElem.1 hidx
   have:=hb k hk
   have hkl:=(List.getElem?_eq_some_iff.1 hy)
   obtain⟨hk2,e⟩:=hkl
   rw [e] at this
   simpa using this
  refine wp_loop (fun st=>∃ i j:Nat,st.1=(i:Int)∧st.2.1=(j:Int)∧i < j∧j≤l.length∧st.2.2.length=l.length∧st.2.2.take i=(l.take j).filter (fun x=>!p x)∧st.2.2.drop j=l.drop j) (fun st=>l.length+1 - st.2.1.toNat)
   ⟨m,m+1,rfl,rfl,by omega,by omega,rfl,?_,rfl⟩ (by show l.length+1 - ((m:Int)+1).toNat < F; omega) (fun st nx hI hnx=>?_)
  ·rw [List.take_add_one,h2,List.filter_append]
   simp only [Option.toList_some,List.filter_cons,h3,Bool.not_true,Bool.false_eq_true,if_false,List.filter_nil,List.append_nil]
   refine(List.filter_eq_self.2 (fun a ha=>?_)).symm
   obtain⟨k,hk⟩:=List.mem_iff_getElem?.1 ha
   have hkm:k < m:=by
    have:=(List.getElem?_eq_some_iff.1 hk).1
    rw [List.length_take] at this; omega
   rw [List.getElem?_take_of_lt hkm] at hk
   rw [hfirst k hkm a hk]; rfl
  ·obtain⟨a1,a2,cur⟩:=st
   obtain⟨i,j,e1,e2,hij,hjl,hcl,ht,hdr⟩:=hI
   simp only at e1 e2 hcl ht hdr ⊢
   subst e1 e2
   refine Hq (fun h=>?_) (fun h=>?_)
   ·have hj:j < l.length:=by have:=of_decide_eq_true h; omega
    have hcj:cur[j]? = some l[j]:=by
     have:(cur.drop j)[0]? = (l.drop j)[0]? := by rw [hdr]
     rw [List.getElem?_drop,List.getElem?_drop] at this
     simpa [hj] using this
    have hlj:l[j]? = some l[j]:=by simp [hj]
    refine Y6 (fun st=>∃ i':Nat,st.1=(i':Int)∧i' < j+1∧st.2.length=l.length∧st.2.take i'=(l.take (j+1)).filter (fun x=>!p x)∧st.2.drop (j+1)=l.drop (j+1)) (fun K hK=>?_) (fun st hst=>?_)
    ·refine Jq rfl hcj (H6 (hd l[j] (List.getElem_mem hj)) (Hq (fun hp=>?_) (fun hp=>hK _ ?_)))
     ·have hci:cur[i]? = some (cur[i]'(by omega)):=List.getElem?_eq_getElem (by omega)
      refine Jq rfl hci (J1 ⟨by omega,by omega⟩ (hK _ ⟨i+1,rfl,by omega,by simpa using hcl,?_,?_⟩))
      ·simp only [Int.toNat_natCast]
       rw [List.take_add_one,List.take_set_of_le (Nat.le_refl _),ht,List.take_add_one,hlj,List.filter_append]
       have:(cur.set i l[j])[i]? = some l[j]:=by rw [List.getElem?_set_self (by omega)]
       rw [this]
       simp [hp]
      ·simp only [Int.toNat_natCast]
       rw [List.drop_set_of_lt (by omega)]
       have:=congrArg (List.drop 1) hdr
       rw [List.drop_drop,List.drop_drop] at this
       exact this
     ·refine⟨i,rfl,by omega,hcl,?_,?_⟩
      ·rw [ht,List.take_add_one,hlj,List.filter_append]
       simp [hp]
      ·have:=congrArg (List.drop 1) hdr
       rw [List.drop_drop,List.drop_drop] at this
       exact this
    ·obtain⟨i',g1,g2,g3,g4,g5⟩:=hst
     refine J1 ⟨by omega,by omega⟩ (hnx _ ⟨i',j+1,g1,by simp,g2,by omega,g3,g4,g5⟩ ?_)
     simp only
     omega
   ·have hj:j=l.length:=by have:=of_decide_eq_false h; omega
    subst hj
    have hbl:(blank cur i (cur.length - i) (0:Int)).length=cur.length:=by
     unfold blank
     simp only [List.length_append,List.length_take,List.length_replicate,List.length_drop]
     omega
    refine Hd (G3a rfl (by omega) (Hd (G3a rfl (by rw [hbl]; omega) (Gw ?_))))
    unfold blank
    rw [List.append_assoc,List.take_left' (by rw [List.length_take]; omega),ht,List.take_length]
structure BoxOk (calls:Int) (b:Gr):Prop where
 id:5≤b.ID∧b.ID≤999999
 size:b.Size=40∨(b.Size=20∧b.High=false)
 load:0≤b.Load
 stay:b.Load < b.Discharge
 out:b.Discharge < calls
structure Yg (calls:Int) (boxes:List Gr):Prop where
 num:1≤calls∧calls≤20
 len:boxes.length≤8
 each:∀ b∈boxes,BoxOk calls b
 sorted:boxes.Pairwise (fun a b=>a.ID < b.ID)
theorem G7c {l:List Int} (h:l.Pairwise (· < ·)):l.Nodup:=h.imp (fun h=>by omega)
theorem Yg.ids {calls:Int} {boxes:List Gr} (h:Yg calls boxes):(boxes.map (·.ID)).Pairwise (· < ·):=List.pairwise_map.2 h.sorted
theorem Yg.inj {calls:Int} {boxes:List Gr} (h:Yg calls boxes) {a b:Gr} (ha:a∈boxes) (hb:b∈boxes) (e:a.ID=b.ID):a=b:=by
 obtain⟨i,hi⟩:=List.mem_iff_getElem?.1 ha
 obtain⟨j,hj⟩:=List.mem_iff_getElem?.1 hb
 obtain⟨hi1,hi2⟩:=List.getElem?_eq_some_iff.1 hi
 obtain⟨hj1,hj2⟩:=List.getElem?_eq_some_iff.1 hj
 have hp:=List.pairwise_iff_getElem.1 h.sorted
 rcases Nat.lt_trichotomy i j with hl | hl | hl
 ·have:=hp i j hi1 hj1 hl
  rw [hi2,hj2] at this; omega
 ·subst hl; rw [← hi2,← hj2]
 ·have:=hp j i hj1 hi1 hl
  rw [hi2,hj2] at this; omega
theorem J75 {calls:Int} {boxes:List Gr} (h:Yg calls boxes):G45 boxes calls=some true:=by
 refine G4f ?_
 unfold G45
 have hc:=h.num
 have hl:=h.len
 refine Hq (fun hb=>?_) (fun _=>?_)
 ·simp only [Bool.or_eq_true,decide_eq_true_eq] at hb
  omega
 refine J6 (fun pre last=>0≤last∧(pre=[]∧last=0∨∃ a∈pre,a.ID=last)) ⟨Int.le_refl _,.inl ⟨rfl,rfl⟩⟩ (fun pre y post last nx e hI hnx=>?_) (fun s _=>Gw rfl)
 have hy:=h.each y (by rw [e]; simp)
 obtain⟨⟨i1,i2⟩,hs,h3,h4,h5⟩:=hy
 have hlast:last < y.ID:=by
  rcases hI.2 with ⟨_,h⟩ | ⟨a,ha,h⟩
  ·omega
  ·have:=h.symm
   have hp:=Yg.sorted ‹Yg calls boxes›
   rw [e] at hp
   have:=Gc8 hp a ha
   omega
 refine Hq (fun hb=>?_) (fun _=>hnx _ ⟨by omega,.inr ⟨y,by simp,rfl⟩⟩)
 have e1:decide (y.ID≤last)=false:=decide_eq_false (by omega)
 have e2:decide (999999 < y.ID)=false:=decide_eq_false (by omega)
 have e3:decide (y.Load < 0)=false:=decide_eq_false (by omega)
 have e4:decide (y.Discharge≤y.Load)=false:=decide_eq_false (by omega)
 have e5:decide (calls≤y.Discharge)=false:=decide_eq_false (by omega)
 rw [e1,e2,e3,e4,e5] at hb
 rcases hs with hs | ⟨hs,hh⟩
 ·simp [hs] at hb
 ·simp [hs,hh] at hb
/-- A state of a plan that is right. -/
structure H07 (s:Hc) (boxes:List Gr) (k:Int) (l:List G7):Prop where
 right:Gbd s boxes l
 ids:l.map (·.Gr)=Ga5 boxes k
structure J91 (s:Hc) (boxes:List Gr) (calls:Int) (p:G6a):Prop where
 len:(p.States.length:Int)=calls
 each:∀ (k:Nat) l,p.States[k]? = some l→H07 s boxes k l
theorem aboard_len (boxes:List Gr) (k:Int):(Ga5 boxes k).length≤boxes.length:=by
 unfold Ga5
 rw [List.length_map]
 exact List.length_filter_le _ _
theorem H07.len {s:Hc} {boxes:List Gr} {k:Int} {l:List G7} (h:H07 s boxes k l):l.length≤boxes.length:=by
 have:=congrArg List.length h.ids
 rw [List.length_map] at this
 rw [this]
 exact aboard_len boxes k
theorem Small.tier {s:Hc} (h:Small s):∀ c∈s.Columns,c.Tiers≤1000000:=fun c hc=>by have:=h.tiers c hc; omega
theorem plan_check {s:Hc} {boxes:List Gr} {calls:Int} {p:G6a} (hs:Small s) (hb:Yg calls boxes) (hp:J91 s boxes calls p):G8c s boxes calls p=some (0,0):=by
 refine G4f ?_
 unfold G8c
 have hl:=hb.len
 refine H6 hs.right (Hq (fun h=>by cases h) (fun _=>H6 (J75 hb) (Hq (fun h=>by cases h) (fun _=>Hq (fun h=>?_) (fun _=>?_)))))
 ·exact(of_decide_eq_true h hp.len).elim
 refine J6 (fun _ _=>True) trivial (fun pre y post u nx e _ hnx=>?_) (fun u _=>Gw rfl)
 have hy:H07 s boxes pre.length y:=hp.each pre.length y (by rw [e]; simp)
 have hyl:=hy.len
 refine Hd (wp_mono (J6d hs.right hs.tier (by omega)) (fun r hr=>?_))
 refine Hq (fun h=>?_) (fun _=>?_)
 ·have:=hr.2 hy.right
  rw [this] at h; cases h
 ·refine H6 (plan_aboard boxes pre.length (by omega)) (H6 (equal_ids hy.ids) (Hq (fun h=>by cases h) (fun _=>hnx _ trivial)))
theorem J71 {s:Hc} {x:Slot} {size:Int} (h:Ge5 s x size):ColIn s x:=by
 obtain⟨m,c,h1,h2,_⟩:=h.col
 exact⟨m,c,h1,h2⟩
theorem states_ok {s:Hc} {boxes:List Gr} {before after:List G7} (hs:Small s) (h1:Gbd s boxes before) (h2:Gbd s boxes after) (l1:before.length≤100) (l2:after.length≤100) :
  H6f s (before.map (·.Gr)++after.map (·.Gr)) [before,after]:=by
 refine⟨hs,fun st hst x hx=>?_,by simp only [List.length_append,List.length_map]; omega⟩
 simp only [List.mem_cons,List.not_mem_nil,or_false] at hst
 rcases hst with rfl | rfl
 ·obtain⟨b,_,hb,_⟩:=h1.each x hx
  exact⟨List.mem_append.2 (.inl (List.mem_map.2 ⟨x,hx,rfl⟩)),J71 hb⟩
 ·obtain⟨b,_,hb,_⟩:=h2.each x hx
  exact⟨List.mem_append.2 (.inr (List.mem_map.2 ⟨x,hx,rfl⟩)),J71 hb⟩
/-- The state ahead of a call. -/
def G10 (l:List (List G7)) (k:Nat):List G7:=if k=0 then [] else (l[k - 1]?).getD []
theorem plan_steps (p:G6a):∃ ys,G3d p=some ys∧ys.length=p.States.length∧∀ k y,ys[k]? = some y→y.1=G10 p.States k∧p.States[k]? = some y.2:=by
 have:Wp (G3d p) (fun ys=>ys.length=p.States.length∧∀ k y,ys[k]? = some y→y.1=G10 p.States k∧p.States[k]? = some y.2):=by
  unfold G3d
  refine J6 (fun pre st=>st.1=G10 p.States pre.length∧st.2.length=pre.length∧∀ k y,st.2[k]? = some y→y.1=G10 p.States k∧p.States[k]? = some y.2) ⟨rfl,rfl,fun k y h=>by simp at h⟩ (fun pre y post st nx e hI hnx=>?_) (fun st hI=>Gw hI.2)
  obtain⟨h1,h2,h3⟩:=hI
  have hy:p.States[pre.length]? = some y:=by rw [e]; simp
  refine hnx _ ⟨?_,by simp [h2],fun k z hz=>?_⟩
  ·show y=G10 p.States (pre++[y]).length
   unfold G10
   rw [List.length_append,List.length_singleton,if_neg (by omega),Nat.add_sub_cancel,hy]; rfl
  ·rw [List.getElem?_append] at hz
   split at hz
   ·exact h3 k z hz
   ·rename_i hk
    have hk0:k - st.2.length=0:=by
     have:=(List.getElem?_eq_some_iff.1 hz).1
     simp only [List.length_singleton] at this; omega
    rw [hk0] at hz
    simp only [List.getElem?_cons_zero,Option.some.injEq] at hz
    subst hz
    have:k=pre.length:=by omega
    subst this
    exact⟨h1,hy⟩
 obtain⟨ys,e,h⟩:=this
 exact⟨ys,e,h⟩
theorem Hb4 {s:Hc} {boxes:List Gr}:Gbd s boxes []:=⟨fun x hx=>(List.not_mem_nil hx).elim,List.Pairwise.nil,List.Pairwise.nil,fun m c _=>by
 unfold FitsP H8a
 simp only [List.foldl_nil]
 omega⟩
theorem eq_of_sorted {a b:List Int} (ha:a.Pairwise (· < ·)) (hb:b.Pairwise (· < ·)) (h:∀ x,x∈a ↔ x∈b):a=b:=
 List.Perm.eq_of_pairwise (le:=fun x y:Int=>x < y) (fun x y _ _ h1 h2=>by omega) ha hb ((List.perm_ext_iff_of_nodup (G7c ha) (G7c hb)).2 h)
theorem slots_spec {s:Hc} (hs:Small s) (size:Int):Wp (G83 s size) (fun r=>r.length≤200*s.Columns.length∧∀ x∈r,Ge5 s x size):=by
 unfold G83
 have hhl:(H01 size).length≤2:=by
  unfold H01
  split
  ·simp
  ·split <;> simp
 refine J6 (fun pre r=>r.length≤200*pre.length∧∀ x∈r,Ge5 s x size) ⟨by simp,fun x hx=>(List.not_mem_nil hx).elim⟩ (fun pre c post r nx e hI hnx=>?_) (fun r hI=>Gw hI)
 obtain⟨h1,h2⟩:=hI
 have hc:s.Columns[pre.length]? = some c:=by rw [e]; simp
 have ht:=hs.tiers c (List.mem_of_getElem? hc)
 refine Q1 (decide_eq_true (by omega)) ?_
 have htn:(max c.Tiers 0).toNat≤100:=by omega
 refine H7b (fun i r'=>r'.length≤r.length+2*i∧∀ x∈r',Ge5 s x size) ⟨by simp,h2⟩ (fun i r' nx2 hi hI hnx2=>?_) (fun r' hI=>hnx _ ⟨?_,hI.2⟩)
 ·refine H6 (J22 size) ?_
  refine J6 (fun pr r2=>r2.length=r'.length+pr.length∧∀ x∈r2,Ge5 s x size) ⟨by simp,hI.2⟩ (fun pr h post2 r2 nx3 e2 hI2 hnx3=>hnx3 _ ⟨?_,fun x hx=>?_⟩) (fun r2 hI2=>hnx2 _ ⟨by have:=hI.1; have:=hI2.1; omega,hI2.2⟩)
  ·simp only [List.length_append,List.length_singleton]; have:=hI2.1; omega
  ·rcases List.mem_append.1 hx with hx | hx
   ·exact hI2.2 x hx
   ·rw [List.mem_singleton] at hx; subst hx
    exact⟨⟨pre.length,c,rfl,hc,by show (i:Int) < c.Tiers; omega⟩,by show (0:Int)≤i; omega,by show h∈H01 size; rw [e2]; simp⟩
 ·have:=hI.1
  simp only [List.length_append,List.length_singleton]; omega
theorem slot_all {s:Hc} (hs:Small s) (size:Int):Wp (Ge9 s size) (fun r=>r.length≤200*s.Columns.length∧∀ x∈r,Ge5 s x size):=by
 unfold Ge9
 refine H6 (show Gcc s size=some () from rfl) ?_
 refine Hd (wp_mono (slots_spec hs size) (fun ys hys=>?_))
 have hc:=hs.cols
 refine J6 (fun pre r=>r=pre) rfl (fun pre y post r nx e hI hnx=>?_) (fun r hI=>by subst hI; exact Gw hys)
 subst hI
 have hl:r.length < ys.length:=by rw [e]; simp
 exact Q1 (Ro (by rw [List.length_singleton]; have:=hys.1; omega) (by omega)) (hnx _ rfl)
/-- A state in the making, behind a call. -/
structure H6e (s:Hc) (boxes:List Gr) (k:Int) (l:List G7):Prop where
 right:Gbd s boxes l
 mem:∀ x∈l,∃ b∈boxes,b.ID=x.Gr∧Gc9 k b=true
theorem H6e.nil {s:Hc} {boxes:List Gr} {k:Int}:H6e s boxes k []:=⟨Hb4,fun x hx=>(List.not_mem_nil hx).elim⟩
theorem H6e.len {s:Hc} {boxes:List Gr} {k:Int} {l:List G7} (h:H6e s boxes k l):l.length≤boxes.length:=by
 have h1:(l.map (·.Gr)).Pairwise (· < ·):=List.pairwise_map.2 h.right.sorted
 have:=(G7c h1).length_le_of_subset (l₂:=boxes.map (·.ID)) (fun a ha=>by
  obtain⟨x,hx,rfl⟩:=List.mem_map.1 ha
  obtain⟨b,hb,e,_⟩:=h.mem x hx
  exact List.mem_map.2 ⟨b,hb,e⟩)
 rw [List.length_map,List.length_map] at this
 exact this
theorem try_spec {s:Hc} {boxes:List Gr} {calls k:Int} {l:List G7} {b:Gr} (x:Slot) (hs:Small s) (hb:Yg calls boxes) (h:H6e s boxes k l) (hbm:b∈boxes) (hab:Gc9 k b=true) :
  Wp (G07 s boxes (Ha1 l ⟨b.ID,x⟩)) (fun v=>v=true→H6e s boxes k (Ha1 l ⟨b.ID,x⟩)∧b.ID∈(Ha1 l ⟨b.ID,x⟩).map (·.Gr)∧∀ a∈l.map (·.Gr),a∈(Ha1 l ⟨b.ID,x⟩).map (·.Gr)):=by
 have hl:=h.len
 have hbl:=hb.len
 have hil:=insSt_length l ⟨b.ID,x⟩
 refine wp_mono (J6d hs.right hs.tier (by omega)) (fun v hv e=>⟨⟨hv.1 e,fun y hy=>?_⟩,List.mem_map.2 ⟨_,H88.2 (.inl rfl),rfl⟩,fun a ha=>?_⟩)
 ·rcases H88.1 hy with rfl | ⟨hy,_⟩
  ·exact⟨b,hbm,rfl,hab⟩
  ·exact h.mem y hy
 ·obtain⟨y,hy,rfl⟩:=List.mem_map.1 ha
  by_cases hyb:y.Gr=b.ID
  ·exact List.mem_map.2 ⟨_,H88.2 (.inl rfl),hyb.symm⟩
  ·exact List.mem_map.2 ⟨y,H88.2 (.inr ⟨hy,hyb⟩),rfl⟩
theorem H6e.done {s:Hc} {boxes:List Gr} {calls k:Int} {l:List G7} (hb:Yg calls boxes) (h:H6e s boxes k l) (hall:∀ b∈boxes,Gc9 k b=true→b.ID∈l.map (·.Gr)):H07 s boxes k l:=by
 refine⟨h.right,eq_of_sorted (List.pairwise_map.2 h.right.sorted) (List.pairwise_map.2 (hb.sorted.filter _)) (fun a=>?_)⟩
 unfold Ga5
 constructor
 ·intro ha
  obtain⟨x,hx,rfl⟩:=List.mem_map.1 ha
  obtain⟨b,hb1,e,hab⟩:=h.mem x hx
  exact List.mem_map.2 ⟨b,List.mem_filter.2 ⟨hb1,hab⟩,e⟩
 ·intro ha
  obtain⟨b,hb1,rfl⟩:=List.mem_map.1 ha
  obtain⟨hb2,hab⟩:=List.mem_filter.1 hb1
  exact hall b hb2 hab
theorem voyage_spec {s:Hc} {boxes:List Gr} {home:Gu Int Int} {calls:Int} {F:Nat} (hs:Small s) (hb:Yg calls boxes) (hh:∀ a,0≤Gu.get home a 0∧Gu.get home a 0≤1000) (hF:60≤F) :
  Wp (Rw F s boxes home calls) (fun r=>r.2.2=home∧(r.2.1=0→J91 s boxes calls r.1)):=by
 unfold Rw
 have hnum:=hb.num
 have hbl:=hb.len
 have hcols:=hs.cols
 refine Q1 (decide_eq_true (by omega)) ?_
 refine H7b (fun i s6=>s6.1.length=i∧∀ (k:Nat) l,s6.1[k]? = some l→H07 s boxes k l) ⟨rfl,fun k l h=>by simp at h⟩ (fun i s6 nx hi hI hnx=>?_) (fun s6 hI=>Gw ⟨rfl,fun _=>⟨by show (s6.1.length:Int)=calls; have:=hI.1; omega,hI.2⟩⟩)
 refine Q1 (by decide) ?_
 refine H7b (fun _ l=>H6e s boxes i l) H6e.nil (fun t l nx2 ht hl hnx2=>?_) (fun l hl=>?_)
 ·refine J6 (fun _ l=>H6e s boxes i l) hl (fun pre y post l nx3 e hl hnx3=>?_) (fun l hl=>hnx2 _ hl)
  have hy:y∈boxes:=by rw [e]; simp
  refine Y6 (fun j=>H6e s boxes i j) (fun K hK=>?_) (fun j hj=>hnx3 _ hj)
  refine H6 rfl (Hq (fun hc=>?_) (fun _=>hK _ hl))
  have hab:Gc9 i y=true:=by
   simp only [Bool.and_eq_true,decide_eq_true_eq] at hc
   unfold Gc9
   rw [decide_eq_true (by omega),decide_eq_true hc.2]; rfl
  have hll:=hl.len
  exact H6 (J7d l _ (by omega)) (Hd (wp_mono (try_spec _ hs hb hl hy hab) (fun r53 h53=>Hq (fun h=>hK _ (h53 h).1) (fun _=>hK _ hl))))
 ·refine J6 (fun pre l=>H6e s boxes i l∧∀ b∈pre,Gc9 i b=true→b.ID∈l.map (·.Gr)) ⟨hl,fun b hb=>(List.not_mem_nil hb).elim⟩ (fun pre y post l nx3 e hI3 hnx3=>?_) (fun l hI3=>?_)
  ·obtain⟨hl,hpre⟩:=hI3
   have hy:y∈boxes:=by rw [e]; simp
   have hll:=hl.len
   refine Y6 (fun j=>H6e s boxes i j∧∀ b∈pre++[y],Gc9 i b=true→b.ID∈j.map (·.Gr)) (fun K hK=>?_) (fun j hj=>hnx3 _ hj)
   by_cases hab:Gc9 i y=true
   ·have hab':=hab
    unfold Gc9 at hab'
    simp only [Bool.and_eq_true,decide_eq_true_eq] at hab'
    rw [decide_eq_false (show ¬ (i:Int) < y.Load by omega),decide_eq_false (show ¬ y.Discharge≤(i:Int) by omega)]
    simp only [Bool.or_self,Bool.not_false,cond_true,Bool.false_or]
    refine H6 (law23_holds l y.ID) (Hq (fun h=>hK _ ⟨hl,fun b hb1 hb2=>?_⟩) (fun h=>?_))
    ·rcases List.mem_append.1 hb1 with hb1 | hb1
     ·exact hpre b hb1 hb2
     ·rw [List.mem_singleton] at hb1; subst hb1
      exact holdsB_iff.1 h
    ·refine wp_loop (fun st:List G7×Bool×Int=>H6e s boxes i st.1∧(∀ a∈l.map (·.Gr),a∈st.1.map (·.Gr))∧(st.2.1=true→y.ID∈st.1.map (·.Gr))∧0≤st.2.2∧st.2.2≤(s.Columns.length:Int)) (fun st=>s.Columns.length+1 - st.2.2.toNat)
      ⟨hl,fun a ha=>ha,fun h=>(by cases h),Int.le_refl _,by simp⟩ (by show s.Columns.length+1 - 0 < F; omega) (fun st nx4 hst hnx4=>?_)
     obtain⟨l1,done,turn⟩:=st
     obtain⟨i1,i2,i3,i4,i5⟩:=hst
     simp only at i1 i2 i3 i4 i5 ⊢
     refine Hq (fun hc=>?_) (fun hc=>?_)
     ·simp only [Bool.and_eq_true,decide_eq_true_eq,Bool.not_eq_true'] at hc
      obtain⟨c1,rfl⟩:=hc
      refine Y6 (fun j=>H6e s boxes i j.1∧(∀ a∈l.map (·.Gr),a∈j.1.map (·.Gr))∧(j.2=true→y.ID∈j.1.map (·.Gr))) (fun K' hK'=>?_) (fun j hj=>?_)
      ·refine Hd (wp_mono (slot_all hs y.Size) (fun r72 _=>?_))
       refine J6 (fun _ s99=>s99=(l1,false)) rfl (fun pre2 x post2 s99 nx5 e2 hI5 hnx5=>?_) (fun s99 hI5=>by subst hI5; exact hK' _ ⟨i1,i2,fun h=>by cases h⟩)
       subst hI5
       have hl1:=i1.len
       refine H6 (J7d l1 _ (by omega)) (H6 rfl ?_)
       have hg:=hh y.ID
       refine J1 ⟨by omega,by omega⟩ (Hd (H0e (by omega) ?_))
       by_cases hcol:x.G9=(Gu.get home y.ID 0+turn).tmod (s.Columns.length:Int)
       ·rw [decide_eq_true hcol]
        simp only [cond_true,Bool.true_and]
        refine Hd (wp_mono (try_spec x hs hb i1 hy hab) (fun r110 h110=>Hq (fun h=>?_) (fun _=>hnx5 _ rfl)))
        obtain⟨g1,g2,g3⟩:=h110 h
        exact hK' _ ⟨g1,fun a ha=>g3 a (i2 a ha),fun _=>g2⟩
       ·rw [decide_eq_false hcol]
        simp only [cond_false,Bool.false_and]
        exact Hd (Gw (hnx5 _ rfl))
      ·obtain⟨j1,j2,j3⟩:=hj
       refine J1 ⟨by omega,by omega⟩ (hnx4 _ ⟨j1,j2,j3,by show 0≤turn+1; omega,by show turn+1≤s.Columns.length; omega⟩ ?_)
       show s.Columns.length+1 - (turn+1).toNat < s.Columns.length+1 - turn.toNat
       omega
     ·refine Hq (fun hd=>Gw ⟨rfl,fun h0=>?_⟩) (fun hd=>hK _ ⟨i1,fun b hb1 hb2=>?_⟩)
      ·have:=(hb.each y hy).id
       have h0':y.ID=0:=h0
       omega
      ·rcases List.mem_append.1 hb1 with hb1 | hb1
       ·exact i2 _ (hpre b hb1 hb2)
       ·rw [List.mem_singleton] at hb1; subst hb1
        exact i3 (by simpa using hd)
   ·have hK2:H6e s boxes i l∧∀ b∈pre++[y],Gc9 i b=true→b.ID∈l.map (·.Gr):=⟨hl,fun b hb1 hb2=>by
     rcases List.mem_append.1 hb1 with hb1 | hb1
     ·exact hpre b hb1 hb2
     ·rw [List.mem_singleton] at hb1; subst hb1; exact(hab hb2).elim⟩
    have hor:((decide ((i:Int) < y.Load))||(decide (y.Discharge≤(i:Int))))=true:=by
     unfold Gc9 at hab
     simp only [Bool.and_eq_true,decide_eq_true_eq] at hab
     simp only [Bool.or_eq_true,decide_eq_true_eq]
     omega
    rw [hor]
    simp only [Bool.not_true,cond_false,Bool.true_or,cond_true]
    exact Hd (Gw (hK _ hK2))
  ·obtain⟨hl,hall⟩:=hI3
   have hst:=hl.done hb hall
   refine J6 (fun _ _=>True) trivial (fun pre y post m nx4 e _ hnx4=>hnx4 _ trivial) (fun m _=>?_)
   have hi':i < 20:=by omega
   refine Q1 (Ro (by rw [List.length_singleton]; have:=hI.1; omega) (by omega)) (hnx _ ⟨by simp [hI.1],fun k l' hk=>?_⟩)
   rw [List.getElem?_append] at hk
   split at hk
   ·exact hI.2 k l' hk
   ·rename_i hkl
    have hk0:k - s6.1.length=0:=by
     have:=(List.getElem?_eq_some_iff.1 hk).1
     simp only [List.length_singleton] at this; omega
    rw [hk0] at hk
    simp only [List.getElem?_cons_zero,Option.some.injEq] at hk
    subst hk
    have:k=i:=by have:=hI.1; omega
    subst this
    exact hst
structure ItemOk (x:Hk):Prop where
 column:Byte x.G9
 kilos:Byte x.Kilos
 load:Byte x.Load
 stay:Byte x.Stay
theorem Voyage_spec {s:Hc} {items:List Hk} {calls:Int} {F:Nat} (hs:Small s) (hi:∀ x∈items,ItemOk x) (hc:2≤calls∧calls≤6) (hF:60≤F) :
  Wp (Rx F s items calls 8) (fun r=>Yg calls r.1∧J91 s r.1 calls r.2):=by
 unfold Rx
 have hcols:=hs.cols
 refine Hd (G3a (m:=min items.length 8) (by omega) (by omega) ?_)
 have hl8:(items.take (min items.length 8)).length≤8:=by rw [List.length_take]; omega
 refine J6 (fun pre st=>Yg calls st.1∧st.1.length=pre.length∧(∀ b∈st.1,b.ID≤5*(pre.length:Int))∧∀ a,0≤Gu.get st.2 a 0∧Gu.get st.2 a 0≤1000)
  ⟨⟨by omega,by simp,fun b hb=>(List.not_mem_nil hb).elim,List.Pairwise.nil⟩,rfl,fun b hb=>(List.not_mem_nil hb).elim,fun a=>by rw [H6c]; omega⟩ (fun pre y post st nx e hI hnx=>?_) (fun st hI=>?_)
 ·obtain⟨hb,hlen,hid,hhome⟩:=hI
  have hy:ItemOk y:=hi y (List.mem_of_mem_take (by rw [e]; simp:y∈items.take (min items.length 8)))
  obtain⟨⟨c1,c2⟩,⟨k1,k2⟩,⟨l1,l2⟩,⟨t1,t2⟩⟩:=hy
  have hp:pre.length < 8:=by rw [e] at hl8; simp only [List.length_append,List.length_cons] at hl8; omega
  refine J1 ⟨by omega,by omega⟩ (J1 ⟨by omega,by omega⟩ (J1 ⟨by omega,by omega⟩ (J1 ⟨by omega,by omega⟩ (J1 ⟨by omega,by omega⟩ (J1 ⟨by omega,by omega⟩ ?_)))))
  refine Hd (H0e (by omega) ?_)
  have eL:y.Load.tmod (calls - 1)=y.Load % (calls - 1):=Int.tmod_eq_emod_of_nonneg l1
  rw [eL]
  have rL:0≤y.Load % (calls - 1)∧y.Load % (calls - 1) < calls - 1:=⟨Int.emod_nonneg _ (by omega),Int.emod_lt_of_pos _ (by omega)⟩
  generalize y.Load % (calls - 1)=L at rL
  refine J1 ⟨by omega,by omega⟩ (J1 ⟨by omega,by omega⟩ (J1 ⟨by omega,by omega⟩ (J1 ⟨by omega,by omega⟩ ?_)))
  refine Hd (H0e (by omega) ?_)
  have eS:y.Stay.tmod (calls - 1 - L)=y.Stay % (calls - 1 - L):=Int.tmod_eq_emod_of_nonneg t1
  rw [eS]
  have rS:0≤y.Stay % (calls - 1 - L)∧y.Stay % (calls - 1 - L) < calls - 1 - L:=⟨Int.emod_nonneg _ (by omega),Int.emod_lt_of_pos _ (by omega)⟩
  generalize y.Stay % (calls - 1 - L)=T at rS
  refine J1 ⟨by omega,by omega⟩ ?_
  refine Y6 (fun j:Int×Bool=>j.1=40∨(j.1=20∧j.2=false)) (fun K hK=>Hq (fun _=>hK _ (.inr ⟨rfl,rfl⟩)) (fun _=>hK _ (.inl rfl))) (fun j hj=>?_)
  refine J1 ⟨by omega,by omega⟩ (Hd (H0e (by omega) ?_))
  have eC:y.G9.tmod (s.Columns.length:Int)=y.G9 % (s.Columns.length:Int):=Int.tmod_eq_emod_of_nonneg c1
  rw [eC]
  have rC:0≤y.G9 % (s.Columns.length:Int)∧y.G9 % (s.Columns.length:Int) < s.Columns.length:=⟨Int.emod_nonneg _ (by omega),Int.emod_lt_of_pos _ (by omega)⟩
  generalize y.G9 % (s.Columns.length:Int)=C at rC
  refine Q1 (Ro (by rw [List.length_singleton]; omega) (by omega)) (hnx _ ⟨⟨by omega,by simp only [List.length_append,List.length_singleton]; omega,fun b hb'=>?_,?_⟩,by simp [hlen],fun b hb'=>?_,fun a=>?_⟩)
  ·rcases List.mem_append.1 hb' with hb' | hb'
   ·exact hb.each b hb'
   ·rw [List.mem_singleton] at hb'; subst hb'
    exact⟨⟨by simp only; omega,by simp only; omega⟩,hj,by simp only; omega,by simp only; omega,by simp only; omega⟩
  ·refine Ga3 hb.sorted (fun a ha=>?_)
   have:=hid a ha
   simp only
   omega
  ·rw [List.length_append,List.length_singleton]
   rcases List.mem_append.1 hb' with hb' | hb'
   ·have:=hid b hb'; omega
   ·rw [List.mem_singleton] at hb'; subst hb'
    simp only; omega
  ·rw [Hdd]
   split
   ·omega
   ·exact hhome a
 ·obtain⟨hb,hlen,_,hhome⟩:=hI
  have hbl:=hb.len
  refine J1 ⟨by omega,by omega⟩ (Q1 (decide_eq_true (by omega)) ?_)
  refine H7b (fun _ st=>Yg calls st.1∧∀ a,0≤Gu.get st.2 a 0∧Gu.get st.2 a 0≤1000) ⟨hb,hhome⟩ (fun i st nx hi hI hnx=>?_) (fun st _=>?_)
  ·obtain⟨hb,hhome⟩:=hI
   refine Hd (wp_mono (voyage_spec hs hb hhome hF) (fun r153 h153=>?_))
   obtain⟨g1,g2⟩:=h153
   refine Hq (fun h=>Gw ⟨hb,g2 (of_decide_eq_true h)⟩) (fun _=>?_)
   have hbl:=hb.len
   refine J6 (fun pre l=>l=pre.filter (fun b=>decide (b.ID≠r153.2.1))) rfl (fun pre y post l nx2 e hl hnx2=>?_) (fun l hl=>?_)
   ·subst hl
    have hf:=List.length_filter_le (fun b:Gr=>decide (b.ID≠r153.2.1)) pre
    have hp:pre.length+1≤st.1.length:=by rw [e]; simp
    refine Y6 (fun j=>j=(pre++[y]).filter (fun b=>decide (b.ID≠r153.2.1))) (fun K hK=>Hq (fun h=>Q1 (Ro (by rw [List.length_singleton]; omega) (by omega)) (hK _ ?_)) (fun h=>hK _ ?_)) (fun j hj=>hnx2 _ hj)
    ·rw [G22,h]; rfl
    ·rw [G22,h]; simp
   ·subst hl
    refine hnx _ ⟨⟨hb.num,?_,fun b hb'=>hb.each b (List.mem_filter.1 hb').1,hb.sorted.filter _⟩,by rw [g1]; exact hhome⟩
    have:=List.length_filter_le (fun b:Gr=>decide (b.ID≠r153.2.1)) st.1
    show (st.1.filter (fun b=>decide (b.ID≠r153.2.1))).length≤8
    omega
  ·obtain⟨m,hm⟩:∃ m:Nat,calls=(m:Int):=⟨calls.toNat,by omega⟩
   have hno:H4f calls=some m:=by
    unfold H4f
    rw [decide_eq_true (by omega),hm]
    rfl
   refine H6 hno (Q1 (decide_eq_true ⟨by omega,Nat.le_trans (show m≤6 by omega) (by decide),by omega⟩) (Gw ⟨⟨by omega,by simp,fun b hb=>(List.not_mem_nil hb).elim,List.Pairwise.nil⟩,by simp [hm],fun k l hk=>?_⟩))
   have:l=[]:=by
    have:=List.mem_of_getElem? hk
    exact List.eq_of_mem_replicate this
   subst this
   exact⟨Hb4,rfl⟩
/-- y stands on deck upon the cover that x stands under. -/
def upon (s:Hc) (x y:Slot):Prop:=∃ (m:Nat) (c:G9) (m1:Nat) (c1:G9),x.G9=(m:Int)∧s.Columns[m]? = some c∧y.G9=(m1:Int)∧s.Columns[m1]? = some c1∧c.Deck=false∧c1.Deck=true∧0≤H03 s c∧H03 s c1=H03 s c
def PullsIn (s:Hc) (states:List (List G7)) (st:List G7) (a b:Int):Prop:=
 (Qm st a).2=true∧((∃ y∈st,y.Gr=b∧J92 y.Slot (Qm st a).1)∨∃ st2∈states,∃ y∈st2,y.Gr=b∧upon s (Qm st a).1 y.Slot)
/-- To lift a, b has to be lifted. -/
def G56 (s:Hc) (states:List (List G7)) (a b:Int):Prop:=∃ st∈states,PullsIn s states st a b
structure Grown (s:Hc) (U:List Int) (states:List (List G7)) (l:List Int) (id:Int) (m:Gu Int Unit) (l':List Int):Prop where
 inv:G6c U m l'
 sub:∀ a∈l,a∈l'
 has:id∈l'
 closed:∀ a∈l',a ∉ l→∀ b,G56 s states a b→b∈l'
 least:∀ C:Int→Prop,(∀ a b,C a→G56 s states a b→C b)→(∀ a∈l,C a)→C id→∀ a∈l',C a
structure Rch (s:Hc) (U:List Int) (states:List (List G7)) (l:List Int) (id:Int) (m:Gu Int Unit) (l':List Int):Prop where
 inv:G6c U m l'
 sub:∀ a∈l++[id],a∈l'
 closed:∀ a∈l',a ∉ l→a≠id→∀ b,G56 s states a b→b∈l'
 least:∀ C:Int→Prop,(∀ a b,C a→G56 s states a b→C b)→(∀ a∈l,C a)→C id→∀ a∈l',C a
section
variable {s:Hc} {U:List Int} {states:List (List G7)} {l l' l2:List Int} {id y:Int} {m m2:Gu Int Unit}
theorem Rch.start (h:G6c U m (l++[id])):Rch s U states l id m (l++[id]):=
 ⟨h,fun a ha=>ha,fun a ha h1 h2=>by
  rcases List.mem_append.1 ha with ha | ha
  ·exact(h1 ha).elim
  ·exact(h2 (List.mem_singleton.1 ha)).elim,fun C _ hl hid a ha=>by
  rcases List.mem_append.1 ha with ha | ha
  ·exact hl a ha
  ·exact List.mem_singleton.1 ha ▸ hid⟩
theorem Rch.step (h:Rch s U states l id m l') (hp:G56 s states id y) (g:Grown s U states l' y m2 l2):Rch s U states l id m2 l2∧(∀ a∈l',a∈l2)∧y∈l2:=
 ⟨⟨g.inv,fun a ha=>g.sub a (h.sub a ha),fun a ha h1 h2 b hb=>by
  by_cases hal:a∈l'
  ·exact g.sub b (h.closed a hal h1 h2 b hb)
  ·exact g.closed a ha hal b hb,fun C hc hl hid=>g.least C hc (h.least C hc hl hid) (hc id y hid hp)⟩,g.sub,g.has⟩
end
theorem H21 {α:Type} {P:α→Prop} {l:List α} {x:α} (h1:∀ y∈l,P y) (h2:P x):∀ y∈l++[x],P y:=fun y hy=>by
 rcases List.mem_append.1 hy with hy | hy
 ·exact h1 y hy
 ·exact List.mem_singleton.1 hy ▸ h2
theorem add_full {s:Hc} {U:List Int} {states:List (List G7)} (hs:H6f s U states):∀ (F:Nat) (id:Int) (m:Gu Int Unit) (l:List Int),G6c U m l→id∈U→U.length+1≤F+l.length →
  Wp (Ra F id m l states s) (fun r=>Grown s U states l id r.1 r.2):=by
 intro F
 induction F with
 | zero=>intro id m l hi _ hF; have:=hi.le; omega
 | succ F ih=>
  intro id m l hi hid hF
  show Wp (Z7 (Ra F) F id m l states s) _
  unfold Z7
  refine H6 (set_add m id) ?_
  rw [hi.has]
  by_cases hmem:id∈l
  ·rw [if_pos (decide_eq_true hmem)]
   exact Hq (fun _=>Gw ⟨hi,fun a ha=>ha,hmem,fun a ha hn=>(hn ha).elim,fun C _ hl _ a ha=>hl a ha⟩) (fun h=>by cases h)
  rw [if_neg (by rw [decide_eq_false hmem]; exact Bool.false_ne_true)]
  refine Hq (fun h=>by cases h) (fun _=>?_)
  have hle:=hi.le
  have hlen:=hs.len
  have h1:=hi.snoc hmem hid
  have h1le:=h1.le
  have hl1:(l++[id]).length=l.length+1:=by simp
  refine Q1 (Ro (by rw [List.length_singleton]; omega) (by omega)) ?_
  have again:∀ (y:G7) (st:List G7) (m':Gu Int Unit) (l':List Int),st∈states→y∈st→Rch s U states l id m' l'→G56 s states id y.Gr →
    Wp (Ra F y.Gr m' l' states s) (fun r=>Rch s U states l id r.1 r.2∧(∀ a∈l',a∈r.2)∧y.Gr∈r.2):=
   fun y st m' l' h2 h3 h4 h5=>wp_mono (ih y.Gr m' l' h4.inv (hs.each st h2 y h3).1 (by
    have:=h1.nodup.length_le_of_subset (fun a ha=>h4.sub a ha)
    omega)) (fun r hr=>h4.step h5 hr)
  have hcov:∀ {k:Nat} {c:G9},s.Columns[k]? = some c→Zp s (k:Int)=some (H03 s c):=fun hc=>H39 hc (fun x hx=>by have:=hs.small.rows x hx; omega) (by have:=hs.small.covs; omega)
  refine J6 (fun pre s7=>Rch s U states l id s7.1 s7.2∧∀ st∈pre,∀ b,PullsIn s states st id b→b∈s7.2) ⟨.start h1,fun st h=>(List.not_mem_nil h).elim⟩ (fun pre st post s7 nx e hI hnx=>?_) (fun s7 hI=>Gw ?_)
  ·have hst:st∈states:=by rw [e]; simp
   obtain⟨hR,hD⟩:=hI
   refine Y6 (fun j=>Rch s U states l id j.1 j.2∧(∀ a∈s7.2,a∈j.2)∧∀ b,PullsIn s states st id b→b∈j.2) (fun K hK=>?_) (fun j hj=>hnx _ ⟨hj.1,H21 (fun st' h' b hb=>hj.2.1 _ (hD st' h' b hb)) hj.2.2⟩)
   refine H6 (G70 st id) (Hq (fun hf=>hK _ ⟨hR,fun a ha=>ha,fun b hb=>?_⟩) (fun hf=>?_))
   ·rw [hb.1] at hf; cases hf
   have hft:(Qm st id).2=true:=by simpa using hf
   obtain⟨x,hx,_,hxs⟩:=G9a hft
   obtain⟨m0,c0,hm0,hc0⟩:=(hs.each st hst x hx).2
   rw [hxs]
   refine Y6 (fun j17=>j17=if c0.Deck=true then -1 else H03 s c0) (fun K' hK'=>Jq hm0 hc0 (Hq (fun hd=>?_) (fun hd=>hK' _ (by
    rw [if_pos (by simpa using hd)])))) (fun j17 h17=>?_)
   ·rw [hm0]
    exact H6 (hcov hc0) (hK' _ (by rw [if_neg (by simpa using hd)]))
   refine J6 (fun pre s56=>Rch s U states l id s56.1 s56.2∧(∀ a∈s7.2,a∈s56.2)∧∀ y∈pre,J92 y.Slot x.Slot→y.Gr∈s56.2) ⟨hR,fun a ha=>ha,fun y h=>(List.not_mem_nil h).elim⟩ (fun pre y post s56 nx e hI hnx=>?_) (fun s56 hI=>?_)
   ·have hy:y∈st:=by rw [e]; simp
    obtain⟨i1,i2,i3⟩:=hI
    refine Y6 (fun j=>Rch s U states l id j.1 j.2∧(∀ a∈s56.2,a∈j.2)∧(J92 y.Slot x.Slot→y.Gr∈j.2)) (fun K' hK'=>?_) (fun j hj=>hnx _ ⟨hj.1,fun a ha=>hj.2.1 a (i2 a ha),H21 (fun y' h' ho=>hj.2.1 _ (i3 y' h' ho)) hj.2.2⟩)
    refine Hd (wp_mono (slot_over y.Slot x.Slot) (fun r62 h62=>Hq (fun hr=>?_) (fun hr=>hK' _ ⟨i1,fun a ha=>ha,fun ho=>?_⟩)))
    ·exact Hd (wp_mono (again y st _ _ hst hy i1 ⟨st,hst,hft,.inl ⟨y,hy,rfl,by rw [hxs]; exact h62.1 hr⟩⟩) (fun r hr=>hK' _ ⟨hr.1,hr.2.1,fun _=>hr.2.2⟩))
    ·rw [h62.2 ho] at hr; cases hr
   ·obtain⟨i1,i2,i3⟩:=hI
    refine J6 (fun pre s65=>Rch s U states l id s65.1 s65.2∧(∀ a∈s56.2,a∈s65.2)∧∀ st2∈pre,∀ y∈st2,upon s x.Slot y.Slot→y.Gr∈s65.2) ⟨i1,fun a ha=>ha,fun st2 h=>(List.not_mem_nil h).elim⟩ (fun pre st2 post s65 nx e hI hnx=>?_) (fun s65 hI=>hK _ ⟨hI.1,fun a ha=>hI.2.1 a (i2 a ha),fun b hb=>?_⟩)
    ·obtain⟨j1,j2,j3⟩:=hI
     have hst2:st2∈states:=by rw [e]; simp
     refine J6 (fun pre s107=>Rch s U states l id s107.1 s107.2∧(∀ a∈s65.2,a∈s107.2)∧∀ y∈pre,upon s x.Slot y.Slot→y.Gr∈s107.2) ⟨j1,fun a ha=>ha,fun y h=>(List.not_mem_nil h).elim⟩ (fun pre y post s107 nx2 e hI hnx2=>?_) (fun s107 hI=>hnx _ ⟨hI.1,fun a ha=>hI.2.1 a (j2 a ha),H21 (fun st' h' y hy hu=>hI.2.1 _ (j3 st' h' y hy hu)) hI.2.2⟩)
     obtain⟨k1,k2,k3⟩:=hI
     have hy:y∈st2:=by rw [e]; simp
     obtain⟨m1,c1,hm1,hc1⟩:=(hs.each st2 hst2 y hy).2
     have hup:upon s x.Slot y.Slot ↔ (0≤j17∧c1.Deck=true∧H03 s c1=j17):=by
      constructor
      ·rintro⟨n0,d0,n1,d1,e1,e2,e3,e4,q1,q2,q3,q4⟩
       have e5:n0=m0:=by omega
       have e6:n1=m1:=by omega
       subst e5 e6
       rw [hc0] at e2; cases e2
       rw [hc1] at e4; cases e4
       rw [if_neg (by rw [q1]; exact Bool.false_ne_true)] at h17
       rw [h17]
       exact⟨q3,q2,q4⟩
      ·rintro⟨q1,q2,q3⟩
       by_cases hd:c0.Deck=true
       ·rw [if_pos hd] at h17; omega
       ·rw [if_neg hd] at h17
        exact⟨m0,c0,m1,c1,hm0,hc0,hm1,hc1,by simpa using hd,q2,by omega,by omega⟩
     refine Y6 (fun j=>Rch s U states l id j.1 j.2∧(∀ a∈s107.2,a∈j.2)∧(upon s x.Slot y.Slot→y.Gr∈j.2)) (fun K' hK'=>?_) (fun j hj=>hnx2 _ ⟨hj.1,fun a ha=>hj.2.1 a (k2 a ha),H21 (fun y' h' ho=>hj.2.1 _ (k3 y' h' ho)) hj.2.2⟩)
     by_cases hj:0≤j17
     ·rw [decide_eq_true hj]
      simp only [cond_true,Bool.true_and]
      refine Hd (Jq hm1 hc1 (Gw ?_))
      cases hd:c1.Deck with
      | true=>
       simp only [cond_true,Bool.true_and]
       rw [hm1]
       refine H6 (hcov hc1) (Hq (fun hc=>?_) (fun hc=>hK' _ ⟨k1,fun a ha=>ha,fun hu=>?_⟩))
       ·exact Hd (wp_mono (again y st2 _ _ hst2 hy k1 ⟨st,hst,hft,.inr ⟨st2,hst2,y,hy,rfl,by rw [hxs]; exact hup.2 ⟨hj,hd,of_decide_eq_true hc⟩⟩⟩) (fun r hr=>hK' _ ⟨hr.1,hr.2.1,fun _=>hr.2.2⟩))
       ·exact(of_decide_eq_false hc (hup.1 hu).2.2).elim
      | false=>
       simp only [cond_false,Bool.false_and]
       exact Hd (Gw (hK' _ ⟨k1,fun a ha=>ha,fun hu=>by have:=(hup.1 hu).2.1; rw [hd] at this; cases this⟩))
     ·rw [decide_eq_false hj]
      simp only [cond_false,Bool.false_and]
      exact Hd (Gw (Hd (Gw (hK' _ ⟨k1,fun a ha=>ha,fun hu=>(hj (hup.1 hu).1).elim⟩))))
    ·rcases hb.2 with ⟨y,hy,rfl,ho⟩ | ⟨st2,h2,y,hy,rfl,hu⟩
     ·exact hI.2.1 _ (i3 y hy (by rw [← hxs]; exact ho))
     ·exact hI.2.2 st2 h2 y hy (by rw [← hxs]; exact hu)
  ·obtain⟨hR,hD⟩:=hI
   refine⟨hR.inv,fun a ha=>hR.sub a (List.mem_append.2 (.inl ha)),hR.sub id (by simp),fun a ha hn b hb=>?_,hR.least⟩
   by_cases e:a=id
   ·subst e
    obtain⟨st,hst,hp⟩:=hb
    exact hD st hst b hp
   ·exact hR.closed a ha hn e b hb
structure H72 (s:Hc) (before after:List G7) (l:List Int):Prop where
 seeds:∀ st∈[before,after],∀ y∈st,Qm before y.Gr≠Qm after y.Gr→y.Gr∈l
 closed:∀ a∈l,∀ b,G56 s [before,after] a b→b∈l
 least:∀ C:Int→Prop,(∀ a b,C a→G56 s [before,after] a b→C b)→(∀ st∈[before,after],∀ y∈st,Qm before y.Gr≠Qm after y.Gr→C y.Gr)→∀ a∈l,C a
theorem H72.perm {s:Hc} {before after:List G7} {l l':List Int} (h:H72 s before after l) (hp:∀ a,a∈l' ↔ a∈l):H72 s before after l':=
 ⟨fun st hst y hy hne=>(hp _).2 (h.seeds st hst y hy hne),fun a ha b hb=>(hp b).2 (h.closed a ((hp a).1 ha) b hb),fun C hc hl a ha=>h.least C hc hl a ((hp a).1 ha)⟩
theorem differ {p q:Slot×Bool}:((!(p.2==q.2))||(!decide (p.1=q.1)))=true ↔ p≠q:=by
 obtain⟨p1,p2⟩:=p
 obtain⟨q1,q2⟩:=q
 simp only [Bool.or_eq_true,Bool.not_eq_true',beq_eq_false_iff_ne,decide_eq_false_iff_not,ne_eq,Prod.mk.injEq,not_and]
 constructor
 ·rintro(h | h) h1 h2
  ·exact h h2
  ·exact h h1
 ·intro h
  by_cases e:p1=q1
  ·exact .inl (h e)
  ·exact .inr e
theorem lifted_full {s:Hc} {U:List Int} {before after:List G7} (hs:H6f s U [before,after]) {F:Nat} (hF:U.length+1≤F) :
  Wp (Y4 F s before after) (fun r=>r.Pairwise (· < ·)∧(∀ a∈r,a∈U)∧H72 s before after r):=by
 unfold Y4
 have go:∀ {m:Gu Int Unit} {l:List Int} {y:G7} {st:List G7} {m2:Gu Int Unit} {l2:List Int},st∈[before,after]→y∈st→Qm before y.Gr≠Qm after y.Gr →
   (G6c U m l∧(∀ a∈l,∀ b,G56 s [before,after] a b→b∈l)∧∀ C:Int→Prop,(∀ a b,C a→G56 s [before,after] a b→C b)→(∀ st∈[before,after],∀ y∈st,Qm before y.Gr≠Qm after y.Gr→C y.Gr)→∀ a∈l,C a) →
   Grown s U [before,after] l y.Gr m2 l2 →
   (G6c U m2 l2∧(∀ a∈l2,∀ b,G56 s [before,after] a b→b∈l2)∧∀ C:Int→Prop,(∀ a b,C a→G56 s [before,after] a b→C b)→(∀ st∈[before,after],∀ y∈st,Qm before y.Gr≠Qm after y.Gr→C y.Gr)→∀ a∈l2,C a):=
  fun {m l y st m2 l2} hst hy hne hI g=>⟨g.inv,fun a ha b hb=>by
   by_cases hal:a∈l
   ·exact g.sub b (hI.2.1 a hal b hb)
   ·exact g.closed a ha hal b hb,fun C hc hl=>g.least C hc (hI.2.2 C hc hl) (hl st hst y hy hne)⟩
 refine J6 (fun pre s9=>(G6c U s9.1 s9.2∧(∀ a∈s9.2,∀ b,G56 s [before,after] a b→b∈s9.2)∧∀ C:Int→Prop,(∀ a b,C a→G56 s [before,after] a b→C b)→(∀ st∈[before,after],∀ y∈st,Qm before y.Gr≠Qm after y.Gr→C y.Gr)→∀ a∈s9.2,C a) ∧
   ∀ st∈pre,∀ y∈st,Qm before y.Gr≠Qm after y.Gr→y.Gr∈s9.2)
  ⟨⟨.start,fun a h=>(List.not_mem_nil h).elim,fun C _ _ a h=>(List.not_mem_nil h).elim⟩,fun st h=>(List.not_mem_nil h).elim⟩ (fun pre st post s9 nx e hI hnx=>?_) (fun s9 hI=>?_)
 ·have hst:st∈[before,after]:=by rw [e]; simp
  obtain⟨hA,hB⟩:=hI
  refine J6 (fun pre s59=>(G6c U s59.1 s59.2∧(∀ a∈s59.2,∀ b,G56 s [before,after] a b→b∈s59.2)∧∀ C:Int→Prop,(∀ a b,C a→G56 s [before,after] a b→C b)→(∀ st∈[before,after],∀ y∈st,Qm before y.Gr≠Qm after y.Gr→C y.Gr)→∀ a∈s59.2,C a) ∧
    (∀ a∈s9.2,a∈s59.2)∧∀ y∈pre,Qm before y.Gr≠Qm after y.Gr→y.Gr∈s59.2)
   ⟨hA,fun a ha=>ha,fun y h=>(List.not_mem_nil h).elim⟩ (fun pre y post s59 nx2 e hI hnx2=>?_) (fun s59 hI=>hnx _ ⟨hI.1,H21 (fun st' h' y hy hne=>hI.2.1 _ (hB st' h' y hy hne)) hI.2.2⟩)
  have hy:y∈st:=by rw [e]; simp
  obtain⟨j1,j2,j3⟩:=hI
  refine Y6 (fun j=>(G6c U j.1 j.2∧(∀ a∈j.2,∀ b,G56 s [before,after] a b→b∈j.2)∧∀ C:Int→Prop,(∀ a b,C a→G56 s [before,after] a b→C b)→(∀ st∈[before,after],∀ y∈st,Qm before y.Gr≠Qm after y.Gr→C y.Gr)→∀ a∈j.2,C a) ∧
    (∀ a∈s59.2,a∈j.2)∧(Qm before y.Gr≠Qm after y.Gr→y.Gr∈j.2)) (fun K hK=>?_) (fun j hj=>hnx2 _ ⟨hj.1,fun a ha=>hj.2.1 a (j2 a ha),H21 (fun y' h' ho=>hj.2.1 _ (j3 y' h' ho)) hj.2.2⟩)
  refine H6 (G70 before y.Gr) (H6 (G70 after y.Gr) (Hq (fun hd=>?_) (fun hd=>hK _ ⟨j1,fun a ha=>ha,fun hne=>?_⟩)))
  ·have hne:=differ.1 hd
   exact Hd (wp_mono (add_full hs F y.Gr _ _ j1.1 (hs.each st hst y hy).1 (by omega)) (fun r hr=>hK _ ⟨go hst hy hne j1 hr,hr.sub,fun _=>hr.has⟩))
  ·rw [differ.2 hne] at hd; cases hd
 ·obtain⟨⟨hA,hB,hC⟩,hD⟩:=hI
  have h1:=hA.le
  have h2:=hs.len
  have hse:H5c s9.2=some (G7d s9.2):=by
   unfold H5c
   rw [decide_eq_true (show s9.2.length < 4611686018427387904 by omega)]
   rfl
  have hp:=Gdb s9.2
  refine H6 hse (Gw ⟨?_,fun a ha=>hA.sub a (hp.mem_iff.1 ha),H72.perm ⟨hD,hB,hC⟩ (fun a=>hp.mem_iff)⟩)
  have hn:(G7d s9.2).Nodup:=hp.nodup_iff.2 hA.nodup
  exact(List.pairwise_and_iff.2 ⟨H38 s9.2,hn⟩).imp (fun {a b} h=>by have h1:=h.1; have h2:=h.2; omega)
theorem J7a {α:Type} {a b x:α} (h:x∈[a,b]):x∈[b,a]:=by
 simp only [List.mem_cons,List.not_mem_nil,or_false] at h ⊢
 exact h.symm
theorem G56.swap {s:Hc} {a b:List G7} {x y:Int} (h:G56 s [a,b] x y):G56 s [b,a] x y:=by
 obtain⟨st,hst,h1,h2⟩:=h
 exact⟨st,J7a hst,h1,h2.imp _root_.id (fun⟨st2,h3,h4⟩=>⟨st2,J7a h3,h4⟩)⟩
theorem H72.le {s:Hc} {before after:List G7} {l l':List Int} (h:H72 s before after l) (h':H72 s after before l'):∀ a∈l,a∈l':=
 h.least (·∈l') (fun a b ha hb=>h'.closed a ha b hb.swap) (fun st hst y hy hne=>h'.seeds st (J7a hst) y hy (fun e=>hne e.symm))
section
variable {s:Hc} {boxes:List Gr} {before after:List G7} {r:List Int}
end
end Go.Proofs.YteoeccjboahfgaaGreat
