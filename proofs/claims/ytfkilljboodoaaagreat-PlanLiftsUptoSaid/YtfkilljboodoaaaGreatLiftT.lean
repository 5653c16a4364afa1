/-
 When a state is right,and which boxes are lifted: what the program says.
-/
import Derived.Test.YtfkilljboodoaaaGreatShipT
set_option maxRecDepth 100000
namespace Go.Proofs.YtfkilljboodoaaaGreat
open Go.RowKit

theorem room_ok {n k:Nat} (hn:n≤1000001) (hk:k≤1000):decide (n*k≤140737488355328∧n≤maxLen)=true:=by
 have h:n*k≤1000001*1000:=Nat.mul_le_mul hn hk
 have h2:n≤maxLen:=Nat.le_trans hn (by decide)
 exact decide_eq_true ⟨by omega,h2⟩
theorem H33 {α β:Type} {x:α} {k:α→Option β}:bnd (some x) k=k x:=rfl
/-- The place of the first element at which p holds, -1 if there is none. -/
def H84 {α:Type} (p:α→Bool) (l:List α):Int:=match l.findIdx? p with
 | some j=>(j:Int)
 | none => -1
theorem H88 {α:Type} {p:α→Bool} {f:α→Option Bool} {xs:List α} (hf:∀ x∈xs,f x=some (p x)) :
  each (fun y i (_:Unit) nx=>bnd (f y) fun r=>bif r then some (i:Int) else nx ()) (fun _=>some (-1)) xs 0 ()=some (H84 p xs):=by
 have key:∀ (xs:List α),(∀ x∈xs,f x=some (p x))→∀ i:Nat,each (fun y i (_:Unit) nx=>bnd (f y) fun r=>bif r then some (i:Int) else nx ()) (fun _=>some (-1)) xs i ()=some (match xs.findIdx? p with
  | some j=>((i+j:Nat):Int)
  | none => -1):=by
  intro xs
  induction xs with
  | nil=>intro _ i; rfl
  | cons x xs ih=>
   intro hf i
   rw [each,hf x (List.mem_cons_self ..),H33,List.findIdx?_cons]
   cases p x with
   | true=>simp
   | false=>
    simp only [cond_false]
    rw [ih (fun y hy=>hf y (List.mem_cons_of_mem _ hy)) (i+1)]
    cases xs.findIdx? p with
    | none=>simp
    | some j=>show some (((i+1+j:Nat)):Int)=some (((i+(j+1):Nat)):Int); rw [show i+1+j=i+(j+1) by omega]
 rw [key xs hf 0]
 unfold H84
 cases xs.findIdx? p <;> simp
theorem H56 {α:Type} (p:α→Bool) (l:List α):(H84 p l = -1∧(∀ x∈l,p x=false)∧l.find? p=none)∨∃ (m:Nat) (x:α),H84 p l=(m:Int)∧l[m]? = some x∧p x=true∧l.find? p=some x:=by
 unfold H84
 cases h:l.findIdx? p with
 | none=>
  have:=List.findIdx?_eq_none_iff.1 h
  exact .inl ⟨rfl,this,List.find?_eq_none.2 (fun x hx=>by rw [this x hx]; simp)⟩
 | some j=>
  obtain⟨hj,h1,h2⟩:=List.findIdx?_eq_some_iff_getElem.1 h
  refine .inr ⟨j,l[j],rfl,by simp [hj],h1,?_⟩
  refine List.find?_eq_some_iff_getElem.2 ⟨h1,j,hj,rfl,fun k hk=>?_⟩
  simpa using h2 k hk
theorem J34 {α:Type} {p:α→Bool} {l:List α}:decide (0≤H84 p l)=l.any p:=by
 rcases H56 p l with ⟨h1,h2,_⟩ | ⟨m,x,h1,h2,h3,_⟩
 ·rw [h1]
  refine Eq.symm (List.any_eq_false.2 fun x hx=>?_)
  rw [h2 x hx]; exact Bool.false_ne_true
 ·rw [h1,decide_eq_true (by omega)]
  exact(List.any_eq_true.2 ⟨x,List.mem_of_getElem? h2,h3⟩).symm
def G3d (boxes:List Gv) (id:Int):Option Gv:=boxes.find? (fun b=>decide (b.ID=id))
theorem stow_find (boxes:List Gv) (id:Int):G88 boxes id=some (match G3d boxes id with
  | some b=>(b,true)
  | none=>(Gv.mk 0 ByteArray.empty 0 false 0 0 0 0 false,false)):=by
 unfold G88
 have h:Ze boxes (fun z0=>G74 z0 id)=some (H84 (fun b:Gv=>decide (b.ID=id)) boxes):=H88 (fun x _=>rfl)
 rw [h]
 simp only [H33]
 unfold G3d
 rcases H56 (fun b:Gv=>decide (b.ID=id)) boxes with ⟨h1,_,h3⟩ | ⟨m,x,h1,h2,_,h4⟩
 ·rw [h1,h3]; rfl
 ·rw [h1,h4,decide_eq_false (by omega),cond_false]
  unfold Q3
  rw [decide_eq_true (by omega),cond_true,show (m:Int).toNat=m by omega,h2]
  rfl
def J7e (l:List G6) (id:Int):Option G6:=l.find? (fun x=>decide (x.Gv=id))
def He5 (size:Int):List Int:=if size=40 then [0] else if size=20 then [1,2] else []
theorem slot_halves (size:Int):G75 size=some (He5 size):=by
 unfold G75 He5
 by_cases h:size=40
 ·simp [h]
 ·by_cases h2:size=20
  ·simp [h2]
  ·simp [h,h2]
theorem contains8 (l:List Int) (v:Int):Yy l v=some (l.any (fun y=>decide (v=y))):=by
 unfold Yy
 have h:Zw l v=some (H84 (fun y=>decide (v=y)) l):=by
  unfold Zw
  exact H88 (f:=fun y=>some (decide (v=y))) (fun x _=>rfl)
 rw [h]
 simp only [H33]
 rw [J34]
theorem containsSlot (l:List Slot) (v:Slot):Ya l v=some (l.any (fun y=>decide (v=y))):=by
 unfold Ya
 have h:Za l v=some (H84 (fun y=>decide (v=y)) l):=by
  unfold Za
  exact H88 (f:=fun y=>some (decide (v=y))) (fun x _=>rfl)
 rw [h]
 simp only [H33]
 rw [J34]
/-- There is such a slot in the ship, for boxes of a size. -/
structure J08 (s:Hb) (x:Slot) (size:Int):Prop where
 col:∃ (m:Nat) (c:G4),x.G4=(m:Int)∧s.Columns[m]? = some c∧x.Tier < c.Tiers
 tier:0≤x.Tier
 half:x.Half∈He5 size
theorem slot_right (s:Hb) (x:Slot) (size:Int):Wp (G9a s x size) (fun r=>r=true ↔ J08 s x size):=by
 unfold G9a
 by_cases h0:0≤x.G4∧x.G4 < (s.Columns.length:Int)
 ·by_cases h1:0≤x.Tier
  ·obtain⟨m,hm⟩:∃ m:Nat,x.G4=(m:Int):=⟨x.G4.toNat,by omega⟩
   have hml:m < s.Columns.length:=by omega
   have hc:s.Columns[m]? = some s.Columns[m]:=by simp [hml]
   have e:(((decide (0≤x.G4))&&(decide (x.G4 < (s.Columns.length:Int))))&&(decide (0≤x.Tier)))=true:=by simp [h0.1,h0.2,h1]
   simp only [e,cond_true,Bool.true_and]
   refine H6 (H42 hm hc (Gi ?_))
   by_cases h2:x.Tier < (s.Columns[m]).Tiers
   ·rw [decide_eq_true h2]
    simp only [cond_true]
    refine H5 (slot_halves size) (H5 (contains8 _ _) (Gi ?_))
    rw [Bool.true_and,List.any_eq_true]
    constructor
    ·rintro⟨y,hy,he⟩
     have:=of_decide_eq_true he
     subst this
     exact⟨⟨m,_,hm,hc,h2⟩,h1,hy⟩
    ·exact fun h=>⟨_,h.half,by simp⟩
   ·rw [decide_eq_false h2]
    simp only [cond_false,Bool.false_and]
    refine H6 (Gi (H6 (Gi (Gi ⟨fun h=>(by cases h),fun h=>?_⟩))))
    obtain⟨m',c,g1,g2,g3⟩:=h.col
    have:m'=m:=by omega
    subst this
    rw [hc] at g2; cases g2
    exact(h2 g3).elim
  ·simp only [decide_eq_false h1,Bool.and_false,cond_false,Bool.false_and]
   exact H6 (Gi (H6 (Gi (H6 (Gi (Gi ⟨fun h=>(by cases h),fun h=>(h1 h.tier).elim⟩))))))
 ·have e:((decide (0≤x.G4))&&(decide (x.G4 < (s.Columns.length:Int))))=false:=by
   by_cases h:0≤x.G4
   ·have:¬ x.G4 < (s.Columns.length:Int):=fun g=>h0 ⟨h,g⟩
    simp [this]
   ·simp [h]
  simp only [e,Bool.false_and,cond_false]
  refine H6 (Gi (H6 (Gi (H6 (Gi (Gi ⟨fun h=>(by cases h),fun h=>?_⟩))))))
  obtain⟨m,c,g1,g2,_⟩:=h.col
  have:=(List.getElem?_eq_some_iff.1 g2).1
  exact(h0 (by omega)).elim
/-- What holds a slot. -/
def below (l:List Slot) (x:Slot) (half:Int):Prop:=(⟨x.G4,x.Tier - 1,half⟩:Slot)∈l
def J39 (x:Slot) (l:List Slot):Prop:=x.Tier≤0∨below l x x.Half∨(x.Half=0∧below l x 1∧below l x 2)
theorem Hbe (half:Int) (l:List Slot) (x:Slot) (ht : -1000000≤x.Tier∧x.Tier≤1000000):Wp (G2d half l x) (fun r=>r=true ↔ below l x half):=by
 unfold G2d
 refine G2a ⟨by omega,by omega⟩ (H5 (containsSlot _ _) (Gi ?_))
 rw [List.any_eq_true]
 constructor
 ·rintro⟨y,hy,he⟩
  have:=of_decide_eq_true he
  subst this
  exact hy
 ·exact fun h=>⟨_,h,by simp⟩
theorem slot_held (x:Slot) (l:List Slot) (ht : -1000000≤x.Tier∧x.Tier≤1000000):Wp (Gbc x l) (fun r=>r=true ↔ J39 x l):=by
 unfold Gbc J39
 refine Jg (fun h=>Gi ⟨fun _=>.inl (of_decide_eq_true h),fun _=>rfl⟩) (fun h=>?_)
 have h0:=of_decide_eq_false h
 refine H6 (wp_mono (Hbe x.Half l x ht) (fun r7 h7=>?_))
 cases r7 with
 | true=>
  simp only [Bool.not_true,Bool.false_and,cond_false,Bool.true_or]
  exact H6 (Gi (H6 (Gi (Gi ⟨fun _=>.inr (.inl (h7.1 rfl)),fun _=>rfl⟩))))
 | false=>
  have h7':¬ below l x x.Half:=fun h=>by have:=h7.2 h; cases this
  simp only [Bool.not_false,Bool.true_and,Bool.false_or]
  by_cases hh:x.Half=0
  ·rw [decide_eq_true hh]
   simp only [cond_true,Bool.true_and]
   refine H6 (wp_mono (Hbe 1 l x ht) (fun r8 h8=>?_))
   cases r8 with
   | true=>
    simp only [cond_true,Bool.true_and]
    refine H6 (wp_mono (Hbe 2 l x ht) (fun r9 h9=>Gi ⟨fun h=>.inr (.inr ⟨hh,h8.1 rfl,h9.1 h⟩),fun h=>?_⟩))
    rcases h with h | h | ⟨_,_,h⟩
    ·exact(h0 h).elim
    ·exact(h7' h).elim
    ·exact h9.2 h
   | false=>
    simp only [cond_false,Bool.false_and]
    refine H6 (Gi (Gi ⟨fun h=>(by cases h),fun h=>?_⟩))
    rcases h with h | h | ⟨_,h,_⟩
    ·exact(h0 h).elim
    ·exact(h7' h).elim
    ·have:=h8.2 h; cases this
  ·rw [decide_eq_false hh]
   simp only [cond_false,Bool.false_and]
   refine H6 (Gi (H6 (Gi (Gi ⟨fun h=>(by cases h),fun h=>?_⟩))))
   rcases h with h | h | ⟨h,_⟩
   ·exact(h0 h).elim
   ·exact(h7' h).elim
   ·exact(hh h).elim
def H17 (a b:Int):Prop:=a=b∨a=0∨b=0
theorem J2b (a b:Int):Wp (G4e a b) (fun r=>r=true ↔ H17 a b):=by
 unfold G4e H17
 refine Gi ?_
 simp [or_assoc]
def H62 (a b:Slot):Prop:=a.G4=b.G4∧a.Tier=b.Tier∧H17 a.Half b.Half
theorem slot_meet (a b:Slot):Wp (Gbb a b) (fun r=>r=true ↔ H62 a b):=by
 unfold Gbb H62
 by_cases h:a.G4=b.G4∧a.Tier=b.Tier
 ·simp only [decide_eq_true h.1,decide_eq_true h.2,Bool.and_self,cond_true,Bool.true_and]
  exact H6 (wp_mono (J2b _ _) (fun r hr=>Gi ⟨fun e=>⟨h.1,h.2,hr.1 e⟩,fun e=>hr.2 e.2.2⟩))
 ·have e:(decide (a.G4=b.G4)&&decide (a.Tier=b.Tier))=false:=by
   by_cases h1:a.G4=b.G4
   ·have:¬ a.Tier=b.Tier:=fun h2=>h ⟨h1,h2⟩
    simp [this]
   ·simp [h1]
  simp only [e,cond_false,Bool.false_and]
  exact H6 (Gi (Gi ⟨fun e=>(by cases e),fun e=>(h ⟨e.1,e.2.1⟩).elim⟩))
def Hee (a b:Slot):Prop:=a.G4=b.G4∧b.Tier < a.Tier∧H17 a.Half b.Half
theorem slot_over (a b:Slot):Wp (Gba a b) (fun r=>r=true ↔ Hee a b):=by
 unfold Gba Hee
 by_cases h:a.G4=b.G4∧b.Tier < a.Tier
 ·simp only [decide_eq_true h.1,decide_eq_true h.2,Bool.and_self,cond_true,Bool.true_and]
  exact H6 (wp_mono (J2b _ _) (fun r hr=>Gi ⟨fun e=>⟨h.1,h.2,hr.1 e⟩,fun e=>hr.2 e.2.2⟩))
 ·have e:(decide (a.G4=b.G4)&&decide (b.Tier < a.Tier))=false:=by
   by_cases h1:a.G4=b.G4
   ·have:¬ b.Tier < a.Tier:=fun h2=>h ⟨h1,h2⟩
    simp [this]
   ·simp [h1]
  simp only [e,cond_false,Bool.false_and]
  exact H6 (Gi (Gi ⟨fun e=>(by cases e),fun e=>(h ⟨e.1,e.2.1⟩).elim⟩))
/-- The height of what stands in a half of a column. -/
def tallI (b:Gv):Int:=if b.High then 2896 else 2591
def Hca (boxes:List Gv) (column half:Int) (n:Int) (x:G6):Int:=
 if x.Slot.G4=column∧(x.Slot.Half=half∨x.Slot.Half=0) then (match G3d boxes x.Gv with | some b=>n+tallI b | none=>n) else n
def G4f (boxes:List Gv) (l:List G6) (column half:Int):Int:=l.foldl (Hca boxes column half) 0
theorem addH_le {boxes:List Gv} {column half n:Int} {x:G6}:n≤Hca boxes column half n x∧Hca boxes column half n x≤n+2896:=by
 unfold Hca tallI
 split
 ·split
  ·split <;> omega
  ·omega
 ·omega
theorem J29 (boxes:List Gv) (l:List G6) (column half:Int) (hl:l.length≤1000000):G4d boxes l column half=some (G4f boxes l column half):=by
 refine G6b ?_
 unfold G4d G4f
 refine Qg (fun pre n=>n=pre.foldl (Hca boxes column half) 0∧0≤n∧n≤2896*pre.length) ⟨rfl,Int.le_refl _,by simp⟩ (fun pre y post n nx e hn hnx=>?_) (fun n hn=>Gi hn.1)
 obtain⟨rfl,h1,h2⟩:=hn
 have hp:pre.length+1≤l.length:=by rw [e]; simp
 have ha:=addH_le (boxes:=boxes) (column:=column) (half:=half) (n:=pre.foldl (Hca boxes column half) 0) (x:=y)
 have hlen:((pre++[y]).length:Int)=pre.length+1:=by simp
 generalize hg:pre.foldl (Hca boxes column half) 0=n at *
 refine H60 (fun j=>j=Hca boxes column half n y) (fun K hK=>?_) (fun j hj=>hnx _ ⟨by rw [hj,List.foldl_append,hg]; rfl,by omega,by rw [hlen]; omega⟩)
 refine Jg (fun hc=>?_) (fun hc=>hK _ ?_)
 ·have hc':y.Slot.G4=column∧(y.Slot.Half=half∨y.Slot.Half=0):=by simpa using hc
  refine H5 (stow_find boxes y.Gv) ?_
  cases hf:G3d boxes y.Gv with
  | none=>exact Jg (fun h=>by cases h) (fun _=>hK _ (by unfold Hca; rw [if_pos hc',hf]))
  | some b=>
   refine Jg (fun _=>?_) (fun h=>by cases h)
   have ht:Gb8 b=some (tallI b):=by unfold Gb8 tallI; cases b.High <;> rfl
   have hadd:Hca boxes column half n y=n+tallI b:=by unfold Hca; rw [if_pos hc',hf]
   refine H5 ht (G2a ?_ (hK _ hadd.symm))
   rw [← hadd]
   omega
 ·have hc':¬ (y.Slot.G4=column∧(y.Slot.Half=half∨y.Slot.Half=0)):=by simpa using hc
  unfold Hca; rw [if_neg hc']
def J3c (boxes:List Gv) (l:List G6) (m:Nat) (c:G4):Prop:=c.Height≤0∨(G4f boxes l m 1≤c.Height∧G4f boxes l m 2≤c.Height)
theorem stow_fits {s:Hb} {boxes:List Gv} {l:List G6} {m:Nat} {c:G4} (hc:s.Columns[m]? = some c) (hl:l.length≤1000000):Wp (Gb9 s boxes l (m:Int)) (fun r=>r=true ↔ J3c boxes l m c):=by
 unfold Gb9 J3c
 refine H42 rfl hc ?_
 by_cases h:c.Height≤0
 ·simp only [decide_eq_true h,Bool.not_true,cond_false,Bool.false_and,Bool.true_or]
  exact H6 (Gi (H6 (Gi (Gi ⟨fun _=>.inl h,fun _=>rfl⟩))))
 ·simp only [decide_eq_false h,Bool.not_false,cond_true,Bool.true_and,Bool.false_or]
  refine H5 (J29 boxes l m 1 hl) ?_
  by_cases h1:G4f boxes l m 1≤c.Height
  ·rw [decide_eq_true h1]
   simp only [cond_true,Bool.true_and]
   exact H5 (J29 boxes l m 2 hl) (Gi ⟨fun e=>.inr ⟨h1,of_decide_eq_true e⟩,fun e=>decide_eq_true (e.elim (fun e=>(h e).elim) (·.2))⟩)
  ·rw [decide_eq_false h1]
   simp only [cond_false,Bool.false_and]
   exact H6 (Gi (Gi ⟨fun e=>(by cases e),fun e=>e.elim (fun e=>(h e).elim) (fun e=>(h1 e.1).elim)⟩))
theorem stow_taken (l:List G6) (hl:l.length≤1000000):G99 l=some (l.map (·.Slot)):=by
 refine G6b ?_
 unfold G99
 refine Qg (fun pre s=>s=pre.map (·.Slot)) rfl (fun pre y post s nx e hs hnx=>?_) (fun s hs=>Gi hs)
 subst hs
 have hp:pre.length+1≤l.length:=by rw [e]; simp
 exact G1d (room_ok (by simp only [List.length_map,List.length_singleton]; omega) (by omega)) (hnx _ (by simp))
structure Zk (s:Hb) (boxes:List Gv) (l:List G6):Prop where
 each:∀ x∈l,∃ b,G3d boxes x.Gv=some b∧J08 s x.Slot b.Size∧J39 x.Slot (l.map (·.Slot))
 sorted:l.Pairwise (fun a b=>a.Gv < b.Gv)
 apart:l.Pairwise (fun a b=>¬ H62 b.Slot a.Slot)
 fits:∀ m c,s.Columns[m]? = some c→J3c boxes l m c
theorem Hb5 {α:Type} {R:α→α→Prop} {l:List α} {x:α} (h:l.Pairwise R) (hx:∀ a∈l,R a x):(l++[x]).Pairwise R:=by
 rw [List.pairwise_append]
 refine⟨h,List.pairwise_singleton ..,fun a ha b hb=>?_⟩
 rw [List.mem_singleton] at hb; subst hb
 exact hx a ha
theorem H52 {α:Type} {R:α→α→Prop} {pre post:List α} {y:α} (h:(pre++y::post).Pairwise R):∀ a∈pre,R a y:=fun a ha=>(List.pairwise_append.1 h).2.2 a ha y (List.mem_cons_self ..)
theorem stow_right {s:Hb} {boxes:List Gv} {l:List G6} (hr:G3e s=some true) (ht:∀ c∈s.Columns,c.Tiers≤1000000) (hl:l.length≤1000000):Wp (G0b s boxes l) (fun r=>r=true ↔ Zk s boxes l):=by
 unfold G0b
 refine H5 hr (Jg (fun h=>by cases h) (fun _=>?_))
 refine H5 (stow_taken l hl) ?_
 refine Qg (fun pre _=>(∀ x∈pre,∃ b,G3d boxes x.Gv=some b∧J08 s x.Slot b.Size∧J39 x.Slot (l.map (·.Slot)))∧pre.Pairwise (fun a b=>a.Gv < b.Gv)∧pre.Pairwise (fun a b=>¬ H62 b.Slot a.Slot))
  ⟨fun x hx=>(List.not_mem_nil hx).elim,List.Pairwise.nil,List.Pairwise.nil⟩ (fun pre y post u nx e hI hnx=>?_) (fun u hI=>?_)
 ·obtain⟨i1,i2,i3⟩:=hI
  have hlen:pre.length < l.length:=by rw [e]; simp
  have hy:y∈l:=by rw [e]; simp
  have no:∀ {m:Option Bool},m=some false→¬ Zk s boxes l→Wp m (fun r=>r=true ↔ Zk s boxes l):=fun e h=>by subst e; exact Gi ⟨fun e=>(by cases e),fun e=>(h e).elim⟩
  refine H5 (stow_find boxes y.Gv) ?_
  cases hf:G3d boxes y.Gv with
  | none=>
   simp only [Bool.not_false,Bool.not_true,Bool.false_and,cond_false,Bool.true_or,cond_true]
   refine H6 (Gi (H6 (Gi (H6 (Gi (H6 (Gi (no rfl fun h=>?_))))))))
   obtain⟨b,hb,_⟩:=h.each y hy
   rw [hf] at hb; cases hb
  | some b=>
   simp only [Bool.not_true,Bool.not_false,Bool.true_and,Bool.false_or]
   -- the order
   have hprev:Wp (bif decide (0 < (pre.length:Int)) then G32 ((pre.length:Int) - 1) some else some 0) (fun v=>Wp (bif decide (0 < (pre.length:Int)) then Q3 l v some else some default) (fun y20=>
     ((decide (0 < (pre.length:Int))&&decide (y.Gv≤y20.Gv))=true→¬ Zk s boxes l)∧((decide (0 < (pre.length:Int))&&decide (y.Gv≤y20.Gv))=false→∀ a∈pre,a.Gv < y.Gv))):=by
    rcases List.eq_nil_or_concat pre with hp | ⟨pre',z,hp⟩
    ·subst hp
     simp only [List.length_nil]
     exact Gi (Gi ⟨fun h=>by simp at h,fun _ a ha=>(List.not_mem_nil ha).elim⟩)
    ·have hp':pre=pre'++[z]:=by simpa using hp
     have hpl:pre.length=pre'.length+1:=by rw [hp']; simp
     have hd:decide (0 < (pre.length:Int))=true:=decide_eq_true (by omega)
     have hz:l[pre'.length]? = some z:=by rw [e,hp']; simp
     rw [hd]
     simp only [cond_true,Bool.true_and]
     refine G2a ⟨by omega,by omega⟩ (Gi (H42 (m:=pre'.length) (by omega) hz (Gi ⟨fun h hR=>?_,fun h a ha=>?_⟩)))
     ·have:=of_decide_eq_true h
      have hs:=hR.sorted
      rw [e] at hs
      have:=H52 hs z (by rw [hp']; simp)
      omega
     ·have hzy:¬ y.Gv≤z.Gv:=of_decide_eq_false h
      rw [hp'] at ha
      rcases List.mem_append.1 ha with ha | ha
      ·have:=H52 (hp' ▸ i2:(pre'++z::[]).Pairwise _) a ha
       omega
      ·rw [List.mem_singleton] at ha; subst ha; omega
   refine H6 (wp_mono hprev (fun v hv=>H6 (wp_mono hv (fun y20 h20=>?_))))
   obtain⟨n1,n2⟩:=h20
   generalize (decide (0 < (pre.length:Int))&&decide (y.Gv≤y20.Gv))=c at n1 n2
   cases c with
   | true=>
    simp only [Bool.not_true,cond_false,Bool.true_or,cond_true]
    exact H6 (Gi (H6 (Gi (no rfl (n1 rfl)))))
   | false=>
    simp only [Bool.not_false,cond_true,Bool.false_or]
    have hsort:=n2 rfl
    refine H6 (wp_mono (slot_right s y.Slot b.Size) (fun r21 h21=>?_))
    cases r21 with
    | false=>
     simp only [Bool.not_false,Bool.not_true,cond_false,Bool.true_or,cond_true]
     refine H6 (Gi (no rfl fun h=>?_))
     obtain⟨b',hb,hs,_⟩:=h.each y hy
     rw [hf] at hb; cases hb
     have:=h21.2 hs; cases this
    | true=>
     have hslot:=h21.1 rfl
     simp only [Bool.not_true,Bool.not_false,cond_true,Bool.false_or]
     have htier : -1000000≤y.Slot.Tier∧y.Slot.Tier≤1000000:=by
      obtain⟨m,c,_,hc,h3⟩:=hslot.col
      have:=hslot.tier
      have:=ht c (List.mem_of_getElem? hc)
      omega
     refine H6 (wp_mono (slot_held y.Slot (l.map (·.Slot)) htier) (fun r22 h22=>?_))
     cases r22 with
     | false=>
      refine Jg (fun _=>no rfl fun h=>?_) (fun h=>by cases h)
      obtain⟨b',hb,_,hh⟩:=h.each y hy
      have:=h22.2 hh; cases this
     | true=>
      have hheld:=h22.1 rfl
      refine Jg (fun h=>by cases h) (fun _=>?_)
      refine H6 (J53 (m:=pre.length) rfl (by rw [List.length_map]; omega) ?_)
      have htk:(l.map (·.Slot)).take pre.length=pre.map (·.Slot):=by rw [← List.map_take,e,List.take_left']; rfl
      rw [htk]
      refine Qg (fun pr _=>∀ a∈pr,¬ H62 y.Slot a) (fun a ha=>(List.not_mem_nil ha).elim) (fun pr a pos u nx2 e2 hI2 hnx2=>?_) (fun u hI2=>hnx _ ⟨fun x hx=>?_,Hb5 i2 hsort,Hb5 i3 (fun a ha=>hI2 a.Slot (List.mem_map.2 ⟨a,ha,rfl⟩))⟩)
      ·refine H6 (wp_mono (slot_meet y.Slot a) (fun r48 h48=>?_))
       refine Jg (fun h=>no rfl fun hR=>?_) (fun h=>hnx2 _ (fun a' ha'=>?_))
       ·have hm:=h48.1 h
        have hin:a∈pre.map (·.Slot):=by rw [e2]; simp
        obtain⟨z,hz,rfl⟩:=List.mem_map.1 hin
        have ha:=hR.apart
        rw [e] at ha
        exact H52 ha z hz hm
       ·rcases List.mem_append.1 ha' with ha' | ha'
        ·exact hI2 a' ha'
        ·rw [List.mem_singleton] at ha'; subst ha'
         intro hm
         have:=h48.2 hm
         rw [this] at h; cases h
      ·rcases List.mem_append.1 hx with hx | hx
       ·exact i1 x hx
       ·rw [List.mem_singleton] at hx; subst hx
        exact⟨b,hf,hslot,hheld⟩
 ·obtain⟨i1,i2,i3⟩:=hI
  refine Qg (fun pre _=>∀ m c,m < pre.length→s.Columns[m]? = some c→J3c boxes l m c) (fun m c h=>(Nat.not_lt_zero m h).elim) (fun pre y post u nx e hI hnx=>?_) (fun u hI=>Gi ⟨fun _=>⟨i1,i2,i3,fun m c hc=>hI m c (List.getElem?_eq_some_iff.1 hc).1 hc⟩,fun _=>rfl⟩)
  have hc:s.Columns[pre.length]? = some y:=by rw [e]; simp
  refine H6 (wp_mono (stow_fits hc hl) (fun r hr=>?_))
  cases r with
  | false=>exact Jg (fun _=>Gi ⟨fun e=>(by cases e),fun h=>by have:=hr.2 (h.fits _ _ hc); cases this⟩) (fun h=>by cases h)
  | true=>
   refine Jg (fun h=>by cases h) (fun _=>hnx _ (fun m c hm hmc=>?_))
   rw [List.length_append,List.length_singleton] at hm
   rcases Nat.lt_or_ge m pre.length with h | h
   ·exact hI m c h hmc
   ·have:m=pre.length:=by omega
    subst this
    rw [hc] at hmc; cases hmc
    exact hr.1 rfl
section maps
variable {κ ν:Type} [DecidableEq κ]
theorem J81 (a:κ):Hu.has (Hu.empty:Hu κ ν) a=false:=rfl
theorem amap_has_put (m:Hu κ ν) (a b:κ) (v:ν):Hu.has (Hu.put m a v) b=(decide (a=b)||Hu.has m b):=by
 unfold Hu.has Hu.put
 have h:=H1b (l:=H01 m.l a v) (a:=b)
 have h2:=H1b (l:=m.l) (a:=b)
 rw [← h,mget_mput]
 by_cases e:a=b
 ·simp [e]
 ·simp [e,h2]
end maps
theorem J35 {α:Type} {l:List α} {wanted:α→Option Bool} {p:α→Bool} (hw:∀ x∈l,wanted x=some (p x)) (hl:l.length≤1000000) :
  each (fun y i (s:List Int) nx=>jp (fun kj=>bnd (wanted y) fun r=>bif r then (need (decide ((s.length+[(i:Int)].length)*8≤140737488355328∧s.length+[(i:Int)].length≤maxLen)) <| kj (s++[(i:Int)])) else (kj s)) fun(j:List Int)=>nx j)
   (fun s=>some s) l 0 []=some (H30 p l):=by
 refine G6b ?_
 refine Qg (fun pre s=>s=H30 p pre) rfl (fun pre x post s nx e hs hnx=>?_) (fun s hs=>Gi hs)
 subst hs
 have hpl:pre.length+1≤l.length:=by rw [e]; simp
 refine H60 (fun j=>j=H30 p (pre++[x])) (fun K hK=>?_) (fun j hj=>hnx _ hj)
 refine H5 (hw x (by rw [e]; simp)) (Jg (fun h=>G1d ?_ (hK _ ?_)) (fun h=>hK _ ?_))
 ·have:=idxs_length p pre
  exact room_ok (by rw [List.length_singleton]; omega) (by omega)
 ·rw [idxs_snoc,h]; rfl
 ·rw [idxs_snoc,h]; simp
theorem idxs_cons {α:Type} (p:α→Bool) (x:α) (l:List α):H30 p (x::l)=(if p x then [0] else [])++(H30 p l).map (·+1):=by
 unfold H30
 rw [List.zipIdx_cons',List.filter_cons]
 have h:(((l.zipIdx.map (Prod.map id (fun n:Nat=>n+1))).filter (fun y:α×Nat=>p y.1)).map (fun y:α×Nat=>(y.2:Int)))=((l.zipIdx.filter (fun y:α×Nat=>p y.1)).map (fun y:α×Nat=>(y.2:Int))).map (·+1):=by
  rw [List.filter_map,List.map_map,List.map_map]
  rfl
 by_cases hx:p x=true
 ·rw [if_pos (show p (x,0).fst=true from hx),if_pos hx,List.map_cons]
  exact congrArg (List.cons _) h
 ·rw [if_neg (show ¬ p (x,0).fst=true from hx),if_neg hx,List.nil_append]
  exact h
theorem idxs_head {α:Type} (p:α→Bool) (l:List α):(H30 p l).head? = match l.findIdx? p with
  | some j=>some (j:Int)
  | none=>none:=by
 induction l with
 | nil=>rfl
 | cons x l ih=>
  rw [idxs_cons,List.findIdx?_cons]
  by_cases hx:p x
  ·simp [hx]
  ·simp only [hx,if_false,Bool.false_eq_true,List.nil_append,List.head?_map,ih]
   cases l.findIdx? p <;> simp
theorem idxs_pos {α:Type} (p:α→Bool) (l:List α):decide (0 < ((H30 p l).length:Int))=l.any p:=by
 by_cases h:∀ x∈l,p x=false
 ·rw [idxs_nil.2 h]
  refine Eq.symm (List.any_eq_false.2 fun x hx=>?_)
  rw [h x hx]; exact Bool.false_ne_true
 ·have h1:H30 p l≠[]:=fun e=>h (idxs_nil.1 e)
  have h2:=List.length_pos_iff.2 h1
  rw [decide_eq_true (by omega)]
  refine Eq.symm (List.any_eq_true.2 ?_)
  refine Classical.byContradiction fun hn=>h fun x hx=>?_
  cases hc:p x with
  | false=>rfl
  | true=>exact(hn ⟨x,hx,hc⟩).elim
/-- A cover lies over a place. -/
def J42 (x:Gg) (c:G4):Bool:=decide (x.Bay=c.Bay)&&x.Rows.any (fun r=>decide (r=c.Row))
theorem ship_covers (x:Gg) (c:G4) (hl:x.Rows.length≤1000000):G76 x c=some (J42 x c):=by
 unfold G76 J42
 by_cases h:x.Bay=c.Bay
 ·have hc:G27 x.Rows (fun z0=>G45 z0 c)=some (H30 (fun r=>decide (r=c.Row)) x.Rows):=by
   unfold G27
   exact J35 (fun x _=>rfl) hl
  rw [decide_eq_true h]
  simp only [cond_true,Bool.true_and]
  rw [hc,H33,idxs_pos]
 ·rw [decide_eq_false h]
  rfl
def G50 (s:Hb) (c:G4):Int:=H84 (fun x=>J42 x c) s.Covers
theorem ship_coverOf {s:Hb} {m:Nat} {c:G4} (hc:s.Columns[m]? = some c) (hr:∀ x∈s.Covers,x.Rows.length≤1000000) (hl:s.Covers.length≤1000000):G18 s (m:Int)=some (G50 s c):=by
 have hm:=(List.getElem?_eq_some_iff.1 hc).1
 refine G6b ?_
 unfold G18
 refine Jg (fun h=>?_) (fun _=>?_)
 ·simp only [Bool.or_eq_true,decide_eq_true_eq] at h
  omega
 have hch:Zb s.Covers (fun z0=>G12 z0 s (m:Int))=some (H30 (fun x=>J42 x c) s.Covers):=by
  unfold Zb
  refine J35 (fun x hx=>G6b ?_) hl
  unfold G12
  exact H42 rfl hc (H5 (ship_covers x c (hr x hx)) (Gi rfl))
 refine H5 hch ?_
 have hh:=idxs_head (fun x=>J42 x c) s.Covers
 unfold G50 H84
 cases hf:s.Covers.findIdx? (fun x=>J42 x c) with
 | none=>
  rw [hf] at hh
  have h0:H30 (fun x=>J42 x c) s.Covers=[]:=List.head?_eq_none_iff.1 hh
  rw [h0]
  exact Gi rfl
 | some j=>
  rw [hf] at hh
  cases hi:H30 (fun x=>J42 x c) s.Covers with
  | nil=>rw [hi] at hh; cases hh
  | cons z r=>
   rw [hi] at hh
   simp only [List.head?_cons,Option.some.injEq] at hh
   subst hh
   refine Jg (fun h=>?_) (fun _=>H42 (m:=0) rfl rfl (Gi rfl))
   have:=of_decide_eq_true h
   simp only [List.length_cons] at this
   omega
/-- Boxes that are on board behind a call. -/
def abB (k:Int) (b:Gv):Bool:=decide (b.Load≤k)&&decide (k < b.Discharge)
def aboardL (boxes:List Gv) (k:Int):List Int:=(boxes.filter (abB k)).map (·.ID)
/-- The slot of a box in a state, and whether it is there. -/
def Qk (l:List G6) (id:Int):Slot×Bool:=match J7e l id with
 | some x=>(x.Slot,true)
 | none=>(⟨0,0,0⟩,false)
theorem Hfd (l:List G6) (id:Int):G28 l id=some (Qk l id):=by
 unfold G28
 have h:Yn l (fun z0=>G77 z0 id)=some (H84 (fun x:G6=>decide (x.Gv=id)) l):=H88 (fun x _=>rfl)
 rw [h]
 simp only [H33]
 unfold Qk J7e
 rcases H56 (fun x:G6=>decide (x.Gv=id)) l with ⟨h1,_,h3⟩ | ⟨m,x,h1,h2,_,h4⟩
 ·rw [h1,h3]; rfl
 ·rw [h1,h4,decide_eq_false (by omega),cond_false]
  unfold Q3
  rw [decide_eq_true (by omega),cond_true,show (m:Int).toNat=m by omega,h2]
  rfl
theorem Hc8 {l:List G6} {id:Int}:(Qk l id).2=true ↔ id∈l.map (·.Gv):=by
 unfold Qk
 cases h:J7e l id with
 | none=>
  refine⟨fun e=>(by cases e),fun e=>?_⟩
  obtain⟨x,hx,he⟩:=List.mem_map.1 e
  have:=List.find?_eq_none.1 h x hx
  simp [he] at this
 | some x=>
  refine⟨fun _=>?_,fun _=>rfl⟩
  have h1:=List.mem_of_find?_eq_some h
  have h2:=of_decide_eq_true (List.find?_some (p:=fun x:G6=>decide (x.Gv=id)) h)
  exact List.mem_map.2 ⟨x,h1,h2⟩
theorem Ha7 {l:List G6} {id:Int} (h:(Qk l id).2=true):∃ x∈l,x.Gv=id∧(Qk l id).1=x.Slot:=by
 unfold Qk at h ⊢
 cases hf:J7e l id with
 | none=>rw [hf] at h; cases h
 | some x=>exact⟨x,List.mem_of_find?_eq_some hf,of_decide_eq_true (List.find?_some (p:=fun x:G6=>decide (x.Gv=id)) hf),rfl⟩
/-- Ships whose covers and columns are few. -/
structure Small (s:Hb):Prop where
 right:G3e s=some true
 cols:1≤s.Columns.length∧s.Columns.length≤40
 tiers:∀ c∈s.Columns,c.Tiers≤100
 covs:s.Covers.length≤1000
 rows:∀ x∈s.Covers,x.Rows.length≤1000
def ColIn (s:Hb) (x:Slot):Prop:=∃ (m:Nat) (c:G4),x.G4=(m:Int)∧s.Columns[m]? = some c
structure Hae (U:List Int) (m:Hu Int Unit) (l:List Int):Prop where
 nodup:l.Nodup
 sub:∀ a∈l,a∈U
 has:∀ a,Hu.has m a=decide (a∈l)
theorem Hae.le {U:List Int} {m:Hu Int Unit} {l:List Int} (h:Hae U m l):l.length≤U.length:=h.nodup.length_le_of_subset (fun a ha=>h.sub a ha)
theorem Hae.start {U:List Int}:Hae U (Hu.empty:Hu Int Unit) []:=⟨List.nodup_nil,fun a ha=>(List.not_mem_nil ha).elim,fun a=>by simp [J81]⟩
theorem Hae.snoc {U:List Int} {m:Hu Int Unit} {l:List Int} (h:Hae U m l) {id:Int} (h1:id ∉ l) (h2:id∈U):Hae U (Hu.put m id ()) (l++[id]):=by
 refine⟨?_,fun a ha=>?_,fun a=>?_⟩
 ·rw [List.nodup_append]
  refine⟨h.nodup,by simp,fun a ha b hb=>?_⟩
  rw [List.mem_singleton] at hb; subst hb
  intro e; subst e; exact h1 ha
 ·rcases List.mem_append.1 ha with ha | ha
  ·exact h.sub a ha
  ·rw [List.mem_singleton] at ha; subst ha; exact h2
 ·rw [amap_has_put,h.has,Bool.eq_iff_iff]
  simp only [Bool.or_eq_true,decide_eq_true_eq,List.mem_append,List.mem_singleton]
  exact⟨fun h=>h.elim (fun e=>.inr e.symm) .inl,fun h=>h.elim .inr (fun e=>.inl e.symm)⟩
theorem set_add (m:Hu Int Unit) (k:Int):G19 m k=some (if Hu.has m k then (false,m) else (true,Hu.put m k ())):=by
 unfold G19
 cases Hu.has m k <;> rfl
structure J84 (s:Hb) (U:List Int) (states:List (List G6)):Prop where
 small:Small s
 each:∀ st∈states,∀ x∈st,x.Gv∈U∧ColIn s x.Slot
 len:U.length≤1000
structure BoxOk (calls:Int) (b:Gv):Prop where
 id:5≤b.ID∧b.ID≤999999
 size:b.Size=40∨(b.Size=20∧b.High=false)
 load:0≤b.Load
 stay:b.Load < b.Discharge
 out:b.Discharge < calls
structure BoxesOk (calls:Int) (boxes:List Gv):Prop where
 num:1≤calls∧calls≤20
 len:boxes.length≤8
 each:∀ b∈boxes,BoxOk calls b
 sorted:boxes.Pairwise (fun a b=>a.ID < b.ID)
theorem H4c {l:List Int} (h:l.Pairwise (· < ·)):l.Nodup:=h.imp (fun h=>by omega)
theorem BoxesOk.ids {calls:Int} {boxes:List Gv} (h:BoxesOk calls boxes):(boxes.map (·.ID)).Pairwise (· < ·):=List.pairwise_map.2 h.sorted
/-- A state of a plan that is right. -/
structure StateOk (s:Hb) (boxes:List Gv) (k:Int) (l:List G6):Prop where
 right:Zk s boxes l
 ids:l.map (·.Gv)=aboardL boxes k
theorem aboard_len (boxes:List Gv) (k:Int):(aboardL boxes k).length≤boxes.length:=by
 unfold aboardL
 rw [List.length_map]
 exact List.length_filter_le _ _
theorem StateOk.len {s:Hb} {boxes:List Gv} {k:Int} {l:List G6} (h:StateOk s boxes k l):l.length≤boxes.length:=by
 have:=congrArg List.length h.ids
 rw [List.length_map] at this
 rw [this]
 exact aboard_len boxes k
theorem Small.tier {s:Hb} (h:Small s):∀ c∈s.Columns,c.Tiers≤1000000:=fun c hc=>by have:=h.tiers c hc; omega
theorem Hbf {s:Hb} {x:Slot} {size:Int} (h:J08 s x size):ColIn s x:=by
 obtain⟨m,c,h1,h2,_⟩:=h.col
 exact⟨m,c,h1,h2⟩
theorem states_ok {s:Hb} {boxes:List Gv} {before after:List G6} (hs:Small s) (h1:Zk s boxes before) (h2:Zk s boxes after) (l1:before.length≤100) (l2:after.length≤100) :
  J84 s (before.map (·.Gv)++after.map (·.Gv)) [before,after]:=by
 refine⟨hs,fun st hst x hx=>?_,by simp only [List.length_append,List.length_map]; omega⟩
 simp only [List.mem_cons,List.not_mem_nil,or_false] at hst
 rcases hst with rfl | rfl
 ·obtain⟨b,_,hb,_⟩:=h1.each x hx
  exact⟨List.mem_append.2 (.inl (List.mem_map.2 ⟨x,hx,rfl⟩)),Hbf hb⟩
 ·obtain⟨b,_,hb,_⟩:=h2.each x hx
  exact⟨List.mem_append.2 (.inr (List.mem_map.2 ⟨x,hx,rfl⟩)),Hbf hb⟩
theorem rightP_nil {s:Hb} {boxes:List Gv}:Zk s boxes []:=⟨fun x hx=>(List.not_mem_nil hx).elim,List.Pairwise.nil,List.Pairwise.nil,fun m c _=>by
 unfold J3c G4f
 simp only [List.foldl_nil]
 omega⟩
theorem eq_of_sorted {a b:List Int} (ha:a.Pairwise (· < ·)) (hb:b.Pairwise (· < ·)) (h:∀ x,x∈a ↔ x∈b):a=b:=
 List.Perm.eq_of_pairwise (le:=fun x y:Int=>x < y) (fun x y _ _ h1 h2=>by omega) ha hb ((List.perm_ext_iff_of_nodup (H4c ha) (H4c hb)).2 h)
/-- A state in the making, behind a call. -/
structure VInv (s:Hb) (boxes:List Gv) (k:Int) (l:List G6):Prop where
 right:Zk s boxes l
 mem:∀ x∈l,∃ b∈boxes,b.ID=x.Gv∧abB k b=true
theorem VInv.nil {s:Hb} {boxes:List Gv} {k:Int}:VInv s boxes k []:=⟨rightP_nil,fun x hx=>(List.not_mem_nil hx).elim⟩
theorem VInv.len {s:Hb} {boxes:List Gv} {k:Int} {l:List G6} (h:VInv s boxes k l):l.length≤boxes.length:=by
 have h1:(l.map (·.Gv)).Pairwise (· < ·):=List.pairwise_map.2 h.right.sorted
 have:=(H4c h1).length_le_of_subset (l₂:=boxes.map (·.ID)) (fun a ha=>by
  obtain⟨x,hx,rfl⟩:=List.mem_map.1 ha
  obtain⟨b,hb,e,_⟩:=h.mem x hx
  exact List.mem_map.2 ⟨b,hb,e⟩)
 rw [List.length_map,List.length_map] at this
 exact this
/-- y stands on deck upon the cover that x stands under. -/
def upon (s:Hb) (x y:Slot):Prop:=∃ (m:Nat) (c:G4) (m1:Nat) (c1:G4),x.G4=(m:Int)∧s.Columns[m]? = some c∧y.G4=(m1:Int)∧s.Columns[m1]? = some c1∧c.Deck=false∧c1.Deck=true∧0≤G50 s c∧G50 s c1=G50 s c
def Gb1 (s:Hb) (states:List (List G6)) (st:List G6) (a b:Int):Prop:=
 (Qk st a).2=true∧((∃ y∈st,y.Gv=b∧Hee y.Slot (Qk st a).1)∨∃ st2∈states,∃ y∈st2,y.Gv=b∧upon s (Qk st a).1 y.Slot)
/-- To lift a, b has to be lifted. -/
def G26 (s:Hb) (states:List (List G6)) (a b:Int):Prop:=∃ st∈states,Gb1 s states st a b
structure Grown (s:Hb) (U:List Int) (states:List (List G6)) (l:List Int) (id:Int) (m:Hu Int Unit) (l':List Int):Prop where
 inv:Hae U m l'
 sub:∀ a∈l,a∈l'
 has:id∈l'
 closed:∀ a∈l',a ∉ l→∀ b,G26 s states a b→b∈l'
 least:∀ C:Int→Prop,(∀ a b,C a→G26 s states a b→C b)→(∀ a∈l,C a)→C id→∀ a∈l',C a
structure Rch (s:Hb) (U:List Int) (states:List (List G6)) (l:List Int) (id:Int) (m:Hu Int Unit) (l':List Int):Prop where
 inv:Hae U m l'
 sub:∀ a∈l++[id],a∈l'
 closed:∀ a∈l',a ∉ l→a≠id→∀ b,G26 s states a b→b∈l'
 least:∀ C:Int→Prop,(∀ a b,C a→G26 s states a b→C b)→(∀ a∈l,C a)→C id→∀ a∈l',C a
section
variable {s:Hb} {U:List Int} {states:List (List G6)} {l l' l2:List Int} {id y:Int} {m m2:Hu Int Unit}
theorem Rch.start (h:Hae U m (l++[id])):Rch s U states l id m (l++[id]):=
 ⟨h,fun a ha=>ha,fun a ha h1 h2=>by
  rcases List.mem_append.1 ha with ha | ha
  ·exact(h1 ha).elim
  ·exact(h2 (List.mem_singleton.1 ha)).elim,fun C _ hl hid a ha=>by
  rcases List.mem_append.1 ha with ha | ha
  ·exact hl a ha
  ·exact List.mem_singleton.1 ha ▸ hid⟩
theorem Rch.step (h:Rch s U states l id m l') (hp:G26 s states id y) (g:Grown s U states l' y m2 l2):Rch s U states l id m2 l2∧(∀ a∈l',a∈l2)∧y∈l2:=
 ⟨⟨g.inv,fun a ha=>g.sub a (h.sub a ha),fun a ha h1 h2 b hb=>by
  by_cases hal:a∈l'
  ·exact g.sub b (h.closed a hal h1 h2 b hb)
  ·exact g.closed a ha hal b hb,fun C hc hl hid=>g.least C hc (h.least C hc hl hid) (hc id y hid hp)⟩,g.sub,g.has⟩
end
theorem H2f {α:Type} {P:α→Prop} {l:List α} {x:α} (h1:∀ y∈l,P y) (h2:P x):∀ y∈l++[x],P y:=fun y hy=>by
 rcases List.mem_append.1 hy with hy | hy
 ·exact h1 y hy
 ·exact List.mem_singleton.1 hy ▸ h2
theorem add_full {s:Hb} {U:List Int} {states:List (List G6)} (hs:J84 s U states):∀ (F:Nat) (id:Int) (m:Hu Int Unit) (l:List Int),Hae U m l→id∈U→U.length+1≤F+l.length →
  Wp (G02 F id m l states s) (fun r=>Grown s U states l id r.1 r.2):=by
 intro F
 induction F with
 | zero=>intro id m l hi _ hF; have:=hi.le; omega
 | succ F ih=>
  intro id m l hi hid hF
  show Wp (G46 (G02 F) F id m l states s) _
  unfold G46
  refine H5 (set_add m id) ?_
  rw [hi.has]
  by_cases hmem:id∈l
  ·rw [if_pos (decide_eq_true hmem)]
   exact Jg (fun _=>Gi ⟨hi,fun a ha=>ha,hmem,fun a ha hn=>(hn ha).elim,fun C _ hl _ a ha=>hl a ha⟩) (fun h=>by cases h)
  rw [if_neg (by rw [decide_eq_false hmem]; exact Bool.false_ne_true)]
  refine Jg (fun h=>by cases h) (fun _=>?_)
  have hle:=hi.le
  have hlen:=hs.len
  have h1:=hi.snoc hmem hid
  have h1le:=h1.le
  have hl1:(l++[id]).length=l.length+1:=by simp
  refine G1d (room_ok (by rw [List.length_singleton]; omega) (by omega)) ?_
  have again:∀ (y:G6) (st:List G6) (m':Hu Int Unit) (l':List Int),st∈states→y∈st→Rch s U states l id m' l'→G26 s states id y.Gv →
    Wp (G02 F y.Gv m' l' states s) (fun r=>Rch s U states l id r.1 r.2∧(∀ a∈l',a∈r.2)∧y.Gv∈r.2):=
   fun y st m' l' h2 h3 h4 h5=>wp_mono (ih y.Gv m' l' h4.inv (hs.each st h2 y h3).1 (by
    have:=h1.nodup.length_le_of_subset (fun a ha=>h4.sub a ha)
    omega)) (fun r hr=>h4.step h5 hr)
  have hcov:∀ {k:Nat} {c:G4},s.Columns[k]? = some c→G18 s (k:Int)=some (G50 s c):=fun hc=>ship_coverOf hc (fun x hx=>by have:=hs.small.rows x hx; omega) (by have:=hs.small.covs; omega)
  refine Qg (fun pre s7=>Rch s U states l id s7.1 s7.2∧∀ st∈pre,∀ b,Gb1 s states st id b→b∈s7.2) ⟨.start h1,fun st h=>(List.not_mem_nil h).elim⟩ (fun pre st post s7 nx e hI hnx=>?_) (fun s7 hI=>Gi ?_)
  ·have hst:st∈states:=by rw [e]; simp
   obtain⟨hR,hD⟩:=hI
   refine H60 (fun j=>Rch s U states l id j.1 j.2∧(∀ a∈s7.2,a∈j.2)∧∀ b,Gb1 s states st id b→b∈j.2) (fun K hK=>?_) (fun j hj=>hnx _ ⟨hj.1,H2f (fun st' h' b hb=>hj.2.1 _ (hD st' h' b hb)) hj.2.2⟩)
   refine H5 (Hfd st id) (Jg (fun hf=>hK _ ⟨hR,fun a ha=>ha,fun b hb=>?_⟩) (fun hf=>?_))
   ·rw [hb.1] at hf; cases hf
   have hft:(Qk st id).2=true:=by simpa using hf
   obtain⟨x,hx,_,hxs⟩:=Ha7 hft
   obtain⟨m0,c0,hm0,hc0⟩:=(hs.each st hst x hx).2
   rw [hxs]
   refine H60 (fun j17=>j17=if c0.Deck=true then -1 else G50 s c0) (fun K' hK'=>H42 hm0 hc0 (Jg (fun hd=>?_) (fun hd=>hK' _ (by
    rw [if_pos (by simpa using hd)])))) (fun j17 h17=>?_)
   ·rw [hm0]
    exact H5 (hcov hc0) (hK' _ (by rw [if_neg (by simpa using hd)]))
   refine Qg (fun pre s56=>Rch s U states l id s56.1 s56.2∧(∀ a∈s7.2,a∈s56.2)∧∀ y∈pre,Hee y.Slot x.Slot→y.Gv∈s56.2) ⟨hR,fun a ha=>ha,fun y h=>(List.not_mem_nil h).elim⟩ (fun pre y post s56 nx e hI hnx=>?_) (fun s56 hI=>?_)
   ·have hy:y∈st:=by rw [e]; simp
    obtain⟨i1,i2,i3⟩:=hI
    refine H60 (fun j=>Rch s U states l id j.1 j.2∧(∀ a∈s56.2,a∈j.2)∧(Hee y.Slot x.Slot→y.Gv∈j.2)) (fun K' hK'=>?_) (fun j hj=>hnx _ ⟨hj.1,fun a ha=>hj.2.1 a (i2 a ha),H2f (fun y' h' ho=>hj.2.1 _ (i3 y' h' ho)) hj.2.2⟩)
    refine H6 (wp_mono (slot_over y.Slot x.Slot) (fun r62 h62=>Jg (fun hr=>?_) (fun hr=>hK' _ ⟨i1,fun a ha=>ha,fun ho=>?_⟩)))
    ·exact H6 (wp_mono (again y st _ _ hst hy i1 ⟨st,hst,hft,.inl ⟨y,hy,rfl,by rw [hxs]; exact h62.1 hr⟩⟩) (fun r hr=>hK' _ ⟨hr.1,hr.2.1,fun _=>hr.2.2⟩))
    ·rw [h62.2 ho] at hr; cases hr
   ·obtain⟨i1,i2,i3⟩:=hI
    refine Qg (fun pre s65=>Rch s U states l id s65.1 s65.2∧(∀ a∈s56.2,a∈s65.2)∧∀ st2∈pre,∀ y∈st2,upon s x.Slot y.Slot→y.Gv∈s65.2) ⟨i1,fun a ha=>ha,fun st2 h=>(List.not_mem_nil h).elim⟩ (fun pre st2 post s65 nx e hI hnx=>?_) (fun s65 hI=>hK _ ⟨hI.1,fun a ha=>hI.2.1 a (i2 a ha),fun b hb=>?_⟩)
    ·obtain⟨j1,j2,j3⟩:=hI
     have hst2:st2∈states:=by rw [e]; simp
     refine Qg (fun pre s107=>Rch s U states l id s107.1 s107.2∧(∀ a∈s65.2,a∈s107.2)∧∀ y∈pre,upon s x.Slot y.Slot→y.Gv∈s107.2) ⟨j1,fun a ha=>ha,fun y h=>(List.not_mem_nil h).elim⟩ (fun pre y post s107 nx2 e hI hnx2=>?_) (fun s107 hI=>hnx _ ⟨hI.1,fun a ha=>hI.2.1 a (j2 a ha),H2f (fun st' h' y hy hu=>hI.2.1 _ (j3 st' h' y hy hu)) hI.2.2⟩)
     obtain⟨k1,k2,k3⟩:=hI
     have hy:y∈st2:=by rw [e]; simp
     obtain⟨m1,c1,hm1,hc1⟩:=(hs.each st2 hst2 y hy).2
     have hup:upon s x.Slot y.Slot ↔ (0≤j17∧c1.Deck=true∧G50 s c1=j17):=by
      constructor
      ·rintro⟨n0,d0,n1,d1,e1,e2,e3,e4,q1,q2,q3,q4⟩
       have e5:n0=m0:=by omega
       have e6:n1=m1:=by omega
       subst e5 e6
       rw [hc0] at e2; cases e2
       rw [hc1] at e4; cases e4
       rw [if_neg (by rw [q1]; exact Bool.false_ne_true)] at h17
       rw [h17]
       exact⟨q3,q2,q4⟩
      ·rintro⟨q1,q2,q3⟩
       by_cases hd:c0.Deck=true
       ·rw [if_pos hd] at h17; omega
       ·rw [if_neg hd] at h17
        exact⟨m0,c0,m1,c1,hm0,hc0,hm1,hc1,by simpa using hd,q2,by omega,by omega⟩
     refine H60 (fun j=>Rch s U states l id j.1 j.2∧(∀ a∈s107.2,a∈j.2)∧(upon s x.Slot y.Slot→y.Gv∈j.2)) (fun K' hK'=>?_) (fun j hj=>hnx2 _ ⟨hj.1,fun a ha=>hj.2.1 a (k2 a ha),H2f (fun y' h' ho=>hj.2.1 _ (k3 y' h' ho)) hj.2.2⟩)
     by_cases hj:0≤j17
     ·rw [decide_eq_true hj]
      simp only [cond_true,Bool.true_and]
      refine H6 (H42 hm1 hc1 (Gi ?_))
      cases hd:c1.Deck with
      | true=>
       simp only [cond_true,Bool.true_and]
       rw [hm1]
       refine H5 (hcov hc1) (Jg (fun hc=>?_) (fun hc=>hK' _ ⟨k1,fun a ha=>ha,fun hu=>?_⟩))
       ·exact H6 (wp_mono (again y st2 _ _ hst2 hy k1 ⟨st,hst,hft,.inr ⟨st2,hst2,y,hy,rfl,by rw [hxs]; exact hup.2 ⟨hj,hd,of_decide_eq_true hc⟩⟩⟩) (fun r hr=>hK' _ ⟨hr.1,hr.2.1,fun _=>hr.2.2⟩))
       ·exact(of_decide_eq_false hc (hup.1 hu).2.2).elim
      | false=>
       simp only [cond_false,Bool.false_and]
       exact H6 (Gi (hK' _ ⟨k1,fun a ha=>ha,fun hu=>by have:=(hup.1 hu).2.1; rw [hd] at this; cases this⟩))
     ·rw [decide_eq_false hj]
      simp only [cond_false,Bool.false_and]
      exact H6 (Gi (H6 (Gi (hK' _ ⟨k1,fun a ha=>ha,fun hu=>(hj (hup.1 hu).1).elim⟩))))
    ·rcases hb.2 with ⟨y,hy,rfl,ho⟩ | ⟨st2,h2,y,hy,rfl,hu⟩
     ·exact hI.2.1 _ (i3 y hy (by rw [← hxs]; exact ho))
     ·exact hI.2.2 st2 h2 y hy (by rw [← hxs]; exact hu)
  ·obtain⟨hR,hD⟩:=hI
   refine⟨hR.inv,fun a ha=>hR.sub a (List.mem_append.2 (.inl ha)),hR.sub id (by simp),fun a ha hn b hb=>?_,hR.least⟩
   by_cases e:a=id
   ·subst e
    obtain⟨st,hst,hp⟩:=hb
    exact hD st hst b hp
   ·exact hR.closed a ha hn e b hb
structure H93 (s:Hb) (before after:List G6) (l:List Int):Prop where
 seeds:∀ st∈[before,after],∀ y∈st,Qk before y.Gv≠Qk after y.Gv→y.Gv∈l
 closed:∀ a∈l,∀ b,G26 s [before,after] a b→b∈l
 least:∀ C:Int→Prop,(∀ a b,C a→G26 s [before,after] a b→C b)→(∀ st∈[before,after],∀ y∈st,Qk before y.Gv≠Qk after y.Gv→C y.Gv)→∀ a∈l,C a
theorem H93.perm {s:Hb} {before after:List G6} {l l':List Int} (h:H93 s before after l) (hp:∀ a,a∈l' ↔ a∈l):H93 s before after l':=
 ⟨fun st hst y hy hne=>(hp _).2 (h.seeds st hst y hy hne),fun a ha b hb=>(hp b).2 (h.closed a ((hp a).1 ha) b hb),fun C hc hl a ha=>h.least C hc hl a ((hp a).1 ha)⟩
theorem differ {p q:Slot×Bool}:((!(p.2==q.2))||(!decide (p.1=q.1)))=true ↔ p≠q:=by
 obtain⟨p1,p2⟩:=p
 obtain⟨q1,q2⟩:=q
 simp only [Bool.or_eq_true,Bool.not_eq_true',beq_eq_false_iff_ne,decide_eq_false_iff_not,ne_eq,Prod.mk.injEq,not_and]
 constructor
 ·rintro(h | h) h1 h2
  ·exact h h2
  ·exact h h1
 ·intro h
  by_cases e:p1=q1
  ·exact .inl (h e)
  ·exact .inr e
theorem lifted_full {s:Hb} {U:List Int} {before after:List G6} (hs:J84 s U [before,after]) {F:Nat} (hF:U.length+1≤F) :
  Wp (G10 F s before after) (fun r=>r.Pairwise (· < ·)∧(∀ a∈r,a∈U)∧H93 s before after r):=by
 unfold G10
 have go:∀ {m:Hu Int Unit} {l:List Int} {y:G6} {st:List G6} {m2:Hu Int Unit} {l2:List Int},st∈[before,after]→y∈st→Qk before y.Gv≠Qk after y.Gv →
   (Hae U m l∧(∀ a∈l,∀ b,G26 s [before,after] a b→b∈l)∧∀ C:Int→Prop,(∀ a b,C a→G26 s [before,after] a b→C b)→(∀ st∈[before,after],∀ y∈st,Qk before y.Gv≠Qk after y.Gv→C y.Gv)→∀ a∈l,C a) →
   Grown s U [before,after] l y.Gv m2 l2 →
   (Hae U m2 l2∧(∀ a∈l2,∀ b,G26 s [before,after] a b→b∈l2)∧∀ C:Int→Prop,(∀ a b,C a→G26 s [before,after] a b→C b)→(∀ st∈[before,after],∀ y∈st,Qk before y.Gv≠Qk after y.Gv→C y.Gv)→∀ a∈l2,C a):=
  fun {m l y st m2 l2} hst hy hne hI g=>⟨g.inv,fun a ha b hb=>by
   by_cases hal:a∈l
   ·exact g.sub b (hI.2.1 a hal b hb)
   ·exact g.closed a ha hal b hb,fun C hc hl=>g.least C hc (hI.2.2 C hc hl) (hl st hst y hy hne)⟩
 refine Qg (fun pre s9=>(Hae U s9.1 s9.2∧(∀ a∈s9.2,∀ b,G26 s [before,after] a b→b∈s9.2)∧∀ C:Int→Prop,(∀ a b,C a→G26 s [before,after] a b→C b)→(∀ st∈[before,after],∀ y∈st,Qk before y.Gv≠Qk after y.Gv→C y.Gv)→∀ a∈s9.2,C a) ∧
   ∀ st∈pre,∀ y∈st,Qk before y.Gv≠Qk after y.Gv→y.Gv∈s9.2)
  ⟨⟨.start,fun a h=>(List.not_mem_nil h).elim,fun C _ _ a h=>(List.not_mem_nil h).elim⟩,fun st h=>(List.not_mem_nil h).elim⟩ (fun pre st post s9 nx e hI hnx=>?_) (fun s9 hI=>?_)
 ·have hst:st∈[before,after]:=by rw [e]; simp
  obtain⟨hA,hB⟩:=hI
  refine Qg (fun pre s59=>(Hae U s59.1 s59.2∧(∀ a∈s59.2,∀ b,G26 s [before,after] a b→b∈s59.2)∧∀ C:Int→Prop,(∀ a b,C a→G26 s [before,after] a b→C b)→(∀ st∈[before,after],∀ y∈st,Qk before y.Gv≠Qk after y.Gv→C y.Gv)→∀ a∈s59.2,C a) ∧
    (∀ a∈s9.2,a∈s59.2)∧∀ y∈pre,Qk before y.Gv≠Qk after y.Gv→y.Gv∈s59.2)
   ⟨hA,fun a ha=>ha,fun y h=>(List.not_mem_nil h).elim⟩ (fun pre y post s59 nx2 e hI hnx2=>?_) (fun s59 hI=>hnx _ ⟨hI.1,H2f (fun st' h' y hy hne=>hI.2.1 _ (hB st' h' y hy hne)) hI.2.2⟩)
  have hy:y∈st:=by rw [e]; simp
  obtain⟨j1,j2,j3⟩:=hI
  refine H60 (fun j=>(Hae U j.1 j.2∧(∀ a∈j.2,∀ b,G26 s [before,after] a b→b∈j.2)∧∀ C:Int→Prop,(∀ a b,C a→G26 s [before,after] a b→C b)→(∀ st∈[before,after],∀ y∈st,Qk before y.Gv≠Qk after y.Gv→C y.Gv)→∀ a∈j.2,C a) ∧
    (∀ a∈s59.2,a∈j.2)∧(Qk before y.Gv≠Qk after y.Gv→y.Gv∈j.2)) (fun K hK=>?_) (fun j hj=>hnx2 _ ⟨hj.1,fun a ha=>hj.2.1 a (j2 a ha),H2f (fun y' h' ho=>hj.2.1 _ (j3 y' h' ho)) hj.2.2⟩)
  refine H5 (Hfd before y.Gv) (H5 (Hfd after y.Gv) (Jg (fun hd=>?_) (fun hd=>hK _ ⟨j1,fun a ha=>ha,fun hne=>?_⟩)))
  ·have hne:=differ.1 hd
   exact H6 (wp_mono (add_full hs F y.Gv _ _ j1.1 (hs.each st hst y hy).1 (by omega)) (fun r hr=>hK _ ⟨go hst hy hne j1 hr,hr.sub,fun _=>hr.has⟩))
  ·rw [differ.2 hne] at hd; cases hd
 ·obtain⟨⟨hA,hB,hC⟩,hD⟩:=hI
  have h1:=hA.le
  have h2:=hs.len
  have hse:Hf9 s9.2=some (Ga2 s9.2):=by
   unfold Hf9
   rw [decide_eq_true (show s9.2.length < 4611686018427387904 by omega)]
   rfl
  have hp:=H4e s9.2
  refine H5 hse (Gi ⟨?_,fun a ha=>hA.sub a (hp.mem_iff.1 ha),H93.perm ⟨hD,hB,hC⟩ (fun a=>hp.mem_iff)⟩)
  have hn:(Ga2 s9.2).Nodup:=hp.nodup_iff.2 hA.nodup
  exact(List.pairwise_and_iff.2 ⟨H4d s9.2,hn⟩).imp (fun {a b} h=>by have h1:=h.1; have h2:=h.2; omega)
theorem H7f {α:Type} {a b x:α} (h:x∈[a,b]):x∈[b,a]:=by
 simp only [List.mem_cons,List.not_mem_nil,or_false] at h ⊢
 exact h.symm
theorem G26.swap {s:Hb} {a b:List G6} {x y:Int} (h:G26 s [a,b] x y):G26 s [b,a] x y:=by
 obtain⟨st,hst,h1,h2⟩:=h
 exact⟨st,H7f hst,h1,h2.imp _root_.id (fun⟨st2,h3,h4⟩=>⟨st2,H7f h3,h4⟩)⟩
theorem H93.le {s:Hb} {before after:List G6} {l l':List Int} (h:H93 s before after l) (h':H93 s after before l'):∀ a∈l,a∈l':=
 h.least (·∈l') (fun a b ha hb=>h'.closed a ha b hb.swap) (fun st hst y hy hne=>h'.seeds st (H7f hst) y hy (fun e=>hne e.symm))
end Go.Proofs.YtfkilljboodoaaaGreat
