/-
 When a state is right,and which boxes are lifted: what the program says.
-/
import Derived.Test.YteogacmpgdpjlaaGreatShipT
set_option maxRecDepth 100000
namespace Go.Proofs.YteogacmpgdpjlaaGreat
open Go.RowKit

theorem room_ok {n k:Nat} (hn:n≤1000001) (hk:k≤1000):decide (n*k≤140737488355328∧n≤maxLen)=true:=by
 have h:n*k≤1000001*1000:=Nat.mul_le_mul hn hk
 have h2:n≤maxLen:=Nat.le_trans hn (by decide)
 exact decide_eq_true ⟨by omega,h2⟩
theorem Hb6 {α β:Type} {x:α} {k:α→Option β}:bnd (some x) k=k x:=rfl
/-- The place of the first element at which p holds, -1 if there is none. -/
def J14 {α:Type} (p:α→Bool) (l:List α):Int:=match l.findIdx? p with
 | some j=>(j:Int)
 | none => -1
theorem J18 {α:Type} {p:α→Bool} {f:α→Option Bool} {xs:List α} (hf:∀ x∈xs,f x=some (p x)) :
  each (fun y i (_:Unit) nx=>bnd (f y) fun r=>bif r then some (i:Int) else nx ()) (fun _=>some (-1)) xs 0 ()=some (J14 p xs):=by
 have key:∀ (xs:List α),(∀ x∈xs,f x=some (p x))→∀ i:Nat,each (fun y i (_:Unit) nx=>bnd (f y) fun r=>bif r then some (i:Int) else nx ()) (fun _=>some (-1)) xs i ()=some (match xs.findIdx? p with
  | some j=>((i+j:Nat):Int)
  | none => -1):=by
  intro xs
  induction xs with
  | nil=>intro _ i; rfl
  | cons x xs ih=>
   intro hf i
   rw [each,hf x (List.mem_cons_self ..),Hb6,List.findIdx?_cons]
   cases p x with
   | true=>simp
   | false=>
    simp only [cond_false]
    rw [ih (fun y hy=>hf y (List.mem_cons_of_mem _ hy)) (i+1)]
    cases xs.findIdx? p with
    | none=>simp
    | some j=>show some (((i+1+j:Nat)):Int)=some (((i+(j+1):Nat)):Int); rw [show i+1+j=i+(j+1) by omega]
 rw [key xs hf 0]
 unfold J14
 cases xs.findIdx? p <;> simp
theorem H60 {α:Type} (p:α→Bool) (l:List α):(J14 p l = -1∧(∀ x∈l,p x=false)∧l.find? p=none)∨∃ (m:Nat) (x:α),J14 p l=(m:Int)∧l[m]? = some x∧p x=true∧l.find? p=some x:=by
 unfold J14
 cases h:l.findIdx? p with
 | none=>
  have:=List.findIdx?_eq_none_iff.1 h
  exact .inl ⟨rfl,this,List.find?_eq_none.2 (fun x hx=>by rw [this x hx]; simp)⟩
 | some j=>
  obtain⟨hj,h1,h2⟩:=List.findIdx?_eq_some_iff_getElem.1 h
  refine .inr ⟨j,l[j],rfl,by simp [hj],h1,?_⟩
  refine List.find?_eq_some_iff_getElem.2 ⟨h1,j,hj,rfl,fun k hk=>?_⟩
  simpa using h2 k hk
theorem Jdf {α:Type} {p:α→Bool} {l:List α}:decide (0≤J14 p l)=l.any p:=by
 rcases H60 p l with ⟨h1,h2,_⟩ | ⟨m,x,h1,h2,h3,_⟩
 ·rw [h1]
  refine Eq.symm (List.any_eq_false.2 fun x hx=>?_)
  rw [h2 x hx]; exact Bool.false_ne_true
 ·rw [h1,decide_eq_true (by omega)]
  exact(List.any_eq_true.2 ⟨x,List.mem_of_getElem? h2,h3⟩).symm
def G7e (boxes:List H2) (id:Int):Option H2:=boxes.find? (fun b=>decide (b.ID=id))
theorem stow_find (boxes:List H2) (id:Int):Ge9 boxes id=some (match G7e boxes id with
  | some b=>(b,true)
  | none=>(H2.mk 0 ByteArray.empty 0 false 0 0 0 0 false,false)):=by
 unfold Ge9
 have h:G1b boxes (fun z0=>Gce z0 id)=some (J14 (fun b:H2=>decide (b.ID=id)) boxes):=J18 (fun x _=>rfl)
 rw [h]
 simp only [Hb6]
 unfold G7e
 rcases H60 (fun b:H2=>decide (b.ID=id)) boxes with ⟨h1,_,h3⟩ | ⟨m,x,h1,h2,_,h4⟩
 ·rw [h1,h3]; rfl
 ·rw [h1,h4,decide_eq_false (by omega),cond_false]
  unfold Jc
  rw [decide_eq_true (by omega),cond_true,show (m:Int).toNat=m by omega,h2]
  rfl
def Q42 (l:List G6) (id:Int):Option G6:=l.find? (fun x=>decide (x.H2=id))
def J89 (size:Int):List Int:=if size=40 then [0] else if size=20 then [1,2] else []
theorem slot_halves (size:Int):Gcf size=some (J89 size):=by
 unfold Gcf J89
 by_cases h:size=40
 ·simp [h]
 ·by_cases h2:size=20
  ·simp [h2]
  ·simp [h,h2]
theorem contains8 (l:List Int) (v:Int):G03 l v=some (l.any (fun y=>decide (v=y))):=by
 unfold G03
 have h:G32 l v=some (J14 (fun y=>decide (v=y)) l):=by
  unfold G32
  exact J18 (f:=fun y=>some (decide (v=y))) (fun x _=>rfl)
 rw [h]
 simp only [Hb6]
 rw [Jdf]
theorem containsSlot (l:List Slot) (v:Slot):Z3 l v=some (l.any (fun y=>decide (v=y))):=by
 unfold Z3
 have h:G12 l v=some (J14 (fun y=>decide (v=y)) l):=by
  unfold G12
  exact J18 (f:=fun y=>some (decide (v=y))) (fun x _=>rfl)
 rw [h]
 simp only [Hb6]
 rw [Jdf]
/-- There is such a slot in the ship, for boxes of a size. -/
structure Jb6 (s:H8) (x:Slot) (size:Int):Prop where
 col:∃ (m:Nat) (c:G4),x.G4=(m:Int)∧s.Columns[m]? = some c∧x.Tier < c.Tiers
 tier:0≤x.Tier
 half:x.Half∈J89 size
theorem slot_right (s:H8) (x:Slot) (size:Int):Wp (Gfb s x size) (fun r=>r=true ↔ Jb6 s x size):=by
 unfold Gfb
 by_cases h0:0≤x.G4∧x.G4 < (s.Columns.length:Int)
 ·by_cases h1:0≤x.Tier
  ·obtain⟨m,hm⟩:∃ m:Nat,x.G4=(m:Int):=⟨x.G4.toNat,by omega⟩
   have hml:m < s.Columns.length:=by omega
   have hc:s.Columns[m]? = some s.Columns[m]:=by simp [hml]
   have e:(((decide (0≤x.G4))&&(decide (x.G4 < (s.Columns.length:Int))))&&(decide (0≤x.Tier)))=true:=by simp [h0.1,h0.2,h1]
   simp only [e,cond_true,Bool.true_and]
   refine H5 (G43 hm hc (Gn ?_))
   by_cases h2:x.Tier < (s.Columns[m]).Tiers
   ·rw [decide_eq_true h2]
    simp only [cond_true]
    refine Gy (slot_halves size) (Gy (contains8 _ _) (Gn ?_))
    rw [Bool.true_and,List.any_eq_true]
    constructor
    ·rintro⟨y,hy,he⟩
     have:=of_decide_eq_true he
     subst this
     exact⟨⟨m,_,hm,hc,h2⟩,h1,hy⟩
    ·exact fun h=>⟨_,h.half,by simp⟩
   ·rw [decide_eq_false h2]
    simp only [cond_false,Bool.false_and]
    refine H5 (Gn (H5 (Gn (Gn ⟨fun h=>(by cases h),fun h=>?_⟩))))
    obtain⟨m',c,g1,g2,g3⟩:=h.col
    have:m'=m:=by omega
    subst this
    rw [hc] at g2; cases g2
    exact(h2 g3).elim
  ·simp only [decide_eq_false h1,Bool.and_false,cond_false,Bool.false_and]
   exact H5 (Gn (H5 (Gn (H5 (Gn (Gn ⟨fun h=>(by cases h),fun h=>(h1 h.tier).elim⟩))))))
 ·have e:((decide (0≤x.G4))&&(decide (x.G4 < (s.Columns.length:Int))))=false:=by
   by_cases h:0≤x.G4
   ·have:¬ x.G4 < (s.Columns.length:Int):=fun g=>h0 ⟨h,g⟩
    simp [this]
   ·simp [h]
  simp only [e,Bool.false_and,cond_false]
  refine H5 (Gn (H5 (Gn (H5 (Gn (Gn ⟨fun h=>(by cases h),fun h=>?_⟩))))))
  obtain⟨m,c,g1,g2,_⟩:=h.col
  have:=(List.getElem?_eq_some_iff.1 g2).1
  exact(h0 (by omega)).elim
/-- What holds a slot. -/
def below (l:List Slot) (x:Slot) (half:Int):Prop:=(⟨x.G4,x.Tier - 1,half⟩:Slot)∈l
def Je5 (x:Slot) (l:List Slot):Prop:=x.Tier≤0∨below l x x.Half∨(x.Half=0∧below l x 1∧below l x 2)
theorem J5f (half:Int) (l:List Slot) (x:Slot) (ht : -1000000≤x.Tier∧x.Tier≤1000000):Wp (G6b half l x) (fun r=>r=true ↔ below l x half):=by
 unfold G6b
 refine G1a ⟨by omega,by omega⟩ (Gy (containsSlot _ _) (Gn ?_))
 rw [List.any_eq_true]
 constructor
 ·rintro⟨y,hy,he⟩
  have:=of_decide_eq_true he
  subst this
  exact hy
 ·exact fun h=>⟨_,h,by simp⟩
theorem slot_held (x:Slot) (l:List Slot) (ht : -1000000≤x.Tier∧x.Tier≤1000000):Wp (H2b x l) (fun r=>r=true ↔ Je5 x l):=by
 unfold H2b Je5
 refine Hm (fun h=>Gn ⟨fun _=>.inl (of_decide_eq_true h),fun _=>rfl⟩) (fun h=>?_)
 have h0:=of_decide_eq_false h
 refine H5 (wp_mono (J5f x.Half l x ht) (fun r7 h7=>?_))
 cases r7 with
 | true=>
  simp only [Bool.not_true,Bool.false_and,cond_false,Bool.true_or]
  exact H5 (Gn (H5 (Gn (Gn ⟨fun _=>.inr (.inl (h7.1 rfl)),fun _=>rfl⟩))))
 | false=>
  have h7':¬ below l x x.Half:=fun h=>by have:=h7.2 h; cases this
  simp only [Bool.not_false,Bool.true_and,Bool.false_or]
  by_cases hh:x.Half=0
  ·rw [decide_eq_true hh]
   simp only [cond_true,Bool.true_and]
   refine H5 (wp_mono (J5f 1 l x ht) (fun r8 h8=>?_))
   cases r8 with
   | true=>
    simp only [cond_true,Bool.true_and]
    refine H5 (wp_mono (J5f 2 l x ht) (fun r9 h9=>Gn ⟨fun h=>.inr (.inr ⟨hh,h8.1 rfl,h9.1 h⟩),fun h=>?_⟩))
    rcases h with h | h | ⟨_,_,h⟩
    ·exact(h0 h).elim
    ·exact(h7' h).elim
    ·exact h9.2 h
   | false=>
    simp only [cond_false,Bool.false_and]
    refine H5 (Gn (Gn ⟨fun h=>(by cases h),fun h=>?_⟩))
    rcases h with h | h | ⟨_,h,_⟩
    ·exact(h0 h).elim
    ·exact(h7' h).elim
    ·have:=h8.2 h; cases this
  ·rw [decide_eq_false hh]
   simp only [cond_false,Bool.false_and]
   refine H5 (Gn (H5 (Gn (Gn ⟨fun h=>(by cases h),fun h=>?_⟩))))
   rcases h with h | h | ⟨h,_⟩
   ·exact(h0 h).elim
   ·exact(h7' h).elim
   ·exact(hh h).elim
def H8c (a b:Int):Prop:=a=b∨a=0∨b=0
theorem Jd1 (a b:Int):Wp (G97 a b) (fun r=>r=true ↔ H8c a b):=by
 unfold G97 H8c
 refine Gn ?_
 simp [or_assoc]
def Hed (a b:Slot):Prop:=a.G4=b.G4∧a.Tier=b.Tier∧H8c a.Half b.Half
theorem slot_meet (a b:Slot):Wp (H2a a b) (fun r=>r=true ↔ Hed a b):=by
 unfold H2a Hed
 by_cases h:a.G4=b.G4∧a.Tier=b.Tier
 ·simp only [decide_eq_true h.1,decide_eq_true h.2,Bool.and_self,cond_true,Bool.true_and]
  exact H5 (wp_mono (Jd1 _ _) (fun r hr=>Gn ⟨fun e=>⟨h.1,h.2,hr.1 e⟩,fun e=>hr.2 e.2.2⟩))
 ·have e:(decide (a.G4=b.G4)&&decide (a.Tier=b.Tier))=false:=by
   by_cases h1:a.G4=b.G4
   ·have:¬ a.Tier=b.Tier:=fun h2=>h ⟨h1,h2⟩
    simp [this]
   ·simp [h1]
  simp only [e,cond_false,Bool.false_and]
  exact H5 (Gn (Gn ⟨fun e=>(by cases e),fun e=>(h ⟨e.1,e.2.1⟩).elim⟩))
def J93 (a b:Slot):Prop:=a.G4=b.G4∧b.Tier < a.Tier∧H8c a.Half b.Half
theorem slot_over (a b:Slot):Wp (H29 a b) (fun r=>r=true ↔ J93 a b):=by
 unfold H29 J93
 by_cases h:a.G4=b.G4∧b.Tier < a.Tier
 ·simp only [decide_eq_true h.1,decide_eq_true h.2,Bool.and_self,cond_true,Bool.true_and]
  exact H5 (wp_mono (Jd1 _ _) (fun r hr=>Gn ⟨fun e=>⟨h.1,h.2,hr.1 e⟩,fun e=>hr.2 e.2.2⟩))
 ·have e:(decide (a.G4=b.G4)&&decide (b.Tier < a.Tier))=false:=by
   by_cases h1:a.G4=b.G4
   ·have:¬ b.Tier < a.Tier:=fun h2=>h ⟨h1,h2⟩
    simp [this]
   ·simp [h1]
  simp only [e,cond_false,Bool.false_and]
  exact H5 (Gn (Gn ⟨fun e=>(by cases e),fun e=>(h ⟨e.1,e.2.1⟩).elim⟩))
/-- The height of what stands in a half of a column. -/
def tallI (b:H2):Int:=if b.High then 2896 else 2591
def J6d (boxes:List H2) (column half:Int) (n:Int) (x:G6):Int:=
 if x.Slot.G4=column∧(x.Slot.Half=half∨x.Slot.Half=0) then (match G7e boxes x.H2 with | some b=>n+tallI b | none=>n) else n
def G98 (boxes:List H2) (l:List G6) (column half:Int):Int:=l.foldl (J6d boxes column half) 0
theorem addH_le {boxes:List H2} {column half n:Int} {x:G6}:n≤J6d boxes column half n x∧J6d boxes column half n x≤n+2896:=by
 unfold J6d tallI
 split
 ·split
  ·split <;> omega
  ·omega
 ·omega
theorem Jcd (boxes:List H2) (l:List G6) (column half:Int) (hl:l.length≤1000000):G96 boxes l column half=some (G98 boxes l column half):=by
 refine G38 ?_
 unfold G96 G98
 refine Q3 (fun pre n=>n=pre.foldl (J6d boxes column half) 0∧0≤n∧n≤2896*pre.length) ⟨rfl,Int.le_refl _,by simp⟩ (fun pre y post n nx e hn hnx=>?_) (fun n hn=>Gn hn.1)
 obtain⟨rfl,h1,h2⟩:=hn
 have hp:pre.length+1≤l.length:=by rw [e]; simp
 have ha:=addH_le (boxes:=boxes) (column:=column) (half:=half) (n:=pre.foldl (J6d boxes column half) 0) (x:=y)
 have hlen:((pre++[y]).length:Int)=pre.length+1:=by simp
 generalize hg:pre.foldl (J6d boxes column half) 0=n at *
 refine G82 (fun j=>j=J6d boxes column half n y) (fun K hK=>?_) (fun j hj=>hnx _ ⟨by rw [hj,List.foldl_append,hg]; rfl,by omega,by rw [hlen]; omega⟩)
 refine Hm (fun hc=>?_) (fun hc=>hK _ ?_)
 ·have hc':y.Slot.G4=column∧(y.Slot.Half=half∨y.Slot.Half=0):=by simpa using hc
  refine Gy (stow_find boxes y.H2) ?_
  cases hf:G7e boxes y.H2 with
  | none=>exact Hm (fun h=>by cases h) (fun _=>hK _ (by unfold J6d; rw [if_pos hc',hf]))
  | some b=>
   refine Hm (fun _=>?_) (fun h=>by cases h)
   have ht:H27 b=some (tallI b):=by unfold H27 tallI; cases b.High <;> rfl
   have hadd:J6d boxes column half n y=n+tallI b:=by unfold J6d; rw [if_pos hc',hf]
   refine Gy ht (G1a ?_ (hK _ hadd.symm))
   rw [← hadd]
   omega
 ·have hc':¬ (y.Slot.G4=column∧(y.Slot.Half=half∨y.Slot.Half=0)):=by simpa using hc
  unfold J6d; rw [if_neg hc']
def Je7 (boxes:List H2) (l:List G6) (m:Nat) (c:G4):Prop:=c.Height≤0∨(G98 boxes l m 1≤c.Height∧G98 boxes l m 2≤c.Height)
theorem stow_fits {s:H8} {boxes:List H2} {l:List G6} {m:Nat} {c:G4} (hc:s.Columns[m]? = some c) (hl:l.length≤1000000):Wp (H28 s boxes l (m:Int)) (fun r=>r=true ↔ Je7 boxes l m c):=by
 unfold H28 Je7
 refine G43 rfl hc ?_
 by_cases h:c.Height≤0
 ·simp only [decide_eq_true h,Bool.not_true,cond_false,Bool.false_and,Bool.true_or]
  exact H5 (Gn (H5 (Gn (Gn ⟨fun _=>.inl h,fun _=>rfl⟩))))
 ·simp only [decide_eq_false h,Bool.not_false,cond_true,Bool.true_and,Bool.false_or]
  refine Gy (Jcd boxes l m 1 hl) ?_
  by_cases h1:G98 boxes l m 1≤c.Height
  ·rw [decide_eq_true h1]
   simp only [cond_true,Bool.true_and]
   exact Gy (Jcd boxes l m 2 hl) (Gn ⟨fun e=>.inr ⟨h1,of_decide_eq_true e⟩,fun e=>decide_eq_true (e.elim (fun e=>(h e).elim) (·.2))⟩)
  ·rw [decide_eq_false h1]
   simp only [cond_false,Bool.false_and]
   exact H5 (Gn (Gn ⟨fun e=>(by cases e),fun e=>e.elim (fun e=>(h e).elim) (fun e=>(h1 e.1).elim)⟩))
theorem stow_taken (l:List G6) (hl:l.length≤1000000):Gfa l=some (l.map (·.Slot)):=by
 refine G38 ?_
 unfold Gfa
 refine Q3 (fun pre s=>s=pre.map (·.Slot)) rfl (fun pre y post s nx e hs hnx=>?_) (fun s hs=>Gn hs)
 subst hs
 have hp:pre.length+1≤l.length:=by rw [e]; simp
 exact Qy (room_ok (by simp only [List.length_map,List.length_singleton]; omega) (by omega)) (hnx _ (by simp))
structure R0 (s:H8) (boxes:List H2) (l:List G6):Prop where
 each:∀ x∈l,∃ b,G7e boxes x.H2=some b∧Jb6 s x.Slot b.Size∧Je5 x.Slot (l.map (·.Slot))
 sorted:l.Pairwise (fun a b=>a.H2 < b.H2)
 apart:l.Pairwise (fun a b=>¬ Hed b.Slot a.Slot)
 fits:∀ m c,s.Columns[m]? = some c→Je7 boxes l m c
theorem J49 {α:Type} {R:α→α→Prop} {l:List α} {x:α} (h:l.Pairwise R) (hx:∀ a∈l,R a x):(l++[x]).Pairwise R:=by
 rw [List.pairwise_append]
 refine⟨h,List.pairwise_singleton ..,fun a ha b hb=>?_⟩
 rw [List.mem_singleton] at hb; subst hb
 exact hx a ha
theorem Hde {α:Type} {R:α→α→Prop} {pre post:List α} {y:α} (h:(pre++y::post).Pairwise R):∀ a∈pre,R a y:=fun a ha=>(List.pairwise_append.1 h).2.2 a ha y (List.mem_cons_self ..)
theorem stow_right {s:H8} {boxes:List H2} {l:List G6} (hr:G29 s=some true) (ht:∀ c∈s.Columns,c.Tiers≤1000000) (hl:l.length≤1000000):Wp (G64 s boxes l) (fun r=>r=true ↔ R0 s boxes l):=by
 unfold G64
 refine Gy hr (Hm (fun h=>by cases h) (fun _=>?_))
 refine Gy (stow_taken l hl) ?_
 refine Q3 (fun pre _=>(∀ x∈pre,∃ b,G7e boxes x.H2=some b∧Jb6 s x.Slot b.Size∧Je5 x.Slot (l.map (·.Slot)))∧pre.Pairwise (fun a b=>a.H2 < b.H2)∧pre.Pairwise (fun a b=>¬ Hed b.Slot a.Slot))
  ⟨fun x hx=>(List.not_mem_nil hx).elim,List.Pairwise.nil,List.Pairwise.nil⟩ (fun pre y post u nx e hI hnx=>?_) (fun u hI=>?_)
 ·obtain⟨i1,i2,i3⟩:=hI
  have hlen:pre.length < l.length:=by rw [e]; simp
  have hy:y∈l:=by rw [e]; simp
  have no:∀ {m:Option Bool},m=some false→¬ R0 s boxes l→Wp m (fun r=>r=true ↔ R0 s boxes l):=fun e h=>by subst e; exact Gn ⟨fun e=>(by cases e),fun e=>(h e).elim⟩
  refine Gy (stow_find boxes y.H2) ?_
  cases hf:G7e boxes y.H2 with
  | none=>
   simp only [Bool.not_false,Bool.not_true,Bool.false_and,cond_false,Bool.true_or,cond_true]
   refine H5 (Gn (H5 (Gn (H5 (Gn (H5 (Gn (no rfl fun h=>?_))))))))
   obtain⟨b,hb,_⟩:=h.each y hy
   rw [hf] at hb; cases hb
  | some b=>
   simp only [Bool.not_true,Bool.not_false,Bool.true_and,Bool.false_or]
   -- the order
   have hprev:Wp (bif decide (0 < (pre.length:Int)) then Yn ((pre.length:Int) - 1) some else some 0) (fun v=>Wp (bif decide (0 < (pre.length:Int)) then Jc l v some else some default) (fun y20=>
     ((decide (0 < (pre.length:Int))&&decide (y.H2≤y20.H2))=true→¬ R0 s boxes l)∧((decide (0 < (pre.length:Int))&&decide (y.H2≤y20.H2))=false→∀ a∈pre,a.H2 < y.H2))):=by
    rcases List.eq_nil_or_concat pre with hp | ⟨pre',z,hp⟩
    ·subst hp
     simp only [List.length_nil]
     exact Gn (Gn ⟨fun h=>by simp at h,fun _ a ha=>(List.not_mem_nil ha).elim⟩)
    ·have hp':pre=pre'++[z]:=by simpa using hp
     have hpl:pre.length=pre'.length+1:=by rw [hp']; simp
     have hd:decide (0 < (pre.length:Int))=true:=decide_eq_true (by omega)
     have hz:l[pre'.length]? = some z:=by rw [e,hp']; simp
     rw [hd]
     simp only [cond_true,Bool.true_and]
     refine G1a ⟨by omega,by omega⟩ (Gn (G43 (m:=pre'.length) (by omega) hz (Gn ⟨fun h hR=>?_,fun h a ha=>?_⟩)))
     ·have:=of_decide_eq_true h
      have hs:=hR.sorted
      rw [e] at hs
      have:=Hde hs z (by rw [hp']; simp)
      omega
     ·have hzy:¬ y.H2≤z.H2:=of_decide_eq_false h
      rw [hp'] at ha
      rcases List.mem_append.1 ha with ha | ha
      ·have:=Hde (hp' ▸ i2:(pre'++z::[]).Pairwise _) a ha
       omega
      ·rw [List.mem_singleton] at ha; subst ha; omega
   refine H5 (wp_mono hprev (fun v hv=>H5 (wp_mono hv (fun y20 h20=>?_))))
   obtain⟨n1,n2⟩:=h20
   generalize (decide (0 < (pre.length:Int))&&decide (y.H2≤y20.H2))=c at n1 n2
   cases c with
   | true=>
    simp only [Bool.not_true,cond_false,Bool.true_or,cond_true]
    exact H5 (Gn (H5 (Gn (no rfl (n1 rfl)))))
   | false=>
    simp only [Bool.not_false,cond_true,Bool.false_or]
    have hsort:=n2 rfl
    refine H5 (wp_mono (slot_right s y.Slot b.Size) (fun r21 h21=>?_))
    cases r21 with
    | false=>
     simp only [Bool.not_false,Bool.not_true,cond_false,Bool.true_or,cond_true]
     refine H5 (Gn (no rfl fun h=>?_))
     obtain⟨b',hb,hs,_⟩:=h.each y hy
     rw [hf] at hb; cases hb
     have:=h21.2 hs; cases this
    | true=>
     have hslot:=h21.1 rfl
     simp only [Bool.not_true,Bool.not_false,cond_true,Bool.false_or]
     have htier : -1000000≤y.Slot.Tier∧y.Slot.Tier≤1000000:=by
      obtain⟨m,c,_,hc,h3⟩:=hslot.col
      have:=hslot.tier
      have:=ht c (List.mem_of_getElem? hc)
      omega
     refine H5 (wp_mono (slot_held y.Slot (l.map (·.Slot)) htier) (fun r22 h22=>?_))
     cases r22 with
     | false=>
      refine Hm (fun _=>no rfl fun h=>?_) (fun h=>by cases h)
      obtain⟨b',hb,_,hh⟩:=h.each y hy
      have:=h22.2 hh; cases this
     | true=>
      have hheld:=h22.1 rfl
      refine Hm (fun h=>by cases h) (fun _=>?_)
      refine H5 (Q04 (m:=pre.length) rfl (by rw [List.length_map]; omega) ?_)
      have htk:(l.map (·.Slot)).take pre.length=pre.map (·.Slot):=by rw [← List.map_take,e,List.take_left']; rfl
      rw [htk]
      refine Q3 (fun pr _=>∀ a∈pr,¬ Hed y.Slot a) (fun a ha=>(List.not_mem_nil ha).elim) (fun pr a pos u nx2 e2 hI2 hnx2=>?_) (fun u hI2=>hnx _ ⟨fun x hx=>?_,J49 i2 hsort,J49 i3 (fun a ha=>hI2 a.Slot (List.mem_map.2 ⟨a,ha,rfl⟩))⟩)
      ·refine H5 (wp_mono (slot_meet y.Slot a) (fun r48 h48=>?_))
       refine Hm (fun h=>no rfl fun hR=>?_) (fun h=>hnx2 _ (fun a' ha'=>?_))
       ·have hm:=h48.1 h
        have hin:a∈pre.map (·.Slot):=by rw [e2]; simp
        obtain⟨z,hz,rfl⟩:=List.mem_map.1 hin
        have ha:=hR.apart
        rw [e] at ha
        exact Hde ha z hz hm
       ·rcases List.mem_append.1 ha' with ha' | ha'
        ·exact hI2 a' ha'
        ·rw [List.mem_singleton] at ha'; subst ha'
         intro hm
         have:=h48.2 hm
         rw [this] at h; cases h
      ·rcases List.mem_append.1 hx with hx | hx
       ·exact i1 x hx
       ·rw [List.mem_singleton] at hx; subst hx
        exact⟨b,hf,hslot,hheld⟩
 ·obtain⟨i1,i2,i3⟩:=hI
  refine Q3 (fun pre _=>∀ m c,m < pre.length→s.Columns[m]? = some c→Je7 boxes l m c) (fun m c h=>(Nat.not_lt_zero m h).elim) (fun pre y post u nx e hI hnx=>?_) (fun u hI=>Gn ⟨fun _=>⟨i1,i2,i3,fun m c hc=>hI m c (List.getElem?_eq_some_iff.1 hc).1 hc⟩,fun _=>rfl⟩)
  have hc:s.Columns[pre.length]? = some y:=by rw [e]; simp
  refine H5 (wp_mono (stow_fits hc hl) (fun r hr=>?_))
  cases r with
  | false=>exact Hm (fun _=>Gn ⟨fun e=>(by cases e),fun h=>by have:=hr.2 (h.fits _ _ hc); cases this⟩) (fun h=>by cases h)
  | true=>
   refine Hm (fun h=>by cases h) (fun _=>hnx _ (fun m c hm hmc=>?_))
   rw [List.length_append,List.length_singleton] at hm
   rcases Nat.lt_or_ge m pre.length with h | h
   ·exact hI m c h hmc
   ·have:m=pre.length:=by omega
    subst this
    rw [hc] at hmc; cases hmc
    exact hr.1 rfl
section maps
variable {κ ν:Type} [DecidableEq κ]
theorem Q46 (a:κ):Hp.has (Hp.empty:Hp κ ν) a=false:=rfl
theorem amap_has_put (m:Hp κ ν) (a b:κ) (v:ν):Hp.has (Hp.put m a v) b=(decide (a=b)||Hp.has m b):=by
 unfold Hp.has Hp.put
 have h:=H8f (l:=H04 m.l a v) (a:=b)
 have h2:=H8f (l:=m.l) (a:=b)
 rw [← h,Jaf]
 by_cases e:a=b
 ·simp [e]
 ·simp [e,h2]
end maps
theorem Je0 {α:Type} {l:List α} {wanted:α→Option Bool} {p:α→Bool} (hw:∀ x∈l,wanted x=some (p x)) (hl:l.length≤1000000) :
  each (fun y i (s:List Int) nx=>jp (fun kj=>bnd (wanted y) fun r=>bif r then (need (decide ((s.length+[(i:Int)].length)*8≤140737488355328∧s.length+[(i:Int)].length≤maxLen)) <| kj (s++[(i:Int)])) else (kj s)) fun(j:List Int)=>nx j)
   (fun s=>some s) l 0 []=some (Hb4 p l):=by
 refine G38 ?_
 refine Q3 (fun pre s=>s=Hb4 p pre) rfl (fun pre x post s nx e hs hnx=>?_) (fun s hs=>Gn hs)
 subst hs
 have hpl:pre.length+1≤l.length:=by rw [e]; simp
 refine G82 (fun j=>j=Hb4 p (pre++[x])) (fun K hK=>?_) (fun j hj=>hnx _ hj)
 refine Gy (hw x (by rw [e]; simp)) (Hm (fun h=>Qy ?_ (hK _ ?_)) (fun h=>hK _ ?_))
 ·have:=idxs_length p pre
  exact room_ok (by rw [List.length_singleton]; omega) (by omega)
 ·rw [idxs_snoc,h]; rfl
 ·rw [idxs_snoc,h]; simp
theorem idxs_cons {α:Type} (p:α→Bool) (x:α) (l:List α):Hb4 p (x::l)=(if p x then [0] else [])++(Hb4 p l).map (·+1):=by
 unfold Hb4
 rw [List.zipIdx_cons',List.filter_cons]
 have h:(((l.zipIdx.map (Prod.map id (fun n:Nat=>n+1))).filter (fun y:α×Nat=>p y.1)).map (fun y:α×Nat=>(y.2:Int)))=((l.zipIdx.filter (fun y:α×Nat=>p y.1)).map (fun y:α×Nat=>(y.2:Int))).map (·+1):=by
  rw [List.filter_map,List.map_map,List.map_map]
  rfl
 by_cases hx:p x=true
 ·rw [if_pos (show p (x,0).fst=true from hx),if_pos hx,List.map_cons]
  exact congrArg (List.cons _) h
 ·rw [if_neg (show ¬ p (x,0).fst=true from hx),if_neg hx,List.nil_append]
  exact h
theorem idxs_head {α:Type} (p:α→Bool) (l:List α):(Hb4 p l).head? = match l.findIdx? p with
  | some j=>some (j:Int)
  | none=>none:=by
 induction l with
 | nil=>rfl
 | cons x l ih=>
  rw [idxs_cons,List.findIdx?_cons]
  by_cases hx:p x
  ·simp [hx]
  ·simp only [hx,if_false,Bool.false_eq_true,List.nil_append,List.head?_map,ih]
   cases l.findIdx? p <;> simp
theorem idxs_pos {α:Type} (p:α→Bool) (l:List α):decide (0 < ((Hb4 p l).length:Int))=l.any p:=by
 by_cases h:∀ x∈l,p x=false
 ·rw [idxs_nil.2 h]
  refine Eq.symm (List.any_eq_false.2 fun x hx=>?_)
  rw [h x hx]; exact Bool.false_ne_true
 ·have h1:Hb4 p l≠[]:=fun e=>h (idxs_nil.1 e)
  have h2:=List.length_pos_iff.2 h1
  rw [decide_eq_true (by omega)]
  refine Eq.symm (List.any_eq_true.2 ?_)
  refine Classical.byContradiction fun hn=>h fun x hx=>?_
  cases hc:p x with
  | false=>rfl
  | true=>exact(hn ⟨x,hx,hc⟩).elim
/-- A cover lies over a place. -/
def J8d (x:Ge) (c:G4):Bool:=decide (x.Bay=c.Bay)&&x.Rows.any (fun r=>decide (r=c.Row))
theorem ship_covers (x:Ge) (c:G4) (hl:x.Rows.length≤1000000):Gd0 x c=some (J8d x c):=by
 unfold Gd0 J8d
 by_cases h:x.Bay=c.Bay
 ·have hc:G65 x.Rows (fun z0=>G89 z0 c)=some (Hb4 (fun r=>decide (r=c.Row)) x.Rows):=by
   unfold G65
   exact Je0 (fun x _=>rfl) hl
  rw [decide_eq_true h]
  simp only [cond_true,Bool.true_and]
  rw [hc,Hb6,idxs_pos]
 ·rw [decide_eq_false h]
  rfl
def Rs (s:H8) (c:G4):Int:=J14 (fun x=>J8d x c) s.Covers
theorem J7a {s:H8} {m:Nat} {c:G4} (hc:s.Columns[m]? = some c) (hr:∀ x∈s.Covers,x.Rows.length≤1000000) (hl:s.Covers.length≤1000000):G33 s (m:Int)=some (Rs s c):=by
 have hm:=(List.getElem?_eq_some_iff.1 hc).1
 refine G38 ?_
 unfold G33
 refine Hm (fun h=>?_) (fun _=>?_)
 ·simp only [Bool.or_eq_true,decide_eq_true_eq] at h
  omega
 have hch:G13 s.Covers (fun z0=>G4e z0 s (m:Int))=some (Hb4 (fun x=>J8d x c) s.Covers):=by
  unfold G13
  refine Je0 (fun x hx=>G38 ?_) hl
  unfold G4e
  exact G43 rfl hc (Gy (ship_covers x c (hr x hx)) (Gn rfl))
 refine Gy hch ?_
 have hh:=idxs_head (fun x=>J8d x c) s.Covers
 unfold Rs J14
 cases hf:s.Covers.findIdx? (fun x=>J8d x c) with
 | none=>
  rw [hf] at hh
  have h0:Hb4 (fun x=>J8d x c) s.Covers=[]:=List.head?_eq_none_iff.1 hh
  rw [h0]
  exact Gn rfl
 | some j=>
  rw [hf] at hh
  cases hi:Hb4 (fun x=>J8d x c) s.Covers with
  | nil=>rw [hi] at hh; cases hh
  | cons z r=>
   rw [hi] at hh
   simp only [List.head?_cons,Option.some.injEq] at hh
   subst hh
   refine Hm (fun h=>?_) (fun _=>G43 (m:=0) rfl rfl (Gn rfl))
   have:=of_decide_eq_true h
   simp only [List.length_cons] at this
   omega
/-- Boxes that are on board behind a call. -/
def abB (k:Int) (b:H2):Bool:=decide (b.Load≤k)&&decide (k < b.Discharge)
def aboardL (boxes:List H2) (k:Int):List Int:=(boxes.filter (abB k)).map (·.ID)
/-- The slot of a box in a state, and whether it is there. -/
def Qz (l:List G6) (id:Int):Slot×Bool:=match Q42 l id with
 | some x=>(x.Slot,true)
 | none=>(⟨0,0,0⟩,false)
theorem Jaa (l:List G6) (id:Int):Gac l id=some (Qz l id):=by
 unfold Gac
 have h:Zs l (fun z0=>Gd2 z0 id)=some (J14 (fun x:G6=>decide (x.H2=id)) l):=J18 (fun x _=>rfl)
 rw [h]
 simp only [Hb6]
 unfold Qz Q42
 rcases H60 (fun x:G6=>decide (x.H2=id)) l with ⟨h1,_,h3⟩ | ⟨m,x,h1,h2,_,h4⟩
 ·rw [h1,h3]; rfl
 ·rw [h1,h4,decide_eq_false (by omega),cond_false]
  unfold Jc
  rw [decide_eq_true (by omega),cond_true,show (m:Int).toNat=m by omega,h2]
  rfl
theorem J6b {l:List G6} {id:Int}:(Qz l id).2=true ↔ id∈l.map (·.H2):=by
 unfold Qz
 cases h:Q42 l id with
 | none=>
  refine⟨fun e=>(by cases e),fun e=>?_⟩
  obtain⟨x,hx,he⟩:=List.mem_map.1 e
  have:=List.find?_eq_none.1 h x hx
  simp [he] at this
 | some x=>
  refine⟨fun _=>?_,fun _=>rfl⟩
  have h1:=List.mem_of_find?_eq_some h
  have h2:=of_decide_eq_true (List.find?_some (p:=fun x:G6=>decide (x.H2=id)) h)
  exact List.mem_map.2 ⟨x,h1,h2⟩
theorem J39 {l:List G6} {id:Int} (h:(Qz l id).2=true):∃ x∈l,x.H2=id∧(Qz l id).1=x.Slot:=by
 unfold Qz at h ⊢
 cases hf:Q42 l id with
 | none=>rw [hf] at h; cases h
 | some x=>exact⟨x,List.mem_of_find?_eq_some hf,of_decide_eq_true (List.find?_some (p:=fun x:G6=>decide (x.H2=id)) hf),rfl⟩
/-- Ships whose covers and columns are few. -/
structure Small (s:H8):Prop where
 right:G29 s=some true
 cols:1≤s.Columns.length∧s.Columns.length≤40
 tiers:∀ c∈s.Columns,c.Tiers≤100
 covs:s.Covers.length≤1000
 rows:∀ x∈s.Covers,x.Rows.length≤1000
def ColIn (s:H8) (x:Slot):Prop:=∃ (m:Nat) (c:G4),x.G4=(m:Int)∧s.Columns[m]? = some c
structure J43 (U:List Int) (m:Hp Int Unit) (l:List Int):Prop where
 nodup:l.Nodup
 sub:∀ a∈l,a∈U
 has:∀ a,Hp.has m a=decide (a∈l)
theorem J43.le {U:List Int} {m:Hp Int Unit} {l:List Int} (h:J43 U m l):l.length≤U.length:=h.nodup.length_le_of_subset (fun a ha=>h.sub a ha)
theorem J43.start {U:List Int}:J43 U (Hp.empty:Hp Int Unit) []:=⟨List.nodup_nil,fun a ha=>(List.not_mem_nil ha).elim,fun a=>by simp [Q46]⟩
theorem J43.snoc {U:List Int} {m:Hp Int Unit} {l:List Int} (h:J43 U m l) {id:Int} (h1:id ∉ l) (h2:id∈U):J43 U (Hp.put m id ()) (l++[id]):=by
 refine⟨?_,fun a ha=>?_,fun a=>?_⟩
 ·rw [List.nodup_append]
  refine⟨h.nodup,by simp,fun a ha b hb=>?_⟩
  rw [List.mem_singleton] at hb; subst hb
  intro e; subst e; exact h1 ha
 ·rcases List.mem_append.1 ha with ha | ha
  ·exact h.sub a ha
  ·rw [List.mem_singleton] at ha; subst ha; exact h2
 ·rw [amap_has_put,h.has,Bool.eq_iff_iff]
  simp only [Bool.or_eq_true,decide_eq_true_eq,List.mem_append,List.mem_singleton]
  exact⟨fun h=>h.elim (fun e=>.inr e.symm) .inl,fun h=>h.elim .inr (fun e=>.inl e.symm)⟩
theorem set_add (m:Hp Int Unit) (k:Int):G53 m k=some (if Hp.has m k then (false,m) else (true,Hp.put m k ())):=by
 unfold G53
 cases Hp.has m k <;> rfl
structure Q49 (s:H8) (U:List Int) (states:List (List G6)):Prop where
 small:Small s
 each:∀ st∈states,∀ x∈st,x.H2∈U∧ColIn s x.Slot
 len:U.length≤1000
structure BoxOk (calls:Int) (b:H2):Prop where
 id:5≤b.ID∧b.ID≤999999
 size:b.Size=40∨(b.Size=20∧b.High=false)
 load:0≤b.Load
 stay:b.Load < b.Discharge
 out:b.Discharge < calls
structure BoxesOk (calls:Int) (boxes:List H2):Prop where
 num:1≤calls∧calls≤20
 len:boxes.length≤8
 each:∀ b∈boxes,BoxOk calls b
 sorted:boxes.Pairwise (fun a b=>a.ID < b.ID)
theorem Hd9 {l:List Int} (h:l.Pairwise (· < ·)):l.Nodup:=h.imp (fun h=>by omega)
theorem BoxesOk.ids {calls:Int} {boxes:List H2} (h:BoxesOk calls boxes):(boxes.map (·.ID)).Pairwise (· < ·):=List.pairwise_map.2 h.sorted
/-- A state of a plan that is right. -/
structure StateOk (s:H8) (boxes:List H2) (k:Int) (l:List G6):Prop where
 right:R0 s boxes l
 ids:l.map (·.H2)=aboardL boxes k
theorem aboard_len (boxes:List H2) (k:Int):(aboardL boxes k).length≤boxes.length:=by
 unfold aboardL
 rw [List.length_map]
 exact List.length_filter_le _ _
theorem StateOk.len {s:H8} {boxes:List H2} {k:Int} {l:List G6} (h:StateOk s boxes k l):l.length≤boxes.length:=by
 have:=congrArg List.length h.ids
 rw [List.length_map] at this
 rw [this]
 exact aboard_len boxes k
theorem Small.tier {s:H8} (h:Small s):∀ c∈s.Columns,c.Tiers≤1000000:=fun c hc=>by have:=h.tiers c hc; omega
theorem J60 {s:H8} {x:Slot} {size:Int} (h:Jb6 s x size):ColIn s x:=by
 obtain⟨m,c,h1,h2,_⟩:=h.col
 exact⟨m,c,h1,h2⟩
theorem states_ok {s:H8} {boxes:List H2} {before after:List G6} (hs:Small s) (h1:R0 s boxes before) (h2:R0 s boxes after) (l1:before.length≤100) (l2:after.length≤100) :
  Q49 s (before.map (·.H2)++after.map (·.H2)) [before,after]:=by
 refine⟨hs,fun st hst x hx=>?_,by simp only [List.length_append,List.length_map]; omega⟩
 simp only [List.mem_cons,List.not_mem_nil,or_false] at hst
 rcases hst with rfl | rfl
 ·obtain⟨b,_,hb,_⟩:=h1.each x hx
  exact⟨List.mem_append.2 (.inl (List.mem_map.2 ⟨x,hx,rfl⟩)),J60 hb⟩
 ·obtain⟨b,_,hb,_⟩:=h2.each x hx
  exact⟨List.mem_append.2 (.inr (List.mem_map.2 ⟨x,hx,rfl⟩)),J60 hb⟩
theorem rightP_nil {s:H8} {boxes:List H2}:R0 s boxes []:=⟨fun x hx=>(List.not_mem_nil hx).elim,List.Pairwise.nil,List.Pairwise.nil,fun m c _=>by
 unfold Je7 G98
 simp only [List.foldl_nil]
 omega⟩
theorem J8b {a b:List Int} (ha:a.Pairwise (· < ·)) (hb:b.Pairwise (· < ·)) (h:∀ x,x∈a ↔ x∈b):a=b:=
 List.Perm.eq_of_pairwise (le:=fun x y:Int=>x < y) (fun x y _ _ h1 h2=>by omega) ha hb ((List.perm_ext_iff_of_nodup (Hd9 ha) (Hd9 hb)).2 h)
/-- A state in the making, behind a call. -/
structure VInv (s:H8) (boxes:List H2) (k:Int) (l:List G6):Prop where
 right:R0 s boxes l
 mem:∀ x∈l,∃ b∈boxes,b.ID=x.H2∧abB k b=true
theorem VInv.nil {s:H8} {boxes:List H2} {k:Int}:VInv s boxes k []:=⟨rightP_nil,fun x hx=>(List.not_mem_nil hx).elim⟩
theorem VInv.len {s:H8} {boxes:List H2} {k:Int} {l:List G6} (h:VInv s boxes k l):l.length≤boxes.length:=by
 have h1:(l.map (·.H2)).Pairwise (· < ·):=List.pairwise_map.2 h.right.sorted
 have:=(Hd9 h1).length_le_of_subset (l₂:=boxes.map (·.ID)) (fun a ha=>by
  obtain⟨x,hx,rfl⟩:=List.mem_map.1 ha
  obtain⟨b,hb,e,_⟩:=h.mem x hx
  exact List.mem_map.2 ⟨b,hb,e⟩)
 rw [List.length_map,List.length_map] at this
 exact this
/-- y stands on deck upon the cover that x stands under. -/
def upon (s:H8) (x y:Slot):Prop:=∃ (m:Nat) (c:G4) (m1:Nat) (c1:G4),x.G4=(m:Int)∧s.Columns[m]? = some c∧y.G4=(m1:Int)∧s.Columns[m1]? = some c1∧c.Deck=false∧c1.Deck=true∧0≤Rs s c∧Rs s c1=Rs s c
def H1e (s:H8) (states:List (List G6)) (st:List G6) (a b:Int):Prop:=
 (Qz st a).2=true∧((∃ y∈st,y.H2=b∧J93 y.Slot (Qz st a).1)∨∃ st2∈states,∃ y∈st2,y.H2=b∧upon s (Qz st a).1 y.Slot)
/-- To lift a, b has to be lifted. -/
def G63 (s:H8) (states:List (List G6)) (a b:Int):Prop:=∃ st∈states,H1e s states st a b
structure Grown (s:H8) (U:List Int) (states:List (List G6)) (l:List Int) (id:Int) (m:Hp Int Unit) (l':List Int):Prop where
 inv:J43 U m l'
 sub:∀ a∈l,a∈l'
 has:id∈l'
 closed:∀ a∈l',a ∉ l→∀ b,G63 s states a b→b∈l'
 least:∀ C:Int→Prop,(∀ a b,C a→G63 s states a b→C b)→(∀ a∈l,C a)→C id→∀ a∈l',C a
structure Rch (s:H8) (U:List Int) (states:List (List G6)) (l:List Int) (id:Int) (m:Hp Int Unit) (l':List Int):Prop where
 inv:J43 U m l'
 sub:∀ a∈l++[id],a∈l'
 closed:∀ a∈l',a ∉ l→a≠id→∀ b,G63 s states a b→b∈l'
 least:∀ C:Int→Prop,(∀ a b,C a→G63 s states a b→C b)→(∀ a∈l,C a)→C id→∀ a∈l',C a
section
variable {s:H8} {U:List Int} {states:List (List G6)} {l l' l2:List Int} {id y:Int} {m m2:Hp Int Unit}
theorem Rch.start (h:J43 U m (l++[id])):Rch s U states l id m (l++[id]):=
 ⟨h,fun a ha=>ha,fun a ha h1 h2=>by
  rcases List.mem_append.1 ha with ha | ha
  ·exact(h1 ha).elim
  ·exact(h2 (List.mem_singleton.1 ha)).elim,fun C _ hl hid a ha=>by
  rcases List.mem_append.1 ha with ha | ha
  ·exact hl a ha
  ·exact List.mem_singleton.1 ha ▸ hid⟩
theorem Rch.step (h:Rch s U states l id m l') (hp:G63 s states id y) (g:Grown s U states l' y m2 l2):Rch s U states l id m2 l2∧(∀ a∈l',a∈l2)∧y∈l2:=
 ⟨⟨g.inv,fun a ha=>g.sub a (h.sub a ha),fun a ha h1 h2 b hb=>by
  by_cases hal:a∈l'
  ·exact g.sub b (h.closed a hal h1 h2 b hb)
  ·exact g.closed a ha hal b hb,fun C hc hl hid=>g.least C hc (h.least C hc hl hid) (hc id y hid hp)⟩,g.sub,g.has⟩
end
theorem Hb1 {α:Type} {P:α→Prop} {l:List α} {x:α} (h1:∀ y∈l,P y) (h2:P x):∀ y∈l++[x],P y:=fun y hy=>by
 rcases List.mem_append.1 hy with hy | hy
 ·exact h1 y hy
 ·exact List.mem_singleton.1 hy ▸ h2
theorem add_full {s:H8} {U:List Int} {states:List (List G6)} (hs:Q49 s U states):∀ (F:Nat) (id:Int) (m:Hp Int Unit) (l:List Int),J43 U m l→id∈U→U.length+1≤F+l.length →
  Wp (G3e F id m l states s) (fun r=>Grown s U states l id r.1 r.2):=by
 intro F
 induction F with
 | zero=>intro id m l hi _ hF; have:=hi.le; omega
 | succ F ih=>
  intro id m l hi hid hF
  show Wp (G8d (G3e F) F id m l states s) _
  unfold G8d
  refine Gy (set_add m id) ?_
  rw [hi.has]
  by_cases hmem:id∈l
  ·rw [if_pos (decide_eq_true hmem)]
   exact Hm (fun _=>Gn ⟨hi,fun a ha=>ha,hmem,fun a ha hn=>(hn ha).elim,fun C _ hl _ a ha=>hl a ha⟩) (fun h=>by cases h)
  rw [if_neg (by rw [decide_eq_false hmem]; exact Bool.false_ne_true)]
  refine Hm (fun h=>by cases h) (fun _=>?_)
  have hle:=hi.le
  have hlen:=hs.len
  have h1:=hi.snoc hmem hid
  have h1le:=h1.le
  have hl1:(l++[id]).length=l.length+1:=by simp
  refine Qy (room_ok (by rw [List.length_singleton]; omega) (by omega)) ?_
  have again:∀ (y:G6) (st:List G6) (m':Hp Int Unit) (l':List Int),st∈states→y∈st→Rch s U states l id m' l'→G63 s states id y.H2 →
    Wp (G3e F y.H2 m' l' states s) (fun r=>Rch s U states l id r.1 r.2∧(∀ a∈l',a∈r.2)∧y.H2∈r.2):=
   fun y st m' l' h2 h3 h4 h5=>wp_mono (ih y.H2 m' l' h4.inv (hs.each st h2 y h3).1 (by
    have:=h1.nodup.length_le_of_subset (fun a ha=>h4.sub a ha)
    omega)) (fun r hr=>h4.step h5 hr)
  have hcov:∀ {k:Nat} {c:G4},s.Columns[k]? = some c→G33 s (k:Int)=some (Rs s c):=fun hc=>J7a hc (fun x hx=>by have:=hs.small.rows x hx; omega) (by have:=hs.small.covs; omega)
  refine Q3 (fun pre s7=>Rch s U states l id s7.1 s7.2∧∀ st∈pre,∀ b,H1e s states st id b→b∈s7.2) ⟨.start h1,fun st h=>(List.not_mem_nil h).elim⟩ (fun pre st post s7 nx e hI hnx=>?_) (fun s7 hI=>Gn ?_)
  ·have hst:st∈states:=by rw [e]; simp
   obtain⟨hR,hD⟩:=hI
   refine G82 (fun j=>Rch s U states l id j.1 j.2∧(∀ a∈s7.2,a∈j.2)∧∀ b,H1e s states st id b→b∈j.2) (fun K hK=>?_) (fun j hj=>hnx _ ⟨hj.1,Hb1 (fun st' h' b hb=>hj.2.1 _ (hD st' h' b hb)) hj.2.2⟩)
   refine Gy (Jaa st id) (Hm (fun hf=>hK _ ⟨hR,fun a ha=>ha,fun b hb=>?_⟩) (fun hf=>?_))
   ·rw [hb.1] at hf; cases hf
   have hft:(Qz st id).2=true:=by simpa using hf
   obtain⟨x,hx,_,hxs⟩:=J39 hft
   obtain⟨m0,c0,hm0,hc0⟩:=(hs.each st hst x hx).2
   rw [hxs]
   refine G82 (fun j17=>j17=if c0.Deck=true then -1 else Rs s c0) (fun K' hK'=>G43 hm0 hc0 (Hm (fun hd=>?_) (fun hd=>hK' _ (by
    rw [if_pos (by simpa using hd)])))) (fun j17 h17=>?_)
   ·rw [hm0]
    exact Gy (hcov hc0) (hK' _ (by rw [if_neg (by simpa using hd)]))
   refine Q3 (fun pre s56=>Rch s U states l id s56.1 s56.2∧(∀ a∈s7.2,a∈s56.2)∧∀ y∈pre,J93 y.Slot x.Slot→y.H2∈s56.2) ⟨hR,fun a ha=>ha,fun y h=>(List.not_mem_nil h).elim⟩ (fun pre y post s56 nx e hI hnx=>?_) (fun s56 hI=>?_)
   ·have hy:y∈st:=by rw [e]; simp
    obtain⟨i1,i2,i3⟩:=hI
    refine G82 (fun j=>Rch s U states l id j.1 j.2∧(∀ a∈s56.2,a∈j.2)∧(J93 y.Slot x.Slot→y.H2∈j.2)) (fun K' hK'=>?_) (fun j hj=>hnx _ ⟨hj.1,fun a ha=>hj.2.1 a (i2 a ha),Hb1 (fun y' h' ho=>hj.2.1 _ (i3 y' h' ho)) hj.2.2⟩)
    refine H5 (wp_mono (slot_over y.Slot x.Slot) (fun r62 h62=>Hm (fun hr=>?_) (fun hr=>hK' _ ⟨i1,fun a ha=>ha,fun ho=>?_⟩)))
    ·exact H5 (wp_mono (again y st _ _ hst hy i1 ⟨st,hst,hft,.inl ⟨y,hy,rfl,by rw [hxs]; exact h62.1 hr⟩⟩) (fun r hr=>hK' _ ⟨hr.1,hr.2.1,fun _=>hr.2.2⟩))
    ·rw [h62.2 ho] at hr; cases hr
   ·obtain⟨i1,i2,i3⟩:=hI
    refine Q3 (fun pre s65=>Rch s U states l id s65.1 s65.2∧(∀ a∈s56.2,a∈s65.2)∧∀ st2∈pre,∀ y∈st2,upon s x.Slot y.Slot→y.H2∈s65.2) ⟨i1,fun a ha=>ha,fun st2 h=>(List.not_mem_nil h).elim⟩ (fun pre st2 post s65 nx e hI hnx=>?_) (fun s65 hI=>hK _ ⟨hI.1,fun a ha=>hI.2.1 a (i2 a ha),fun b hb=>?_⟩)
    ·obtain⟨j1,j2,j3⟩:=hI
     have hst2:st2∈states:=by rw [e]; simp
     refine Q3 (fun pre s107=>Rch s U states l id s107.1 s107.2∧(∀ a∈s65.2,a∈s107.2)∧∀ y∈pre,upon s x.Slot y.Slot→y.H2∈s107.2) ⟨j1,fun a ha=>ha,fun y h=>(List.not_mem_nil h).elim⟩ (fun pre y post s107 nx2 e hI hnx2=>?_) (fun s107 hI=>hnx _ ⟨hI.1,fun a ha=>hI.2.1 a (j2 a ha),Hb1 (fun st' h' y hy hu=>hI.2.1 _ (j3 st' h' y hy hu)) hI.2.2⟩)
     obtain⟨k1,k2,k3⟩:=hI
     have hy:y∈st2:=by rw [e]; simp
     obtain⟨m1,c1,hm1,hc1⟩:=(hs.each st2 hst2 y hy).2
     have hup:upon s x.Slot y.Slot ↔ (0≤j17∧c1.Deck=true∧Rs s c1=j17):=by
      constructor
      ·rintro⟨n0,d0,n1,d1,e1,e2,e3,e4,q1,q2,q3,q4⟩
       have e5:n0=m0:=by omega
       have e6:n1=m1:=by omega
       subst e5 e6
       rw [hc0] at e2; cases e2
       rw [hc1] at e4; cases e4
       rw [if_neg (by rw [q1]; exact Bool.false_ne_true)] at h17
       rw [h17]
       exact⟨q3,q2,q4⟩
      ·rintro⟨q1,q2,q3⟩
       by_cases hd:c0.Deck=true
       ·rw [if_pos hd] at h17; omega
       ·rw [if_neg hd] at h17
        exact⟨m0,c0,m1,c1,hm0,hc0,hm1,hc1,by simpa using hd,q2,by omega,by omega⟩
     refine G82 (fun j=>Rch s U states l id j.1 j.2∧(∀ a∈s107.2,a∈j.2)∧(upon s x.Slot y.Slot→y.H2∈j.2)) (fun K' hK'=>?_) (fun j hj=>hnx2 _ ⟨hj.1,fun a ha=>hj.2.1 a (k2 a ha),Hb1 (fun y' h' ho=>hj.2.1 _ (k3 y' h' ho)) hj.2.2⟩)
     by_cases hj:0≤j17
     ·rw [decide_eq_true hj]
      simp only [cond_true,Bool.true_and]
      refine H5 (G43 hm1 hc1 (Gn ?_))
      cases hd:c1.Deck with
      | true=>
       simp only [cond_true,Bool.true_and]
       rw [hm1]
       refine Gy (hcov hc1) (Hm (fun hc=>?_) (fun hc=>hK' _ ⟨k1,fun a ha=>ha,fun hu=>?_⟩))
       ·exact H5 (wp_mono (again y st2 _ _ hst2 hy k1 ⟨st,hst,hft,.inr ⟨st2,hst2,y,hy,rfl,by rw [hxs]; exact hup.2 ⟨hj,hd,of_decide_eq_true hc⟩⟩⟩) (fun r hr=>hK' _ ⟨hr.1,hr.2.1,fun _=>hr.2.2⟩))
       ·exact(of_decide_eq_false hc (hup.1 hu).2.2).elim
      | false=>
       simp only [cond_false,Bool.false_and]
       exact H5 (Gn (hK' _ ⟨k1,fun a ha=>ha,fun hu=>by have:=(hup.1 hu).2.1; rw [hd] at this; cases this⟩))
     ·rw [decide_eq_false hj]
      simp only [cond_false,Bool.false_and]
      exact H5 (Gn (H5 (Gn (hK' _ ⟨k1,fun a ha=>ha,fun hu=>(hj (hup.1 hu).1).elim⟩))))
    ·rcases hb.2 with ⟨y,hy,rfl,ho⟩ | ⟨st2,h2,y,hy,rfl,hu⟩
     ·exact hI.2.1 _ (i3 y hy (by rw [← hxs]; exact ho))
     ·exact hI.2.2 st2 h2 y hy (by rw [← hxs]; exact hu)
  ·obtain⟨hR,hD⟩:=hI
   refine⟨hR.inv,fun a ha=>hR.sub a (List.mem_append.2 (.inl ha)),hR.sub id (by simp),fun a ha hn b hb=>?_,hR.least⟩
   by_cases e:a=id
   ·subst e
    obtain⟨st,hst,hp⟩:=hb
    exact hD st hst b hp
   ·exact hR.closed a ha hn e b hb
structure J26 (s:H8) (before after:List G6) (l:List Int):Prop where
 seeds:∀ st∈[before,after],∀ y∈st,Qz before y.H2≠Qz after y.H2→y.H2∈l
 closed:∀ a∈l,∀ b,G63 s [before,after] a b→b∈l
 least:∀ C:Int→Prop,(∀ a b,C a→G63 s [before,after] a b→C b)→(∀ st∈[before,after],∀ y∈st,Qz before y.H2≠Qz after y.H2→C y.H2)→∀ a∈l,C a
theorem J26.perm {s:H8} {before after:List G6} {l l':List Int} (h:J26 s before after l) (hp:∀ a,a∈l' ↔ a∈l):J26 s before after l':=
 ⟨fun st hst y hy hne=>(hp _).2 (h.seeds st hst y hy hne),fun a ha b hb=>(hp b).2 (h.closed a ((hp a).1 ha) b hb),fun C hc hl a ha=>h.least C hc hl a ((hp a).1 ha)⟩
theorem differ {p q:Slot×Bool}:((!(p.2==q.2))||(!decide (p.1=q.1)))=true ↔ p≠q:=by
 obtain⟨p1,p2⟩:=p
 obtain⟨q1,q2⟩:=q
 simp only [Bool.or_eq_true,Bool.not_eq_true',beq_eq_false_iff_ne,decide_eq_false_iff_not,ne_eq,Prod.mk.injEq,not_and]
 constructor
 ·rintro(h | h) h1 h2
  ·exact h h2
  ·exact h h1
 ·intro h
  by_cases e:p1=q1
  ·exact .inl (h e)
  ·exact .inr e
theorem lifted_full {s:H8} {U:List Int} {before after:List G6} (hs:Q49 s U [before,after]) {F:Nat} (hF:U.length+1≤F) :
  Wp (Gd1 F s before after) (fun r=>r.Pairwise (· < ·)∧(∀ a∈r,a∈U)∧J26 s before after r):=by
 unfold Gd1
 have go:∀ {m:Hp Int Unit} {l:List Int} {y:G6} {st:List G6} {m2:Hp Int Unit} {l2:List Int},st∈[before,after]→y∈st→Qz before y.H2≠Qz after y.H2 →
   (J43 U m l∧(∀ a∈l,∀ b,G63 s [before,after] a b→b∈l)∧∀ C:Int→Prop,(∀ a b,C a→G63 s [before,after] a b→C b)→(∀ st∈[before,after],∀ y∈st,Qz before y.H2≠Qz after y.H2→C y.H2)→∀ a∈l,C a) →
   Grown s U [before,after] l y.H2 m2 l2 →
   (J43 U m2 l2∧(∀ a∈l2,∀ b,G63 s [before,after] a b→b∈l2)∧∀ C:Int→Prop,(∀ a b,C a→G63 s [before,after] a b→C b)→(∀ st∈[before,after],∀ y∈st,Qz before y.H2≠Qz after y.H2→C y.H2)→∀ a∈l2,C a):=
  fun {m l y st m2 l2} hst hy hne hI g=>⟨g.inv,fun a ha b hb=>by
   by_cases hal:a∈l
   ·exact g.sub b (hI.2.1 a hal b hb)
   ·exact g.closed a ha hal b hb,fun C hc hl=>g.least C hc (hI.2.2 C hc hl) (hl st hst y hy hne)⟩
 refine Q3 (fun pre s9=>(J43 U s9.1 s9.2∧(∀ a∈s9.2,∀ b,G63 s [before,after] a b→b∈s9.2)∧∀ C:Int→Prop,(∀ a b,C a→G63 s [before,after] a b→C b)→(∀ st∈[before,after],∀ y∈st,Qz before y.H2≠Qz after y.H2→C y.H2)→∀ a∈s9.2,C a) ∧
   ∀ st∈pre,∀ y∈st,Qz before y.H2≠Qz after y.H2→y.H2∈s9.2)
  ⟨⟨.start,fun a h=>(List.not_mem_nil h).elim,fun C _ _ a h=>(List.not_mem_nil h).elim⟩,fun st h=>(List.not_mem_nil h).elim⟩ (fun pre st post s9 nx e hI hnx=>?_) (fun s9 hI=>?_)
 ·have hst:st∈[before,after]:=by rw [e]; simp
  obtain⟨hA,hB⟩:=hI
  refine Q3 (fun pre s59=>(J43 U s59.1 s59.2∧(∀ a∈s59.2,∀ b,G63 s [before,after] a b→b∈s59.2)∧∀ C:Int→Prop,(∀ a b,C a→G63 s [before,after] a b→C b)→(∀ st∈[before,after],∀ y∈st,Qz before y.H2≠Qz after y.H2→C y.H2)→∀ a∈s59.2,C a) ∧
    (∀ a∈s9.2,a∈s59.2)∧∀ y∈pre,Qz before y.H2≠Qz after y.H2→y.H2∈s59.2)
   ⟨hA,fun a ha=>ha,fun y h=>(List.not_mem_nil h).elim⟩ (fun pre y post s59 nx2 e hI hnx2=>?_) (fun s59 hI=>hnx _ ⟨hI.1,Hb1 (fun st' h' y hy hne=>hI.2.1 _ (hB st' h' y hy hne)) hI.2.2⟩)
  have hy:y∈st:=by rw [e]; simp
  obtain⟨j1,j2,j3⟩:=hI
  refine G82 (fun j=>(J43 U j.1 j.2∧(∀ a∈j.2,∀ b,G63 s [before,after] a b→b∈j.2)∧∀ C:Int→Prop,(∀ a b,C a→G63 s [before,after] a b→C b)→(∀ st∈[before,after],∀ y∈st,Qz before y.H2≠Qz after y.H2→C y.H2)→∀ a∈j.2,C a) ∧
    (∀ a∈s59.2,a∈j.2)∧(Qz before y.H2≠Qz after y.H2→y.H2∈j.2)) (fun K hK=>?_) (fun j hj=>hnx2 _ ⟨hj.1,fun a ha=>hj.2.1 a (j2 a ha),Hb1 (fun y' h' ho=>hj.2.1 _ (j3 y' h' ho)) hj.2.2⟩)
  refine Gy (Jaa before y.H2) (Gy (Jaa after y.H2) (Hm (fun hd=>?_) (fun hd=>hK _ ⟨j1,fun a ha=>ha,fun hne=>?_⟩)))
  ·have hne:=differ.1 hd
   exact H5 (wp_mono (add_full hs F y.H2 _ _ j1.1 (hs.each st hst y hy).1 (by omega)) (fun r hr=>hK _ ⟨go hst hy hne j1 hr,hr.sub,fun _=>hr.has⟩))
  ·rw [differ.2 hne] at hd; cases hd
 ·obtain⟨⟨hA,hB,hC⟩,hD⟩:=hI
  have h1:=hA.le
  have h2:=hs.len
  have hse:Ja5 s9.2=some (H05 s9.2):=by
   unfold Ja5
   rw [decide_eq_true (show s9.2.length < 4611686018427387904 by omega)]
   rfl
  have hp:=Hdb s9.2
  refine Gy hse (Gn ⟨?_,fun a ha=>hA.sub a (hp.mem_iff.1 ha),J26.perm ⟨hD,hB,hC⟩ (fun a=>hp.mem_iff)⟩)
  have hn:(H05 s9.2).Nodup:=hp.nodup_iff.2 hA.nodup
  exact(List.pairwise_and_iff.2 ⟨Hda s9.2,hn⟩).imp (fun {a b} h=>by have h1:=h.1; have h2:=h.2; omega)
theorem J10 {α:Type} {a b x:α} (h:x∈[a,b]):x∈[b,a]:=by
 simp only [List.mem_cons,List.not_mem_nil,or_false] at h ⊢
 exact h.symm
theorem G63.swap {s:H8} {a b:List G6} {x y:Int} (h:G63 s [a,b] x y):G63 s [b,a] x y:=by
 obtain⟨st,hst,h1,h2⟩:=h
 exact⟨st,J10 hst,h1,h2.imp _root_.id (fun⟨st2,h3,h4⟩=>⟨st2,J10 h3,h4⟩)⟩
theorem J26.le {s:H8} {before after:List G6} {l l':List Int} (h:J26 s before after l) (h':J26 s after before l'):∀ a∈l,a∈l':=
 h.least (·∈l') (fun a b ha hb=>h'.closed a ha b hb.swap) (fun st hst y hy hne=>h'.seeds st (J10 hst) y hy (fun e=>hne e.symm))
end Go.Proofs.YteogacmpgdpjlaaGreat
