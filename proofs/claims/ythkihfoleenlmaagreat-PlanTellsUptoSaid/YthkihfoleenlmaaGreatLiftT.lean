/- When a state is right,and which bx are lf: -/
import Derived.Test.YthkihfoleenlmaaGreatShipT
set_option maxRecDepth 100000
namespace Go.Proofs.YthkihfoleenlmaaGreat
open Go.RowKit

theorem uG {n k:Nat} (hn:n≤1000001) (hk:k≤1000):decide (n*k≤140737488355328/\n≤maxLen)=true:=by
 have h:n*k≤1000001*1000:=Nat.mul_le_mul hn hk
 have h2:n≤maxLen:=Nat.le_trans hn (by decide)
 exact P8 ⟨by omega,h2⟩
theorem sS {J β:Type} {x:J} {k:J→Option β}:bnd (some x) k=k x:=rfl
def uO {J:Type} (p:J→Bool) (l:List J):Int:=match l.findIdx? p with
 | some j=>(j:Int)
 | none => -1
theorem sR {J:Type} {p:J→Bool} {f:J→Option Bool} {xs:List J} (hf:∀ x∈xs,f x=some (p x)) :
  each (fun y i (_:Unit) nx=>bnd (f y) fun r=>bif r then some (i:Int) else nx ()) (fun _=>some (-1)) xs 0 ()=some (uO p xs):=by
 have key:∀ (xs:List J),(∀ x∈xs,f x=some (p x))→∀ i:Nat,each (fun y i (_:Unit) nx=>bnd (f y) fun r=>bif r then some (i:Int) else nx ()) (fun _=>some (-1)) xs i ()=some (match xs.findIdx? p with
  | some j=>((i+j:Nat):Int)
  | none => -1):=by
  intro xs
  induction xs with
  | nil=>intro _ i; rfl
  | cons x xs ih=>
   intro hf i
   rw [each,hf x (List.mem_cons_self ..),sS,List.findIdx?_cons]
   cases p x with
   | true=>simp
   | false=>
    simp only [cond_false]
    rw [ih (fun y hy=>hf y (List.mem_cons_of_mem _ hy)) (i+1)]
    cases xs.findIdx? p with
    | none=>simp
    | some j=>show some (((i+1+j:Nat)):Int)=some (((i+(j+1):Nat)):Int); rw [show i+1+j=i+(j+1) by omega]
 rw [key xs hf 0]
 unfold uO
 cases xs.findIdx? p <;> simp
theorem lK {J:Type} (p:J→Bool) (l:List J):(uO p l = -1/\(∀ x∈l,p x=false)/\l.find? p=none)\/∃ (m:Nat) (x:J),uO p l=(m:Int)/\l[m]? = some x/\p x=true/\l.find? p=some x:=by
 unfold uO
 cases h:l.findIdx? p with
 | none=>
  have:=List.findIdx?_eq_none_iff.1 h
  exact .inl ⟨rfl,this,List.find?_eq_none.2 (fun x hx=>by rw [this x hx]; simp)⟩
 | some j=>
  obtain⟨hj,h1,h2⟩:=List.findIdx?_eq_some_iff_getElem.1 h
  refine .inr ⟨j,l[j],rfl,by simp [hj],h1,?_⟩
  refine List.find?_eq_some_iff_getElem.2 ⟨h1,j,hj,rfl,fun k hk=>?_⟩
  simpa using h2 k hk
theorem RQ {J:Type} {p:J→Bool} {l:List J}:decide (0≤uO p l)=l.any p:=by
 rcases lK p l with ⟨h1,h2,_⟩ | ⟨m,x,h1,h2,h3,_⟩
 .rw [h1]
  refine Eq.symm (List.any_eq_false.2 fun x hx=>?_)
  rw [h2 x hx]; exact Bool.false_ne_true
 .rw [h1,P8 (by omega)]
  exact(List.any_eq_true.2 ⟨x,Pd h2,h3⟩).symm
def fH (bx:List Box) (id:Int):Option Box:=bx.find? (fun b=>decide (b.ID=id))
theorem G78 (bx:List Box) (id:Int):kG bx id=some (match fH bx id with
  | some b=>(b,true)
  | none=>(Box.mk 0 ByteArray.empty 0 false 0 0 0 0 false,false)):=by
 unfold kG
 have h:bF bx (fun z0=>iY z0 id)=some (uO (fun b:Box=>decide (b.ID=id)) bx):=sR (fun x _=>rfl)
 rw [h]
 simp only [sS]
 unfold fH
 rcases lK (fun b:Box=>decide (b.ID=id)) bx with ⟨h1,_,h3⟩ | ⟨m,x,h1,h2,_,h4⟩
 .rw [h1,h3]; rfl
 .rw [h1,h4,P9 (by omega),cond_false]
  unfold Jo
  rw [P8 (by omega),cond_true,show (m:Int).toNat=m by omega,h2]
  rfl
def G1e (l:List G2) (id:Int):Option G2:=l.find? (fun x=>decide (x.Box=id))
def GX (size:Int):List Int:=if size=40 then [0] else if size=20 then [1,2] else []
theorem H0d (size:Int):jA size=some (GX size):=by
 unfold jA GX
 by_cases h:size=40
 .simp [h]
 .by_cases h2:size=20
  .simp [h2]
  .simp [h,h2]
theorem J00 (l:List Int) (v:Int):aG l v=some (l.any (fun y=>decide (v=y))):=by
 unfold aG
 have h:cG l v=some (uO (fun y=>decide (v=y)) l):=by
  unfold cG
  exact sR (f:=fun y=>some (decide (v=y))) (fun x _=>rfl)
 rw [h]
 simp only [sS]
 rw [RQ]
theorem Gaf (l:List Slot) (v:Slot):Z8 l v=some (l.any (fun y=>decide (v=y))):=by
 unfold Z8
 have h:aU l v=some (uO (fun y=>decide (v=y)) l):=by
  unfold aU
  exact sR (f:=fun y=>some (decide (v=y))) (fun x _=>rfl)
 rw [h]
 simp only [sS]
 rw [RQ]
structure JM (s:Gq) (x:Slot) (size:Int):Prop where
 col:∃ (m:Nat) (c:G6),x.G6=(m:Int)/\s.Columns[m]? = some c/\x.Tier < c.Tiers
 tier:0≤x.Tier
 half:x.Half∈GX size
theorem H7f (s:Gq) (x:Slot) (size:Int):Wp (kT s x size) (fun r=>r=true ↔ JM s x size):=by
 unfold kT
 by_cases h0:0≤x.G6/\x.G6 < (s.Columns.length:Int)
 .by_cases h1:0≤x.Tier
  .obtain⟨m,hm⟩:∃ m:Nat,x.G6=(m:Int):=⟨x.G6.toNat,by omega⟩
   have h3:m < s.Columns.length:=by omega
   have hc:s.Columns[m]? = some s.Columns[m]:=by simp [h3]
   have e:(((decide (0≤x.G6))&&(decide (x.G6 < (s.Columns.length:Int))))&&(decide (0≤x.Tier)))=true:=by simp [h0.1,h0.2,h1]
   simp only [e,cond_true,Bool.true_and]
   refine Hc (dO hm hc (Gh ?_))
   by_cases h2:x.Tier < (s.Columns[m]).Tiers
   .rw [P8 h2]
    simp only [cond_true]
    refine Gu (H0d size) (Gu (J00 _ _) (Gh ?_))
    rw [Bool.true_and,List.any_eq_true]
    constructor
    .rintro⟨y,hy,he⟩
     have:=P6 he
     subst this
     exact⟨⟨m,_,hm,hc,h2⟩,h1,hy⟩
    .exact fun h=>⟨_,h.half,by simp⟩
   .rw [P9 h2]
    simp only [cond_false,Bool.false_and]
    refine Hc (Gh (Hc (Gh (Gh ⟨fun h=>(by cases h),fun h=>?_⟩))))
    obtain⟨m',c,g1,g2,g3⟩:=h.col
    have:m'=m:=by omega
    subst this
    rw [hc] at g2; cases g2
    exact(h2 g3).elim
  .simp only [P9 h1,Bool.and_false,cond_false,Bool.false_and]
   exact Hc (Gh (Hc (Gh (Hc (Gh (Gh ⟨fun h=>(by cases h),fun h=>(h1 h.tier).elim⟩))))))
 .have e:((decide (0≤x.G6))&&(decide (x.G6 < (s.Columns.length:Int))))=false:=by
   by_cases h:0≤x.G6
   .have:¬ x.G6 < (s.Columns.length:Int):=fun g=>h0 ⟨h,g⟩
    simp [this]
   .simp [h]
  simp only [e,Bool.false_and,cond_false]
  refine Hc (Gh (Hc (Gh (Hc (Gh (Gh ⟨fun h=>(by cases h),fun h=>?_⟩))))))
  obtain⟨m,c,g1,g2,_⟩:=h.col
  have:=(Pa g2).1
  exact(h0 (by omega)).elim
def below (l:List Slot) (x:Slot) (half:Int):Prop:=(⟨x.G6,x.Tier - 1,half⟩:Slot)∈l
def RU (x:Slot) (l:List Slot):Prop:=x.Tier≤0\/below l x x.Half\/(x.Half=0/\below l x 1/\below l x 2)
theorem zC (half:Int) (l:List Slot) (x:Slot) (ht : -1000000≤x.Tier/\x.Tier≤1000000):Wp (eQ half l x) (fun r=>r=true ↔ below l x half):=by
 unfold eQ
 refine bY ⟨by omega,by omega⟩ (Gu (Gaf _ _) (Gh ?_))
 rw [List.any_eq_true]
 constructor
 .rintro⟨y,hy,he⟩
  have:=P6 he
  subst this
  exact hy
 .exact fun h=>⟨_,h,by simp⟩
theorem He7 (x:Slot) (l:List Slot) (ht : -1000000≤x.Tier/\x.Tier≤1000000):Wp (mN x l) (fun r=>r=true ↔ RU x l):=by
 unfold mN RU
 refine Hq (fun h=>Gh ⟨fun _=>.inl (P6 h),fun _=>rfl⟩) (fun h=>?_)
 have h0:=P7 h
 refine Hc (wp_mono (zC x.Half l x ht) (fun r7 h7=>?_))
 cases r7 with
 | true=>
  simp only [Bool.not_true,Bool.false_and,cond_false,Bool.true_or]
  exact Hc (Gh (Hc (Gh (Gh ⟨fun _=>.inr (.inl (h7.1 rfl)),fun _=>rfl⟩))))
 | false=>
  have h1:¬ below l x x.Half:=fun h=>by have:=h7.2 h; cases this
  simp only [Bool.not_false,Bool.true_and,Bool.false_or]
  by_cases hh:x.Half=0
  .rw [P8 hh]
   simp only [cond_true,Bool.true_and]
   refine Hc (wp_mono (zC 1 l x ht) (fun r8 h8=>?_))
   cases r8 with
   | true=>
    simp only [cond_true,Bool.true_and]
    refine Hc (wp_mono (zC 2 l x ht) (fun r9 h9=>Gh ⟨fun h=>.inr (.inr ⟨hh,h8.1 rfl,h9.1 h⟩),fun h=>?_⟩))
    rcases h with h | h | ⟨_,_,h⟩
    .exact(h0 h).elim
    .exact(h1 h).elim
    .exact h9.2 h
   | false=>
    simp only [cond_false,Bool.false_and]
    refine Hc (Gh (Gh ⟨fun h=>(by cases h),fun h=>?_⟩))
    rcases h with h | h | ⟨_,h,_⟩
    .exact(h0 h).elim
    .exact(h1 h).elim
    .have:=h8.2 h; cases this
  .rw [P9 hh]
   simp only [cond_false,Bool.false_and]
   refine Hc (Gh (Hc (Gh (Gh ⟨fun h=>(by cases h),fun h=>?_⟩))))
   rcases h with h | h | ⟨h,_⟩
   .exact(h0 h).elim
   .exact(h1 h).elim
   .exact(hh h).elim
def qX (a b:Int):Prop:=a=b\/a=0\/b=0
theorem RB (a b:Int):Wp (gE a b) (fun r=>r=true ↔ qX a b):=by
 unfold gE qX
 refine Gh ?_
 simp [or_assoc]
def vA (a b:Slot):Prop:=a.G6=b.G6/\a.Tier=b.Tier/\qX a.Half b.Half
theorem He6 (a b:Slot):Wp (mM a b) (fun r=>r=true ↔ vA a b):=by
 unfold mM vA
 by_cases h:a.G6=b.G6/\a.Tier=b.Tier
 .simp only [P8 h.1,P8 h.2,Bool.and_self,cond_true,Bool.true_and]
  exact Hc (wp_mono (RB _ _) (fun r hr=>Gh ⟨fun e=>⟨h.1,h.2,hr.1 e⟩,fun e=>hr.2 e.2.2⟩))
 .have e:(decide (a.G6=b.G6)&&decide (a.Tier=b.Tier))=false:=by
   by_cases h1:a.G6=b.G6
   .have:¬ a.Tier=b.Tier:=fun h2=>h ⟨h1,h2⟩
    simp [this]
   .simp [h1]
  simp only [e,cond_false,Bool.false_and]
  exact Hc (Gh (Gh ⟨fun e=>(by cases e),fun e=>(h ⟨e.1,e.2.1⟩).elim⟩))
def HE (a b:Slot):Prop:=a.G6=b.G6/\b.Tier < a.Tier/\qX a.Half b.Half
theorem He5 (a b:Slot):Wp (mL a b) (fun r=>r=true ↔ HE a b):=by
 unfold mL HE
 by_cases h:a.G6=b.G6/\b.Tier < a.Tier
 .simp only [P8 h.1,P8 h.2,Bool.and_self,cond_true,Bool.true_and]
  exact Hc (wp_mono (RB _ _) (fun r hr=>Gh ⟨fun e=>⟨h.1,h.2,hr.1 e⟩,fun e=>hr.2 e.2.2⟩))
 .have e:(decide (a.G6=b.G6)&&decide (b.Tier < a.Tier))=false:=by
   by_cases h1:a.G6=b.G6
   .have:¬ b.Tier < a.Tier:=fun h2=>h ⟨h1,h2⟩
    simp [this]
   .simp [h1]
  simp only [e,cond_false,Bool.false_and]
  exact Hc (Gh (Gh ⟨fun e=>(by cases e),fun e=>(h ⟨e.1,e.2.1⟩).elim⟩))
def G77 (b:Box):Int:=if b.High then 2896 else 2591
def zO (bx:List Box) (column half:Int) (n:Int) (x:G2):Int:=
 if x.Slot.G6=column/\(x.Slot.Half=half\/x.Slot.Half=0) then (match fH bx x.Box with | some b=>n+G77 b | none=>n) else n
def gI (bx:List Box) (l:List G2) (column half:Int):Int:=l.foldl (zO bx column half) 0
theorem Hc6 {bx:List Box} {column half n:Int} {x:G2}:n≤zO bx column half n x/\zO bx column half n x≤n+2896:=by
 unfold zO G77
 split
 .split
  .split <;> omega
  .omega
 .omega
theorem QY (bx:List Box) (l:List G2) (column half:Int) (hl:l.length≤1000000):gD bx l column half=some (gI bx l column half):=by
 refine bG ?_
 unfold gD gI
 refine Q2 (fun pre n=>n=pre.foldl (zO bx column half) 0/\0≤n/\n≤2896*pre.length) ⟨rfl,Int.le_refl _,by simp⟩ (fun pre y post n nx e hn h5=>?_) (fun n hn=>Gh hn.1)
 obtain⟨rfl,h1,h2⟩:=hn
 have hp:pre.length+1≤l.length:=by rw [e]; simp
 have ha:=Hc6 (bx:=bx) (column:=column) (half:=half) (n:=pre.foldl (zO bx column half) 0) (x:=y)
 have h4:((pre++[y]).length:Int)=pre.length+1:=by simp
 generalize hg:pre.foldl (zO bx column half) 0=n at *
 refine oP (fun j=>j=zO bx column half n y) (fun K hK=>?_) (fun j hj=>h5 _ ⟨by rw [hj,List.foldl_append,hg]; rfl,by omega,by rw [h4]; omega⟩)
 refine Hq (fun hc=>?_) (fun hc=>hK _ ?_)
 .have h0:y.Slot.G6=column/\(y.Slot.Half=half\/y.Slot.Half=0):=by simpa using hc
  refine Gu (G78 bx y.Box) ?_
  cases hf:fH bx y.Box with
  | none=>exact Hq (fun h=>by cases h) (fun _=>hK _ (by unfold zO; rw [if_pos h0,hf]))
  | some b=>
   refine Hq (fun _=>?_) (fun h=>by cases h)
   have ht:mJ b=some (G77 b):=by unfold mJ G77; cases b.High <;> rfl
   have h3:zO bx column half n y=n+G77 b:=by unfold zO; rw [if_pos h0,hf]
   refine Gu ht (bY ?_ (hK _ h3.symm))
   rw [← h3]
   omega
 .have h0:¬ (y.Slot.G6=column/\(y.Slot.Half=half\/y.Slot.Half=0)):=by simpa using hc
  unfold zO; rw [if_neg h0]
def RW (bx:List Box) (l:List G2) (m:Nat) (c:G6):Prop:=c.Height≤0\/(gI bx l m 1≤c.Height/\gI bx l m 2≤c.Height)
theorem He2 {s:Gq} {bx:List Box} {l:List G2} {m:Nat} {c:G6} (hc:s.Columns[m]? = some c) (hl:l.length≤1000000):Wp (mK s bx l (m:Int)) (fun r=>r=true ↔ RW bx l m c):=by
 unfold mK RW
 refine dO rfl hc ?_
 by_cases h:c.Height≤0
 .simp only [P8 h,Bool.not_true,cond_false,Bool.false_and,Bool.true_or]
  exact Hc (Gh (Hc (Gh (Gh ⟨fun _=>.inl h,fun _=>rfl⟩))))
 .simp only [P9 h,Bool.not_false,cond_true,Bool.true_and,Bool.false_or]
  refine Gu (QY bx l m 1 hl) ?_
  by_cases h1:gI bx l m 1≤c.Height
  .rw [P8 h1]
   simp only [cond_true,Bool.true_and]
   exact Gu (QY bx l m 2 hl) (Gh ⟨fun e=>.inr ⟨h1,P6 e⟩,fun e=>P8 (e.elim (fun e=>(h e).elim) (·.2))⟩)
  .rw [P9 h1]
   simp only [cond_false,Bool.false_and]
   exact Hc (Gh (Gh ⟨fun e=>(by cases e),fun e=>e.elim (fun e=>(h e).elim) (fun e=>(h1 e.1).elim)⟩))
theorem H7a (l:List G2) (hl:l.length≤1000000):kS l=some (l.map (·.Slot)):=by
 refine bG ?_
 unfold kS
 refine Q2 (fun pre s=>s=pre.map (·.Slot)) rfl (fun pre y post s nx e hs h0=>?_) (fun s hs=>Gh hs)
 subst hs
 have hp:pre.length+1≤l.length:=by rw [e]; simp
 exact aJ (uG (by simp only [Pr,Po]; omega) (by omega)) (h0 _ (by simp))
structure Yg (s:Gq) (bx:List Box) (l:List G2):Prop where
 each:∀ x∈l,∃ b,fH bx x.Box=some b/\JM s x.Slot b.Size/\RU x.Slot (l.map (·.Slot))
 sorted:l.Pairwise (fun a b=>a.Box < b.Box)
 apart:l.Pairwise (fun a b=>¬ vA b.Slot a.Slot)
 fits:∀ m c,s.Columns[m]? = some c→RW bx l m c
theorem yB {J:Type} {R:J→J→Prop} {l:List J} {x:J} (h:l.Pairwise R) (hx:∀ a∈l,R a x):(l++[x]).Pairwise R:=by
 rw [List.pairwise_append]
 refine⟨h,List.pairwise_singleton ..,fun a ha b hb=>?_⟩
 rw [Pu] at hb; subst hb
 exact hx a ha
theorem uJ {J:Type} {R:J→J→Prop} {pre post:List J} {y:J} (h:(pre++y::post).Pairwise R):∀ a∈pre,R a y:=fun a ha=>(List.pairwise_append.1 h).2.2 a ha y (List.mem_cons_self ..)
theorem H7b {s:Gq} {bx:List Box} {l:List G2} (hr:fI s=some true) (ht:∀ c∈s.Columns,c.Tiers≤1000000) (hl:l.length≤1000000):Wp (cW s bx l) (fun r=>r=true ↔ Yg s bx l):=by
 unfold cW
 refine Gu hr (Hq (fun h=>by cases h) (fun _=>?_))
 refine Gu (H7a l hl) ?_
 refine Q2 (fun pre _=>(∀ x∈pre,∃ b,fH bx x.Box=some b/\JM s x.Slot b.Size/\RU x.Slot (l.map (·.Slot)))/\pre.Pairwise (fun a b=>a.Box < b.Box)/\pre.Pairwise (fun a b=>¬ vA b.Slot a.Slot))
  ⟨fun x hx=>(Pe hx).elim,List.Pairwise.nil,List.Pairwise.nil⟩ (fun pre y post u nx e hI h4=>?_) (fun u hI=>?_)
 .obtain⟨i1,i2,i3⟩:=hI
  have a8:pre.length < l.length:=by rw [e]; simp
  have hy:y∈l:=by rw [e]; simp
  have no:∀ {m:Option Bool},m=some false→¬ Yg s bx l→Wp m (fun r=>r=true ↔ Yg s bx l):=fun e h=>by subst e; exact Gh ⟨fun e=>(by cases e),fun e=>(h e).elim⟩
  refine Gu (G78 bx y.Box) ?_
  cases hf:fH bx y.Box with
  | none=>
   simp only [Bool.not_false,Bool.not_true,Bool.false_and,cond_false,Bool.true_or,cond_true]
   refine Hc (Gh (Hc (Gh (Hc (Gh (Hc (Gh (no rfl fun h=>?_))))))))
   obtain⟨b,hb,_⟩:=h.each y hy
   rw [hf] at hb; cases hb
  | some b=>
   simp only [Bool.not_true,Bool.not_false,Bool.true_and,Bool.false_or]
   -- the order
   have h7:Wp (bif decide (0 < (pre.length:Int)) then chk ((pre.length:Int) - 1) some else some 0) (fun v=>Wp (bif decide (0 < (pre.length:Int)) then Jo l v some else some default) (fun y20=>
     ((decide (0 < (pre.length:Int))&&decide (y.Box≤y20.Box))=true→¬ Yg s bx l)/\((decide (0 < (pre.length:Int))&&decide (y.Box≤y20.Box))=false→∀ a∈pre,a.Box < y.Box))):=by
    rcases List.eq_nil_or_concat pre with hp | ⟨pre',z,hp⟩
    .subst hp
     simp only [List.length_nil]
     exact Gh (Gh ⟨fun h=>by simp at h,fun _ a ha=>(Pe ha).elim⟩)
    .have h2:pre=pre'++[z]:=by simpa using hp
     have a9:pre.length=pre'.length+1:=by rw [h2]; simp
     have hd:decide (0 < (pre.length:Int))=true:=P8 (by omega)
     have hz:l[pre'.length]? = some z:=by rw [e,h2]; simp
     rw [hd]
     simp only [cond_true,Bool.true_and]
     refine bY ⟨by omega,by omega⟩ (Gh (dO (m:=pre'.length) (by omega) hz (Gh ⟨fun h hR=>?_,fun h a ha=>?_⟩)))
     .have:=P6 h
      have hs:=hR.sorted
      rw [e] at hs
      have:=uJ hs z (by rw [h2]; simp)
      omega
     .have b0:¬ y.Box≤z.Box:=P7 h
      rw [h2] at ha
      rcases Ps.1 ha with ha | ha
      .have:=uJ (h2 ▸ i2:(pre'++z::[]).Pairwise _) a ha
       omega
      .rw [Pu] at ha; subst ha; omega
   refine Hc (wp_mono h7 (fun v hv=>Hc (wp_mono hv (fun y20 a5=>?_))))
   obtain⟨n1,n2⟩:=a5
   generalize (decide (0 < (pre.length:Int))&&decide (y.Box≤y20.Box))=c at n1 n2
   cases c with
   | true=>
    simp only [Bool.not_true,cond_false,Bool.true_or,cond_true]
    exact Hc (Gh (Hc (Gh (no rfl (n1 rfl)))))
   | false=>
    simp only [Bool.not_false,cond_true,Bool.false_or]
    have h8:=n2 rfl
    refine Hc (wp_mono (H7f s y.Slot b.Size) (fun r21 a1=>?_))
    cases r21 with
    | false=>
     simp only [Bool.not_false,Bool.not_true,cond_false,Bool.true_or,cond_true]
     refine Hc (Gh (no rfl fun h=>?_))
     obtain⟨b',hb,hs,_⟩:=h.each y hy
     rw [hf] at hb; cases hb
     have:=a1.2 hs; cases this
    | true=>
     have h1:=a1.1 rfl
     simp only [Bool.not_true,Bool.not_false,cond_true,Bool.false_or]
     have h9 : -1000000≤y.Slot.Tier/\y.Slot.Tier≤1000000:=by
      obtain⟨m,c,_,hc,h3⟩:=h1.col
      have:=h1.tier
      have:=ht c (Pd hc)
      omega
     refine Hc (wp_mono (He7 y.Slot (l.map (·.Slot)) h9) (fun r22 a2=>?_))
     cases r22 with
     | false=>
      refine Hq (fun _=>no rfl fun h=>?_) (fun h=>by cases h)
      obtain⟨b',hb,_,hh⟩:=h.each y hy
      have:=a2.2 hh; cases this
     | true=>
      have a0:=a2.1 rfl
      refine Hq (fun h=>by cases h) (fun _=>?_)
      refine Hc (vI (m:=pre.length) rfl (by rw [Pr]; omega) ?_)
      have a6:(l.map (·.Slot)).take pre.length=pre.map (·.Slot):=by rw [← List.map_take,e,List.take_left']; rfl
      rw [a6]
      refine Q2 (fun pr _=>∀ a∈pr,¬ vA y.Slot a) (fun a ha=>(Pe ha).elim) (fun pr a pos u nx2 e2 h5 a4=>?_) (fun u h5=>h4 _ ⟨fun x hx=>?_,yB i2 h8,yB i3 (fun a ha=>h5 a.Slot (Pt.2 ⟨a,ha,rfl⟩))⟩)
      .refine Hc (wp_mono (He6 y.Slot a) (fun r48 a3=>?_))
       refine Hq (fun h=>no rfl fun hR=>?_) (fun h=>a4 _ (fun a' h0=>?_))
       .have hm:=a3.1 h
        have a7:a∈pre.map (·.Slot):=by rw [e2]; simp
        obtain⟨z,hz,rfl⟩:=Pt.1 a7
        have ha:=hR.apart
        rw [e] at ha
        exact uJ ha z hz hm
       .rcases Ps.1 h0 with h0 | h0
        .exact h5 a' h0
        .rw [Pu] at h0; subst h0
         intro hm
         have:=a3.2 hm
         rw [this] at h; cases h
      .rcases Ps.1 hx with hx | hx
       .exact i1 x hx
       .rw [Pu] at hx; subst hx
        exact⟨b,hf,h1,a0⟩
 .obtain⟨i1,i2,i3⟩:=hI
  refine Q2 (fun pre _=>∀ m c,m < pre.length→s.Columns[m]? = some c→RW bx l m c) (fun m c h=>(Nat.not_lt_zero m h).elim) (fun pre y post u nx e hI h4=>?_) (fun u hI=>Gh ⟨fun _=>⟨i1,i2,i3,fun m c hc=>hI m c (Pa hc).1 hc⟩,fun _=>rfl⟩)
  have hc:s.Columns[pre.length]? = some y:=by rw [e]; simp
  refine Hc (wp_mono (He2 hc hl) (fun r hr=>?_))
  cases r with
  | false=>exact Hq (fun _=>Gh ⟨fun e=>(by cases e),fun h=>by have:=hr.2 (h.fits _ _ hc); cases this⟩) (fun h=>by cases h)
  | true=>
   refine Hq (fun h=>by cases h) (fun _=>h4 _ (fun m c hm h6=>?_))
   rw [Pn,Po] at hm
   rcases P4 m pre.length with h | h
   .exact hI m c h h6
   .have:m=pre.length:=by omega
    subst this
    rw [hc] at h6; cases h6
    exact hr.1 rfl
section maps
variable {W B:Type} [DecidableEq W]
theorem G26 (a:W):J8.has (J8.empty:J8 W B) a=false:=rfl
theorem Gb2 (m:J8 W B) (a b:W) (v:B):J8.has (J8.put m a v) b=(decide (a=b)||J8.has m b):=by
 unfold J8.has J8.put
 have h:=rC (l:=qC m.l a v) (a:=b)
 have h2:=rC (l:=m.l) (a:=b)
 rw [← h,G84]
 by_cases e:a=b
 .simp [e]
 .simp [e,h2]
end maps
theorem RR {J:Type} {l:List J} {wanted:J→Option Bool} {p:J→Bool} (hw:∀ x∈l,wanted x=some (p x)) (hl:l.length≤1000000) :
  each (fun y i (s:List Int) nx=>jp (fun kj=>bnd (wanted y) fun r=>bif r then (need (decide ((s.length+[(i:Int)].length)*8≤140737488355328/\s.length+[(i:Int)].length≤maxLen)) <| kj (s++[(i:Int)])) else (kj s)) fun(j:List Int)=>nx j)
   (fun s=>some s) l 0 []=some (sP p l):=by
 refine bG ?_
 refine Q2 (fun pre s=>s=sP p pre) rfl (fun pre x post s nx e hs h0=>?_) (fun s hs=>Gh hs)
 subst hs
 have h1:pre.length+1≤l.length:=by rw [e]; simp
 refine oP (fun j=>j=sP p (pre++[x])) (fun K hK=>?_) (fun j hj=>h0 _ hj)
 refine Gu (hw x (by rw [e]; simp)) (Hq (fun h=>aJ ?_ (hK _ ?_)) (fun h=>hK _ ?_))
 .have:=H28 p pre
  exact uG (by rw [Po]; omega) (by omega)
 .rw [G89,h]; rfl
 .rw [G89,h]; simp
theorem Hfc {J:Type} (p:J→Bool) (x:J) (l:List J):sP p (x::l)=(if p x then [0] else [])++(sP p l).map (·+1):=by
 unfold sP
 rw [List.zipIdx_cons',List.filter_cons]
 have h:(((l.zipIdx.map (Prod.map id (fun n:Nat=>n+1))).filter (fun y:J×Nat=>p y.1)).map (fun y:J×Nat=>(y.2:Int)))=((l.zipIdx.filter (fun y:J×Nat=>p y.1)).map (fun y:J×Nat=>(y.2:Int))).map (·+1):=by
  rw [List.filter_map,List.map_map,List.map_map]
  rfl
 by_cases hx:p x=true
 .rw [if_pos (show p (x,0).fst=true from hx),if_pos hx,List.map_cons]
  exact congrArg (List.cons _) h
 .rw [if_neg (show ¬ p (x,0).fst=true from hx),if_neg hx,List.nil_append]
  exact h
theorem Hfb {J:Type} (p:J→Bool) (l:List J):(sP p l).head? = match l.findIdx? p with
  | some j=>some (j:Int)
  | none=>none:=by
 induction l with
 | nil=>rfl
 | cons x l ih=>
  rw [Hfc,List.findIdx?_cons]
  by_cases hx:p x
  .simp [hx]
  .simp only [hx,if_false,Bool.false_eq_true,List.nil_append,List.head?_map,ih]
   cases l.findIdx? p <;> simp
theorem J38 {J:Type} (p:J→Bool) (l:List J):decide (0 < ((sP p l).length:Int))=l.any p:=by
 by_cases h:∀ x∈l,p x=false
 .rw [H27.2 h]
  refine Eq.symm (List.any_eq_false.2 fun x hx=>?_)
  rw [h x hx]; exact Bool.false_ne_true
 .have h1:sP p l≠[]:=fun e=>h (H27.1 e)
  have h2:=List.length_pos_iff.2 h1
  rw [P8 (by omega)]
  refine Eq.symm (List.any_eq_true.2 ?_)
  refine Classical.byContradiction fun hn=>h fun x hx=>?_
  cases hc:p x with
  | false=>rfl
  | true=>exact(hn ⟨x,hx,hc⟩).elim
def YC (x:H3) (c:G6):Bool:=decide (x.Bay=c.Bay)&&x.Rows.any (fun r=>decide (r=c.Row))
theorem H0e (x:H3) (c:G6) (hl:x.Rows.length≤1000000):jB x c=some (YC x c):=by
 unfold jB YC
 by_cases h:x.Bay=c.Bay
 .have hc:eE x.Rows (fun z0=>fP z0 c)=some (sP (fun r=>decide (r=c.Row)) x.Rows):=by
   unfold eE
   exact RR (fun x _=>rfl) hl
  rw [P8 h]
  simp only [cond_true,Bool.true_and]
  rw [hc,sS,J38]
 .rw [P9 h]
  rfl
def gJ (s:Gq) (c:G6):Int:=uO (fun x=>YC x c) s.Covers
theorem Ga2 {s:Gq} {m:Nat} {c:G6} (hc:s.Columns[m]? = some c) (hr:∀ x∈s.Covers,x.Rows.length≤1000000) (hl:s.Covers.length≤1000000):dM s (m:Int)=some (gJ s c):=by
 have hm:=(Pa hc).1
 refine bG ?_
 unfold dM
 refine Hq (fun h=>?_) (fun _=>?_)
 .simp only [Px,Pq] at h
  omega
 have h1:aW s.Covers (fun z0=>dF z0 s (m:Int))=some (sP (fun x=>YC x c) s.Covers):=by
  unfold aW
  refine RR (fun x hx=>bG ?_) hl
  unfold dF
  exact dO rfl hc (Gu (H0e x c (hr x hx)) (Gh rfl))
 refine Gu h1 ?_
 have hh:=Hfb (fun x=>YC x c) s.Covers
 unfold gJ uO
 cases hf:s.Covers.findIdx? (fun x=>YC x c) with
 | none=>
  rw [hf] at hh
  have h0:sP (fun x=>YC x c) s.Covers=[]:=List.head?_eq_none_iff.1 hh
  rw [h0]
  exact Gh rfl
 | some j=>
  rw [hf] at hh
  cases hi:sP (fun x=>YC x c) s.Covers with
  | nil=>rw [hi] at hh; cases hh
  | cons z r=>
   rw [hi] at hh
   simp only [List.head?_cons,Option.some.injEq] at hh
   subst hh
   refine Hq (fun h=>?_) (fun _=>dO (m:=0) rfl rfl (Gh rfl))
   have:=P6 h
   simp only [Pi] at this
   omega
def abB (k:Int) (b:Box):Bool:=decide (b.Load≤k)&&decide (k < b.Discharge)
def jH (bx:List Box) (k:Int):List Int:=(bx.filter (abB k)).map (·.ID)
def Qu (l:List G2) (id:Int):Slot×Bool:=match G1e l id with
 | some x=>(x.Slot,true)
 | none=>(⟨0,0,0⟩,false)
theorem sK (l:List G2) (id:Int):eF l id=some (Qu l id):=by
 unfold eF
 have h:Zo l (fun z0=>jC z0 id)=some (uO (fun x:G2=>decide (x.Box=id)) l):=sR (fun x _=>rfl)
 rw [h]
 simp only [sS]
 unfold Qu G1e
 rcases lK (fun x:G2=>decide (x.Box=id)) l with ⟨h1,_,h3⟩ | ⟨m,x,h1,h2,_,h4⟩
 .rw [h1,h3]; rfl
 .rw [h1,h4,P9 (by omega),cond_false]
  unfold Jo
  rw [P8 (by omega),cond_true,show (m:Int).toNat=m by omega,h2]
  rfl
theorem zL {l:List G2} {id:Int}:(Qu l id).2=true ↔ id∈l.map (·.Box):=by
 unfold Qu
 cases h:G1e l id with
 | none=>
  refine⟨fun e=>(by cases e),fun e=>?_⟩
  obtain⟨x,hx,he⟩:=Pt.1 e
  have:=List.find?_eq_none.1 h x hx
  simp [he] at this
 | some x=>
  refine⟨fun _=>?_,fun _=>rfl⟩
  have h1:=List.mem_of_find?_eq_some h
  have h2:=P6 (List.find?_some (p:=fun x:G2=>decide (x.Box=id)) h)
  exact Pt.2 ⟨x,h1,h2⟩
theorem xQ {l:List G2} {id:Int} (h:(Qu l id).2=true):∃ x∈l,x.Box=id/\(Qu l id).1=x.Slot:=by
 unfold Qu at h ⊢
 cases hf:G1e l id with
 | none=>rw [hf] at h; cases h
 | some x=>exact⟨x,List.mem_of_find?_eq_some hf,P6 (List.find?_some (p:=fun x:G2=>decide (x.Box=id)) hf),rfl⟩
structure Small (s:Gq):Prop where
 right:fI s=some true
 cols:1≤s.Columns.length/\s.Columns.length≤40
 tiers:∀ c∈s.Columns,c.Tiers≤100
 covs:s.Covers.length≤1000
 rows:∀ x∈s.Covers,x.Rows.length≤1000
def Hd0 (s:Gq) (x:Slot):Prop:=∃ (m:Nat) (c:G6),x.G6=(m:Int)/\s.Columns[m]? = some c
structure xW (U:List Int) (m:J8 Int Unit) (l:List Int):Prop where
 nodup:l.Nodup
 sub:∀ a∈l,a∈U
 has:∀ a,J8.has m a=decide (a∈l)
theorem xW.le {U:List Int} {m:J8 Int Unit} {l:List Int} (h:xW U m l):l.length≤U.length:=h.nodup.length_le_of_subset (fun a ha=>h.sub a ha)
theorem xW.start {U:List Int}:xW U (J8.empty:J8 Int Unit) []:=⟨List.nodup_nil,fun a ha=>(Pe ha).elim,fun a=>by simp [G26]⟩
theorem xW.snoc {U:List Int} {m:J8 Int Unit} {l:List Int} (h:xW U m l) {id:Int} (h1:id ∉ l) (h2:id∈U):xW U (J8.put m id ()) (l++[id]):=by
 refine⟨?_,fun a ha=>?_,fun a=>?_⟩
 .rw [List.nodup_append]
  refine⟨h.nodup,by simp,fun a ha b hb=>?_⟩
  rw [Pu] at hb; subst hb
  intro e; subst e; exact h1 ha
 .rcases Ps.1 ha with ha | ha
  .exact h.sub a ha
  .rw [Pu] at ha; subst ha; exact h2
 .rw [Gb2,h.has,Bool.eq_iff_iff]
  simp only [Px,Pq,Ps,Pu]
  exact⟨fun h=>h.elim (fun e=>.inr e.symm) .inl,fun h=>h.elim .inr (fun e=>.inl e.symm)⟩
theorem J8e (m:J8 Int Unit) (k:Int):dN m k=some (if J8.has m k then (false,m) else (true,J8.put m k ())):=by
 unfold dN
 cases J8.has m k <;> rfl
structure G2a (s:Gq) (U:List Int) (states:List (List G2)):Prop where
 small:Small s
 each:∀ st∈states,∀ x∈st,x.Box∈U/\Hd0 s x.Slot
 len:U.length≤1000
structure Q42 (calls:Int) (b:Box):Prop where
 id:5≤b.ID/\b.ID≤999999
 size:b.Size=40\/(b.Size=20/\b.High=false)
 load:0≤b.Load
 stay:b.Load < b.Discharge
 out:b.Discharge < calls
structure Hd2 (calls:Int) (bx:List Box):Prop where
 num:1≤calls/\calls≤20
 len:bx.length≤8
 each:∀ b∈bx,Q42 calls b
 sorted:bx.Pairwise (fun a b=>a.ID < b.ID)
theorem uB {l:List Int} (h:l.Pairwise (· < ·)):l.Nodup:=h.imp (fun h=>by omega)
theorem Hd2.ids {calls:Int} {bx:List Box} (h:Hd2 calls bx):(bx.map (·.ID)).Pairwise (· < ·):=List.pairwise_map.2 h.sorted
structure Hc8 (s:Gq) (bx:List Box) (k:Int) (l:List G2):Prop where
 right:Yg s bx l
 ids:l.map (·.Box)=jH bx k
theorem H9b (bx:List Box) (k:Int):(jH bx k).length≤bx.length:=by
 unfold jH
 rw [Pr]
 exact P3 _ _
theorem Hc8.len {s:Gq} {bx:List Box} {k:Int} {l:List G2} (h:Hc8 s bx k l):l.length≤bx.length:=by
 have:=congrArg List.length h.ids
 rw [Pr] at this
 rw [this]
 exact H9b bx k
theorem Small.tier {s:Gq} (h:Small s):∀ c∈s.Columns,c.Tiers≤1000000:=fun c hc=>by have:=h.tiers c hc; omega
theorem zD {s:Gq} {x:Slot} {size:Int} (h:JM s x size):Hd0 s x:=by
 obtain⟨m,c,h1,h2,_⟩:=h.col
 exact⟨m,c,h1,h2⟩
theorem He3 {s:Gq} {bx:List Box} {bf af:List G2} (hs:Small s) (h1:Yg s bx bf) (h2:Yg s bx af) (l1:bf.length≤100) (l2:af.length≤100) :
  G2a s (bf.map (·.Box)++af.map (·.Box)) [bf,af]:=by
 refine⟨hs,fun st h0 x hx=>?_,by simp only [Pn,Pr]; omega⟩
 simp only [Pv,Pe,or_false] at h0
 rcases h0 with rfl | rfl
 .obtain⟨b,_,hb,_⟩:=h1.each x hx
  exact⟨Ps.2 (.inl (Pt.2 ⟨x,hx,rfl⟩)),zD hb⟩
 .obtain⟨b,_,hb,_⟩:=h2.each x hx
  exact⟨Ps.2 (.inr (Pt.2 ⟨x,hx,rfl⟩)),zD hb⟩
theorem G06 {s:Gq} {bx:List Box}:Yg s bx []:=⟨fun x hx=>(Pe hx).elim,List.Pairwise.nil,List.Pairwise.nil,fun m c _=>by
 unfold RW gI
 simp only [List.foldl_nil]
 omega⟩
theorem HA {a b:List Int} (ha:a.Pairwise (· < ·)) (hb:b.Pairwise (· < ·)) (h:∀ x,x∈a ↔ x∈b):a=b:=
 List.Perm.eq_of_pairwise (le:=fun x y:Int=>x < y) (fun x y _ _ h1 h2=>by omega) ha hb ((List.perm_ext_iff_of_nodup (uB ha) (uB hb)).2 h)
structure Ja4 (s:Gq) (bx:List Box) (k:Int) (l:List G2):Prop where
 right:Yg s bx l
 mem:∀ x∈l,∃ b∈bx,b.ID=x.Box/\abB k b=true
theorem Ja4.len {s:Gq} {bx:List Box} {k:Int} {l:List G2} (h:Ja4 s bx k l):l.length≤bx.length:=by
 have h1:(l.map (·.Box)).Pairwise (· < ·):=List.pairwise_map.2 h.right.sorted
 have:=(uB h1).length_le_of_subset (l₂:=bx.map (·.ID)) (fun a ha=>by
  obtain⟨x,hx,rfl⟩:=Pt.1 ha
  obtain⟨b,hb,e,_⟩:=h.mem x hx
  exact Pt.2 ⟨b,hb,e⟩)
 rw [Pr,Pr] at this
 exact this
def upon (s:Gq) (x y:Slot):Prop:=∃ (m:Nat) (c:G6) (m1:Nat) (c1:G6),x.G6=(m:Int)/\s.Columns[m]? = some c/\y.G6=(m1:Int)/\s.Columns[m1]? = some c1/\c.Deck=false/\c1.Deck=true/\0≤gJ s c/\gJ s c1=gJ s c
def mB (s:Gq) (states:List (List G2)) (st:List G2) (a b:Int):Prop:=
 (Qu st a).2=true/\((∃ y∈st,y.Box=b/\HE y.Slot (Qu st a).1)\/∃ st2∈states,∃ y∈st2,y.Box=b/\upon s (Qu st a).1 y.Slot)
def eD (s:Gq) (states:List (List G2)) (a b:Int):Prop:=∃ st∈states,mB s states st a b
structure Grown (s:Gq) (U:List Int) (states:List (List G2)) (l:List Int) (id:Int) (m:J8 Int Unit) (l':List Int):Prop where
 inv:xW U m l'
 sub:∀ a∈l,a∈l'
 has:id∈l'
 closed:∀ a∈l',a ∉ l→∀ b,eD s states a b→b∈l'
 least:∀ C:Int→Prop,(∀ a b,C a→eD s states a b→C b)→(∀ a∈l,C a)→C id→∀ a∈l',C a
structure Rch (s:Gq) (U:List Int) (states:List (List G2)) (l:List Int) (id:Int) (m:J8 Int Unit) (l':List Int):Prop where
 inv:xW U m l'
 sub:∀ a∈l++[id],a∈l'
 closed:∀ a∈l',a ∉ l→a≠id→∀ b,eD s states a b→b∈l'
 least:∀ C:Int→Prop,(∀ a b,C a→eD s states a b→C b)→(∀ a∈l,C a)→C id→∀ a∈l',C a
section
variable {s:Gq} {U:List Int} {states:List (List G2)} {l l' l2:List Int} {id y:Int} {m m2:J8 Int Unit}
theorem Rch.start (h:xW U m (l++[id])):Rch s U states l id m (l++[id]):=
 ⟨h,fun a ha=>ha,fun a ha h1 h2=>by
  rcases Ps.1 ha with ha | ha
  .exact(h1 ha).elim
  .exact(h2 (Pu.1 ha)).elim,fun C _ hl hid a ha=>by
  rcases Ps.1 ha with ha | ha
  .exact hl a ha
  .exact Pu.1 ha ▸ hid⟩
theorem Rch.step (h:Rch s U states l id m l') (hp:eD s states id y) (g:Grown s U states l' y m2 l2):Rch s U states l id m2 l2/\(∀ a∈l',a∈l2)/\y∈l2:=
 ⟨⟨g.inv,fun a ha=>g.sub a (h.sub a ha),fun a ha h1 h2 b hb=>by
  by_cases h0:a∈l'
  .exact g.sub b (h.closed a h0 h1 h2 b hb)
  .exact g.closed a ha h0 b hb,fun C hc hl hid=>g.least C hc (h.least C hc hl hid) (hc id y hid hp)⟩,g.sub,g.has⟩
end
theorem sM {J:Type} {P:J→Prop} {l:List J} {x:J} (h1:∀ y∈l,P y) (h2:P x):∀ y∈l++[x],P y:=fun y hy=>by
 rcases Ps.1 hy with hy | hy
 .exact h1 y hy
 .exact Pu.1 hy ▸ h2
theorem J3f {s:Gq} {U:List Int} {states:List (List G2)} (hs:G2a s U states):∀ (F:Nat) (id:Int) (m:J8 Int Unit) (l:List Int),xW U m l→id∈U→U.length+1≤F+l.length →
  Wp (cL F id m l states s) (fun r=>Grown s U states l id r.1 r.2):=by
 intro F
 induction F with
 | zero=>intro id m l hi _ hF; have:=hi.le; omega
 | succ F ih=>
  intro id m l hi hid hF
  show Wp (fQ (cL F) F id m l states s) _
  unfold fQ
  refine Gu (J8e m id) ?_
  rw [hi.has]
  by_cases h7:id∈l
  .rw [if_pos (P8 h7)]
   exact Hq (fun _=>Gh ⟨hi,fun a ha=>ha,h7,fun a ha hn=>(hn ha).elim,fun C _ hl _ a ha=>hl a ha⟩) (fun h=>by cases h)
  rw [if_neg (by rw [P9 h7]; exact Bool.false_ne_true)]
  refine Hq (fun h=>by cases h) (fun _=>?_)
  have b3:=hi.le
  have b1:=hs.len
  have h1:=hi.snoc h7 hid
  have b2:=h1.le
  have b4:(l++[id]).length=l.length+1:=by simp
  refine aJ (uG (by rw [Po]; omega) (by omega)) ?_
  have again:∀ (y:G2) (st:List G2) (m':J8 Int Unit) (l':List Int),st∈states→y∈st→Rch s U states l id m' l'→eD s states id y.Box →
    Wp (cL F y.Box m' l' states s) (fun r=>Rch s U states l id r.1 r.2/\(∀ a∈l',a∈r.2)/\y.Box∈r.2):=
   fun y st m' l' h2 h3 h4 h5=>wp_mono (ih y.Box m' l' h4.inv (hs.each st h2 y h3).1 (by
    have:=h1.nodup.length_le_of_subset (fun a ha=>h4.sub a ha)
    omega)) (fun r hr=>h4.step h5 hr)
  have a5:∀ {k:Nat} {c:G6},s.Columns[k]? = some c→dM s (k:Int)=some (gJ s c):=fun hc=>Ga2 hc (fun x hx=>by have:=hs.small.rows x hx; omega) (by have:=hs.small.covs; omega)
  refine Q2 (fun pre s7=>Rch s U states l id s7.1 s7.2/\∀ st∈pre,∀ b,mB s states st id b→b∈s7.2) ⟨.start h1,fun st h=>(Pe h).elim⟩ (fun pre st post s7 nx e hI h8=>?_) (fun s7 hI=>Gh ?_)
  .have h6:st∈states:=by rw [e]; simp
   obtain⟨hR,hD⟩:=hI
   refine oP (fun j=>Rch s U states l id j.1 j.2/\(∀ a∈s7.2,a∈j.2)/\∀ b,mB s states st id b→b∈j.2) (fun K hK=>?_) (fun j hj=>h8 _ ⟨hj.1,sM (fun st' h' b hb=>hj.2.1 _ (hD st' h' b hb)) hj.2.2⟩)
   refine Gu (sK st id) (Hq (fun hf=>hK _ ⟨hR,fun a ha=>ha,fun b hb=>?_⟩) (fun hf=>?_))
   .rw [hb.1] at hf; cases hf
   have a6:(Qu st id).2=true:=by simpa using hf
   obtain⟨x,hx,_,h9⟩:=xQ a6
   obtain⟨m0,c0,a7,a1⟩:=(hs.each st h6 x hx).2
   rw [h9]
   refine oP (fun j17=>j17=if c0.Deck=true then -1 else gJ s c0) (fun K' h0=>dO a7 a1 (Hq (fun hd=>?_) (fun hd=>h0 _ (by
    rw [if_pos (by simpa using hd)])))) (fun j17 a2=>?_)
   .rw [a7]
    exact Gu (a5 a1) (h0 _ (by rw [if_neg (by simpa using hd)]))
   refine Q2 (fun pre s56=>Rch s U states l id s56.1 s56.2/\(∀ a∈s7.2,a∈s56.2)/\∀ y∈pre,HE y.Slot x.Slot→y.Box∈s56.2) ⟨hR,fun a ha=>ha,fun y h=>(Pe h).elim⟩ (fun pre y post s56 nx e hI h8=>?_) (fun s56 hI=>?_)
   .have hy:y∈st:=by rw [e]; simp
    obtain⟨i1,i2,i3⟩:=hI
    refine oP (fun j=>Rch s U states l id j.1 j.2/\(∀ a∈s56.2,a∈j.2)/\(HE y.Slot x.Slot→y.Box∈j.2)) (fun K' h0=>?_) (fun j hj=>h8 _ ⟨hj.1,fun a ha=>hj.2.1 a (i2 a ha),sM (fun y' h' ho=>hj.2.1 _ (i3 y' h' ho)) hj.2.2⟩)
    refine Hc (wp_mono (He5 y.Slot x.Slot) (fun r62 a9=>Hq (fun hr=>?_) (fun hr=>h0 _ ⟨i1,fun a ha=>ha,fun ho=>?_⟩)))
    .exact Hc (wp_mono (again y st _ _ h6 hy i1 ⟨st,h6,a6,.inl ⟨y,hy,rfl,by rw [h9]; exact a9.1 hr⟩⟩) (fun r hr=>h0 _ ⟨hr.1,hr.2.1,fun _=>hr.2.2⟩))
    .rw [a9.2 ho] at hr; cases hr
   .obtain⟨i1,i2,i3⟩:=hI
    refine Q2 (fun pre s65=>Rch s U states l id s65.1 s65.2/\(∀ a∈s56.2,a∈s65.2)/\∀ st2∈pre,∀ y∈st2,upon s x.Slot y.Slot→y.Box∈s65.2) ⟨i1,fun a ha=>ha,fun st2 h=>(Pe h).elim⟩ (fun pre st2 post s65 nx e hI h8=>?_) (fun s65 hI=>hK _ ⟨hI.1,fun a ha=>hI.2.1 a (i2 a ha),fun b hb=>?_⟩)
    .obtain⟨j1,j2,j3⟩:=hI
     have a0:st2∈states:=by rw [e]; simp
     refine Q2 (fun pre s107=>Rch s U states l id s107.1 s107.2/\(∀ a∈s65.2,a∈s107.2)/\∀ y∈pre,upon s x.Slot y.Slot→y.Box∈s107.2) ⟨j1,fun a ha=>ha,fun y h=>(Pe h).elim⟩ (fun pre y post s107 nx2 e hI b0=>?_) (fun s107 hI=>h8 _ ⟨hI.1,fun a ha=>hI.2.1 a (j2 a ha),sM (fun st' h' y hy hu=>hI.2.1 _ (j3 st' h' y hy hu)) hI.2.2⟩)
     obtain⟨k1,k2,k3⟩:=hI
     have hy:y∈st2:=by rw [e]; simp
     obtain⟨m1,c1,a8,a3⟩:=(hs.each st2 a0 y hy).2
     have a4:upon s x.Slot y.Slot ↔ (0≤j17/\c1.Deck=true/\gJ s c1=j17):=by
      constructor
      .rintro⟨n0,d0,n1,d1,e1,e2,e3,e4,q1,q2,q3,q4⟩
       have e5:n0=m0:=by omega
       have e6:n1=m1:=by omega
       subst e5 e6
       rw [a1] at e2; cases e2
       rw [a3] at e4; cases e4
       rw [if_neg (by rw [q1]; exact Bool.false_ne_true)] at a2
       rw [a2]
       exact⟨q3,q2,q4⟩
      .rintro⟨q1,q2,q3⟩
       by_cases hd:c0.Deck=true
       .rw [if_pos hd] at a2; omega
       .rw [if_neg hd] at a2
        exact⟨m0,c0,m1,c1,a7,a1,a8,a3,by simpa using hd,q2,by omega,by omega⟩
     refine oP (fun j=>Rch s U states l id j.1 j.2/\(∀ a∈s107.2,a∈j.2)/\(upon s x.Slot y.Slot→y.Box∈j.2)) (fun K' h0=>?_) (fun j hj=>b0 _ ⟨hj.1,fun a ha=>hj.2.1 a (k2 a ha),sM (fun y' h' ho=>hj.2.1 _ (k3 y' h' ho)) hj.2.2⟩)
     by_cases hj:0≤j17
     .rw [P8 hj]
      simp only [cond_true,Bool.true_and]
      refine Hc (dO a8 a3 (Gh ?_))
      cases hd:c1.Deck with
      | true=>
       simp only [cond_true,Bool.true_and]
       rw [a8]
       refine Gu (a5 a3) (Hq (fun hc=>?_) (fun hc=>h0 _ ⟨k1,fun a ha=>ha,fun hu=>?_⟩))
       .exact Hc (wp_mono (again y st2 _ _ a0 hy k1 ⟨st,h6,a6,.inr ⟨st2,a0,y,hy,rfl,by rw [h9]; exact a4.2 ⟨hj,hd,P6 hc⟩⟩⟩) (fun r hr=>h0 _ ⟨hr.1,hr.2.1,fun _=>hr.2.2⟩))
       .exact(P7 hc (a4.1 hu).2.2).elim
      | false=>
       simp only [cond_false,Bool.false_and]
       exact Hc (Gh (h0 _ ⟨k1,fun a ha=>ha,fun hu=>by have:=(a4.1 hu).2.1; rw [hd] at this; cases this⟩))
     .rw [P9 hj]
      simp only [cond_false,Bool.false_and]
      exact Hc (Gh (Hc (Gh (h0 _ ⟨k1,fun a ha=>ha,fun hu=>(hj (a4.1 hu).1).elim⟩))))
    .rcases hb.2 with ⟨y,hy,rfl,ho⟩ | ⟨st2,h2,y,hy,rfl,hu⟩
     .exact hI.2.1 _ (i3 y hy (by rw [← h9]; exact ho))
     .exact hI.2.2 st2 h2 y hy (by rw [← h9]; exact hu)
  .obtain⟨hR,hD⟩:=hI
   refine⟨hR.inv,fun a ha=>hR.sub a (Ps.2 (.inl ha)),hR.sub id (by simp),fun a ha hn b hb=>?_,hR.least⟩
   by_cases e:a=id
   .subst e
    obtain⟨st,h6,hp⟩:=hb
    exact hD st h6 b hp
   .exact hR.closed a ha hn e b hb
structure yF (s:Gq) (bf af:List G2) (l:List Int):Prop where
 seeds:∀ st∈[bf,af],∀ y∈st,Qu bf y.Box≠Qu af y.Box→y.Box∈l
 closed:∀ a∈l,∀ b,eD s [bf,af] a b→b∈l
 least:∀ C:Int→Prop,(∀ a b,C a→eD s [bf,af] a b→C b)→(∀ st∈[bf,af],∀ y∈st,Qu bf y.Box≠Qu af y.Box→C y.Box)→∀ a∈l,C a
theorem yF.perm {s:Gq} {bf af:List G2} {l l':List Int} (h:yF s bf af l) (hp:∀ a,a∈l' ↔ a∈l):yF s bf af l':=
 ⟨fun st h0 y hy h1=>(hp _).2 (h.seeds st h0 y hy h1),fun a ha b hb=>(hp b).2 (h.closed a ((hp a).1 ha) b hb),fun C hc hl a ha=>h.least C hc hl a ((hp a).1 ha)⟩
theorem differ {p q:Slot×Bool}:((!(p.2==q.2))||(!decide (p.1=q.1)))=true ↔ p≠q:=by
 obtain⟨p1,p2⟩:=p
 obtain⟨q1,q2⟩:=q
 simp only [Px,Bool.not_eq_true',beq_eq_false_iff_ne,decide_eq_false_iff_not,ne_eq,Prod.mk.injEq,not_and]
 constructor
 .rintro(h | h) h1 h2
  .exact h h2
  .exact h h1
 .intro h
  by_cases e:p1=q1
  .exact .inl (h e)
  .exact .inr e
theorem H21 {s:Gq} {U:List Int} {bf af:List G2} (hs:G2a s U [bf,af]) {F:Nat} (hF:U.length+1≤F) :
  Wp (Zm F s bf af) (fun r=>r.Pairwise (· < ·)/\(∀ a∈r,a∈U)/\yF s bf af r):=by
 unfold Zm
 have go:∀ {m:J8 Int Unit} {l:List Int} {y:G2} {st:List G2} {m2:J8 Int Unit} {l2:List Int},st∈[bf,af]→y∈st→Qu bf y.Box≠Qu af y.Box →
   (xW U m l/\(∀ a∈l,∀ b,eD s [bf,af] a b→b∈l)/\∀ C:Int→Prop,(∀ a b,C a→eD s [bf,af] a b→C b)→(∀ st∈[bf,af],∀ y∈st,Qu bf y.Box≠Qu af y.Box→C y.Box)→∀ a∈l,C a) →
   Grown s U [bf,af] l y.Box m2 l2 →
   (xW U m2 l2/\(∀ a∈l2,∀ b,eD s [bf,af] a b→b∈l2)/\∀ C:Int→Prop,(∀ a b,C a→eD s [bf,af] a b→C b)→(∀ st∈[bf,af],∀ y∈st,Qu bf y.Box≠Qu af y.Box→C y.Box)→∀ a∈l2,C a):=
  fun {m l y st m2 l2} h3 hy h0 hI g=>⟨g.inv,fun a ha b hb=>by
   by_cases h4:a∈l
   .exact g.sub b (hI.2.1 a h4 b hb)
   .exact g.closed a ha h4 b hb,fun C hc hl=>g.least C hc (hI.2.2 C hc hl) (hl st h3 y hy h0)⟩
 refine Q2 (fun pre s9=>(xW U s9.1 s9.2/\(∀ a∈s9.2,∀ b,eD s [bf,af] a b→b∈s9.2)/\∀ C:Int→Prop,(∀ a b,C a→eD s [bf,af] a b→C b)→(∀ st∈[bf,af],∀ y∈st,Qu bf y.Box≠Qu af y.Box→C y.Box)→∀ a∈s9.2,C a) /\
   ∀ st∈pre,∀ y∈st,Qu bf y.Box≠Qu af y.Box→y.Box∈s9.2)
  ⟨⟨.start,fun a h=>(Pe h).elim,fun C _ _ a h=>(Pe h).elim⟩,fun st h=>(Pe h).elim⟩ (fun pre st post s9 nx e hI h6=>?_) (fun s9 hI=>?_)
 .have h3:st∈[bf,af]:=by rw [e]; simp
  obtain⟨hA,hB⟩:=hI
  refine Q2 (fun pre s59=>(xW U s59.1 s59.2/\(∀ a∈s59.2,∀ b,eD s [bf,af] a b→b∈s59.2)/\∀ C:Int→Prop,(∀ a b,C a→eD s [bf,af] a b→C b)→(∀ st∈[bf,af],∀ y∈st,Qu bf y.Box≠Qu af y.Box→C y.Box)→∀ a∈s59.2,C a) /\
    (∀ a∈s9.2,a∈s59.2)/\∀ y∈pre,Qu bf y.Box≠Qu af y.Box→y.Box∈s59.2)
   ⟨hA,fun a ha=>ha,fun y h=>(Pe h).elim⟩ (fun pre y post s59 nx2 e hI h5=>?_) (fun s59 hI=>h6 _ ⟨hI.1,sM (fun st' h' y hy h0=>hI.2.1 _ (hB st' h' y hy h0)) hI.2.2⟩)
  have hy:y∈st:=by rw [e]; simp
  obtain⟨j1,j2,j3⟩:=hI
  refine oP (fun j=>(xW U j.1 j.2/\(∀ a∈j.2,∀ b,eD s [bf,af] a b→b∈j.2)/\∀ C:Int→Prop,(∀ a b,C a→eD s [bf,af] a b→C b)→(∀ st∈[bf,af],∀ y∈st,Qu bf y.Box≠Qu af y.Box→C y.Box)→∀ a∈j.2,C a) /\
    (∀ a∈s59.2,a∈j.2)/\(Qu bf y.Box≠Qu af y.Box→y.Box∈j.2)) (fun K hK=>?_) (fun j hj=>h5 _ ⟨hj.1,fun a ha=>hj.2.1 a (j2 a ha),sM (fun y' h' ho=>hj.2.1 _ (j3 y' h' ho)) hj.2.2⟩)
  refine Gu (sK bf y.Box) (Gu (sK af y.Box) (Hq (fun hd=>?_) (fun hd=>hK _ ⟨j1,fun a ha=>ha,fun h0=>?_⟩)))
  .have h0:=differ.1 hd
   exact Hc (wp_mono (J3f hs F y.Box _ _ j1.1 (hs.each st h3 y hy).1 (by omega)) (fun r hr=>hK _ ⟨go h3 hy h0 j1 hr,hr.sub,fun _=>hr.has⟩))
  .rw [differ.2 h0] at hd; cases hd
 .obtain⟨⟨hA,hB,hC⟩,hD⟩:=hI
  have h1:=hA.le
  have h2:=hs.len
  have h7:HR s9.2=some (lC s9.2):=by
   unfold HR
   rw [P8 (show s9.2.length < 4611686018427387904 by omega)]
   rfl
  have hp:=uD s9.2
  refine Gu h7 (Gh ⟨?_,fun a ha=>hA.sub a (hp.mem_iff.1 ha),yF.perm ⟨hD,hB,hC⟩ (fun a=>hp.mem_iff)⟩)
  have hn:(lC s9.2).Nodup:=hp.nodup_iff.2 hA.nodup
  exact(List.pairwise_and_iff.2 ⟨uC s9.2,hn⟩).imp (fun {a b} h=>by have h1:=h.1; have h2:=h.2; omega)
theorem wM {J:Type} {a b x:J} (h:x∈[a,b]):x∈[b,a]:=by
 simp only [Pv,Pe,or_false] at h ⊢
 exact h.symm
theorem eD.swap {s:Gq} {a b:List G2} {x y:Int} (h:eD s [a,b] x y):eD s [b,a] x y:=by
 obtain⟨st,h0,h1,h2⟩:=h
 exact⟨st,wM h0,h1,h2.imp _root_.id (fun⟨st2,h3,h4⟩=>⟨st2,wM h3,h4⟩)⟩
end Go.Proofs.YthkihfoleenlmaaGreat
