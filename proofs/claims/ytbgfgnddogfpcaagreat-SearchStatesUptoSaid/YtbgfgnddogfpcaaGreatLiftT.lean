/- When a state is right,and which GU are lf: -/
import Derived.Test.YtbgfgnddogfpcaaGreatShipT
set_option maxRecDepth 100000
namespace Go.Proofs.YtbgfgnddogfpcaaGreat
open Go.RowKit

theorem oQ {n k:Nat} (hn:n<=1000001) (hk:k<=1000):decide (n*k<=140737488355328/\n<=maxLen)=true:=by
 have h:n*k<=1000001*1000:=Nat.mul_le_mul hn hk;have h2:n<=maxLen:=Nat.le_trans hn (by decide);exact P8 ⟨by omega,h2⟩
variable {W:Type}
theorem jJ {U:Type} {x:W} {k:W->Option U}:bnd (some x) k=k x:=rfl
def G0b {W:Type} (p:W->Bool) (l:List W):Int:=match l.findIdx? p with
 | some j=>(j:Int)
 | none => -1
theorem xW {p:W->Bool} {f:W->Option Bool} {xs:List W} (hf:∀ x∈xs,f x=some (p x)) :
  each (fun y i (_:Unit) nx=>bnd (f y) fun r=>bif r then some (i:Int) else nx ()) (fun _=>some (-1)) xs 0 ()=some (G0b p xs):=by
 have key:∀ (xs:List W),(∀ x∈xs,f x=some (p x))->∀ i:Nat,each (fun y i (_:Unit) nx=>bnd (f y) fun r=>bif r then some (i:Int) else nx ()) (fun _=>some (-1)) xs i ()=some (match xs.findIdx? p with
  | some j=>((i+j:Nat):Int)
  | none => -1):=by
  intro xs
  induction xs with
  | nil=>intro _ i; rfl
  | cons x xs ih=>
   intro hf i;rw [each,hf x (List.mem_cons_self ..),jJ,List.findIdx?_cons];cases p x with
   | true=>simp
   | false=>
    simp only [cond_false];rw [ih (fun y hy=>hf y (List.mem_cons_of_mem _ hy)) (i+1)];cases xs.findIdx? p with
    | none=>simp
    | some j=>show some (((i+1+j:Nat)):Int)=some (((i+(j+1):Nat)):Int); rw [show i+1+j=i+(j+1) by omega]
 rw [key xs hf 0];unfold G0b;cases xs.findIdx? p <;> simp
theorem HE (p:W->Bool) (l:List W):(G0b p l = -1/\(∀ x∈l,p x=false)/\l.find? p=none)\/∃ (m:Nat) (x:W),G0b p l=(m:Int)/\l[m]? = some x/\p x=true/\l.find? p=some x:=by
 unfold G0b;cases h:l.findIdx? p with
 | none=>
  have:=List.findIdx?_eq_none_iff.1 h;exact .inl ⟨rfl,this,List.find?_eq_none.2 (fun x hx=>by rw [this x hx]; simp)⟩
 | some j=>
  obtain⟨hj,h1,h2⟩:=List.findIdx?_eq_some_iff_getElem.1 h;refine .inr ⟨j,l[j],rfl,by simp [hj],h1,?_⟩;refine List.find?_eq_some_iff_getElem.2 ⟨h1,j,hj,rfl,fun k hk=>?_⟩;simpa using h2 k hk
theorem xU {p:W->Bool} {l:List W}:decide (0<=G0b p l)=l.any p:=by
 rcases HE p l with ⟨h1,h2,_⟩ | ⟨m,x,h1,h2,h3,_⟩
 .rw [h1];refine Eq.symm (List.any_eq_false.2 fun x hx=>?_);rw [h2 x hx]; exact Bool.false_ne_true
 .rw [h1,P8 (by omega)];exact(List.any_eq_true.2 ⟨x,Pd h2,h3⟩).symm
def bC (GU:AH) (id:Int):Option Box:=GU.find? (fun b=>decide (b.ID=id))
theorem pI (GU:AH) (id:Int):iK GU id=some (match bC GU id with
  | some b=>(b,true)
  | none=>(Box.mk 0 ByteArray.empty 0 false 0 0 0 0 false,false)):=by
 unfold iK;have h:Yr GU (fun z0=>jU z0 id)=some (G0b (fun b:Box=>decide (b.ID=id)) GU):=xW (fun x _=>rfl);rw [h];simp only [jJ];unfold bC;rcases HE (fun b:Box=>decide (b.ID=id)) GU with ⟨h1,_,h3⟩ | ⟨m,x,h1,h2,_,h4⟩
 .rw [h1,h3]; rfl
 .rw [h1,h4,P9 (by omega),cond_false];unfold Jw;rw [P8 (by omega),cond_true,show (m:Int).toNat=m by omega,h2];rfl
def sH (size:Int):AE:=if size=40 then [0] else if size=20 then [1,2] else []
theorem H6a (size:Int):jV size=some (sH size):=by
 unfold jV sH;by_cases h:size=40
 .simp [h]
 .by_cases h2:size=20
  .simp [h2]
  .simp [h,h2]
theorem J79 (l:AE) (v:Int):Zo l v=some (l.any (fun y=>decide (v=y))):=by
 unfold Zo;have h:bR l v=some (G0b (fun y=>decide (v=y)) l):=by
  unfold bR;exact xW (f:=fun y=>some (decide (v=y))) (fun x _=>rfl)
 rw [h];simp only [jJ];rw [xU]
theorem H09 (l:List Slot) (v:Slot):Ys l v=some (l.any (fun y=>decide (v=y))):=by
 unfold Ys;have h:aA l v=some (G0b (fun y=>decide (v=y)) l):=by
  unfold aA;exact xW (f:=fun y=>some (decide (v=y))) (fun x _=>rfl)
 rw [h];simp only [jJ];rw [xU]
structure yG (s:Gf) (x:Slot) (size:Int):Prop where
 col:∃ (m:Nat) (c:G5),x.G5=(m:Int)/\s.Columns[m]? = some c/\x.AB < c.AC
 tier:0<=x.AB
 half:x.Half∈sH size
theorem Hfe (s:Gf) (x:Slot) (size:Int):Wp (lU s x size) (fun r=>r=true ↔ yG s x size):=by
 unfold lU;by_cases h0:0<=x.G5/\x.G5 < (s.Columns.length:Int)
 .by_cases h1:0<=x.AB
  .obtain⟨m,hm⟩:∃ m:Nat,x.G5=(m:Int):=⟨x.G5.toNat,by omega⟩;have h3:m < s.Columns.length:=by omega
   have hc:s.Columns[m]? = some s.Columns[m]:=by simp [h3]
   have e:(((decide (0<=x.G5))&&(decide (x.G5 < (s.Columns.length:Int))))&&(decide (0<=x.AB)))=true:=by simp [h0.1,h0.2,h1]
   simp only [e,cond_true,Bool.true_and];refine Hq (fO hm hc (Gt ?_));by_cases h2:x.AB < (s.Columns[m]).AC
   .rw [P8 h2];simp only [cond_true];refine H2 (H6a size) (H2 (J79 _ _) (Gt ?_));rw [Bool.true_and,List.any_eq_true];constructor
    .rintro⟨y,hy,he⟩;have:=P6 he;subst this;exact⟨⟨m,_,hm,hc,h2⟩,h1,hy⟩
    .exact fun h=>⟨_,h.half,by simp⟩
   .rw [P9 h2];simp only [cond_false,Bool.false_and];refine Hq (Gt (Hq (Gt (Gt ⟨fun h=>(by cases h),fun h=>?_⟩))));obtain⟨m',c,g1,g2,g3⟩:=h.col;have:m'=m:=by omega
    subst this;rw [hc] at g2; cases g2;exact(h2 g3).elim
  .simp only [P9 h1,Bool.and_false,cond_false,Bool.false_and];exact Hq (Gt (Hq (Gt (Hq (Gt (Gt ⟨fun h=>(by cases h),fun h=>(h1 h.tier).elim⟩))))))
 .have e:((decide (0<=x.G5))&&(decide (x.G5 < (s.Columns.length:Int))))=false:=by
   by_cases h:0<=x.G5
   .have:¬ x.G5 < (s.Columns.length:Int):=fun g=>h0 ⟨h,g⟩;simp [this]
   .simp [h]
  simp only [e,Bool.false_and,cond_false];refine Hq (Gt (Hq (Gt (Hq (Gt (Gt ⟨fun h=>(by cases h),fun h=>?_⟩))))));obtain⟨m,c,g1,g2,_⟩:=h.col;have:=(Pa g2).1;exact(h0 (by omega)).elim
def below (l:List Slot) (x:Slot) (half:Int):Prop:=(⟨x.G5,x.AB - 1,half⟩:Slot)∈l
def G04 (x:Slot) (l:List Slot):Prop:=x.AB<=0\/below l x x.Half\/(x.Half=0/\below l x 1/\below l x 2)
theorem GV (half:Int) (l:List Slot) (x:Slot) (ht : -1000000<=x.AB/\x.AB<=1000000):Wp (eP half l x) (fun r=>r=true ↔ below l x half):=by
 unfold eP;refine bW ⟨by omega,by omega⟩ (H2 (H09 _ _) (Gt ?_));rw [List.any_eq_true];constructor
 .rintro⟨y,hy,he⟩;have:=P6 he;subst this;exact hy
 .exact fun h=>⟨_,h,by simp⟩
theorem J65 (x:Slot) (l:List Slot) (ht : -1000000<=x.AB/\x.AB<=1000000):Wp (oA x l) (fun r=>r=true ↔ G04 x l):=by
 unfold oA G04;refine Ja (fun h=>Gt ⟨fun _=>.inl (P6 h),fun _=>rfl⟩) (fun h=>?_);have h0:=P7 h;refine Hq (wp_mono (GV x.Half l x ht) (fun r7 h7=>?_));cases r7 with
 | true=>
  simp only [Bool.not_true,Bool.false_and,cond_false,Bool.true_or];exact Hq (Gt (Hq (Gt (Gt ⟨fun _=>.inr (.inl (h7.1 rfl)),fun _=>rfl⟩))))
 | false=>
  have h1:¬ below l x x.Half:=fun h=>by have:=h7.2 h; cases this
  simp only [Bool.not_false,Bool.true_and,Bool.false_or];by_cases hh:x.Half=0
  .rw [P8 hh];simp only [cond_true,Bool.true_and];refine Hq (wp_mono (GV 1 l x ht) (fun r8 h8=>?_));cases r8 with
   | true=>
    simp only [cond_true,Bool.true_and];refine Hq (wp_mono (GV 2 l x ht) (fun r9 h9=>Gt ⟨fun h=>.inr (.inr ⟨hh,h8.1 rfl,h9.1 h⟩),fun h=>?_⟩));rcases h with h | h | ⟨_,_,h⟩
    .exact(h0 h).elim
    .exact(h1 h).elim
    .exact h9.2 h
   | false=>
    simp only [cond_false,Bool.false_and];refine Hq (Gt (Gt ⟨fun h=>(by cases h),fun h=>?_⟩));rcases h with h | h | ⟨_,h,_⟩
    .exact(h0 h).elim
    .exact(h1 h).elim
    .have:=h8.2 h; cases this
  .rw [P9 hh];simp only [cond_false,Bool.false_and];refine Hq (Gt (Hq (Gt (Gt ⟨fun h=>(by cases h),fun h=>?_⟩))));rcases h with h | h | ⟨h,_⟩
   .exact(h0 h).elim
   .exact(h1 h).elim
   .exact(hh h).elim
def sB (a b:Int):Prop:=a=b\/a=0\/b=0
theorem ZH (a b:Int):Wp (gP a b) (fun r=>r=true ↔ sB a b):=by
 unfold gP sB;refine Gt ?_;simp [or_assoc]
def wH (a b:Slot):Prop:=a.G5=b.G5/\a.AB=b.AB/\sB a.Half b.Half
theorem J64 (a b:Slot):Wp (nY a b) (fun r=>r=true ↔ wH a b):=by
 unfold nY wH;by_cases h:a.G5=b.G5/\a.AB=b.AB
 .simp only [P8 h.1,P8 h.2,Bool.and_self,cond_true,Bool.true_and];exact Hq (wp_mono (ZH _ _) (fun r hr=>Gt ⟨fun e=>⟨h.1,h.2,hr.1 e⟩,fun e=>hr.2 e.2.2⟩))
 .have e:(decide (a.G5=b.G5)&&decide (a.AB=b.AB))=false:=by
   by_cases h1:a.G5=b.G5
   .have:¬ a.AB=b.AB:=fun h2=>h ⟨h1,h2⟩;simp [this]
   .simp [h1]
  simp only [e,cond_false,Bool.false_and];exact Hq (Gt (Gt ⟨fun e=>(by cases e),fun e=>(h ⟨e.1,e.2.1⟩).elim⟩))
def Gc4 (b:Box):Int:=if b.BS then 2896 else 2591
def HH (GU:AH) (AJ half:Int) (n:Int) (x:G2):Int:=
 if x.Slot.G5=AJ/\(x.Slot.Half=half\/x.Slot.Half=0) then (match bC GU x.Box with | some b=>n+Gc4 b | none=>n) else n
def gS (GU:AH) (l:AG) (AJ half:Int):Int:=l.foldl (HH GU AJ half) 0
variable {GU:AH}
theorem J46 {AJ half n:Int} {x:G2}:n<=HH GU AJ half n x/\HH GU AJ half n x<=n+2896:=by
 unfold HH Gc4;split
 .split
  .split <;> omega
  .omega
 .omega
theorem ZB (GU:AH) (l:AG) (AJ half:Int) (hl:l.length<=1000000):gO GU l AJ half=some (gS GU l AJ half):=by
 refine Zs ?_;unfold gO gS;refine Q6 (fun pre n=>n=pre.foldl (HH GU AJ half) 0/\0<=n/\n<=2896*pre.length) ⟨rfl,Int.le_refl _,by simp⟩ (fun pre y post n nx e hn h5=>?_) (fun n hn=>Gt hn.1);obtain⟨rfl,h1,h2⟩:=hn;have hp:pre.length+1<=l.length:=by rw [e]; simp
 have ha:=J46 (GU:=GU) (AJ:=AJ) (half:=half) (n:=pre.foldl (HH GU AJ half) 0) (x:=y);have h4:((pre++[y]).length:Int)=pre.length+1:=by simp
 generalize hg:pre.foldl (HH GU AJ half) 0=n at *;refine oM (fun j=>j=HH GU AJ half n y) (fun K hK=>?_) (fun j hj=>h5 _ ⟨by rw [hj,List.foldl_append,hg]; rfl,by omega,by rw [h4]; omega⟩);refine Ja (fun hc=>?_) (fun hc=>hK _ ?_)
 .have h0:y.Slot.G5=AJ/\(y.Slot.Half=half\/y.Slot.Half=0):=by simpa using hc
  refine H2 (pI GU y.Box) ?_;cases hf:bC GU y.Box with
  | none=>exact Ja (fun h=>by cases h) (fun _=>hK _ (by unfold HH; rw [if_pos h0,hf]))
  | some b=>
   refine Ja (fun _=>?_) (fun h=>by cases h);have ht:nU b=some (Gc4 b):=by unfold nU Gc4; cases b.BS <;> rfl
   have h3:HH GU AJ half n y=n+Gc4 b:=by unfold HH; rw [if_pos h0,hf]
   refine H2 ht (bW ?_ (hK _ h3.symm));rw [<- h3];omega
 .have h0:¬ (y.Slot.G5=AJ/\(y.Slot.Half=half\/y.Slot.Half=0)):=by simpa using hc
  unfold HH; rw [if_neg h0]
def G06 (GU:AH) (l:AG) (m:Nat) (c:G5):Prop:=c.Height<=0\/(gS GU l m 1<=c.Height/\gS GU l m 2<=c.Height)
theorem J60 {s:Gf} {l:AG} {m:Nat} {c:G5} (hc:s.Columns[m]? = some c) (hl:l.length<=1000000):Wp (nV s GU l (m:Int)) (fun r=>r=true ↔ G06 GU l m c):=by
 unfold nV G06;refine fO rfl hc ?_;by_cases h:c.Height<=0
 .simp only [P8 h,Bool.not_true,cond_false,Bool.false_and,Bool.true_or];exact Hq (Gt (Hq (Gt (Gt ⟨fun _=>.inl h,fun _=>rfl⟩))))
 .simp only [P9 h,Bool.not_false,cond_true,Bool.true_and,Bool.false_or];refine H2 (ZB GU l m 1 hl) ?_;by_cases h1:gS GU l m 1<=c.Height
  .rw [P8 h1];simp only [cond_true,Bool.true_and];exact H2 (ZB GU l m 2 hl) (Gt ⟨fun e=>.inr ⟨h1,P6 e⟩,fun e=>P8 (e.elim (fun e=>(h e).elim) (·.2))⟩)
  .rw [P9 h1];simp only [cond_false,Bool.false_and];exact Hq (Gt (Gt ⟨fun e=>(by cases e),fun e=>e.elim (fun e=>(h e).elim) (fun e=>(h1 e.1).elim)⟩))
theorem Hf6 (l:AG) (hl:l.length<=1000000):lT l=some (l.map (·.Slot)):=by
 refine Zs ?_;unfold lT;refine Q6 (fun pre s=>s=pre.map (·.Slot)) rfl (fun pre y post s nx e hs h0=>?_) (fun s hs=>Gt hs);subst hs;have hp:pre.length+1<=l.length:=by rw [e]; simp
 exact Yt (oQ (by simp only [Pr,Po]; omega) (by omega)) (h0 _ (by simp))
structure dJ (s:Gf) (GU:AH) (l:AG):Prop where
 each:∀ x∈l,∃ b,bC GU x.Box=some b/\yG s x.Slot b.Size/\G04 x.Slot (l.map (·.Slot))
 sorted:l.Pairwise (fun a b=>a.Box < b.Box)
 apart:l.Pairwise (fun a b=>¬ wH b.Slot a.Slot)
 fits:∀ m c,s.Columns[m]? = some c->G06 GU l m c
theorem tC {R:W->W->Prop} {l:List W} {x:W} (h:l.Pairwise R) (hx:∀ a∈l,R a x):(l++[x]).Pairwise R:=by
 rw [List.pairwise_append];refine⟨h,List.pairwise_singleton ..,fun a ha b hb=>?_⟩;rw [Pu] at hb; subst hb;exact hx a ha
theorem vM {R:W->W->Prop} {pre post:List W} {y:W} (h:(pre++y::post).Pairwise R):∀ a∈pre,R a y:=fun a ha=>(List.pairwise_append.1 h).2.2 a ha y (List.mem_cons_self ..)
theorem GT {s:Gf} {l:AG} (hr:Z8 s=some true) (ht:∀ c∈s.Columns,c.AC<=1000000) (hl:l.length<=1000000):Wp (Zz s GU l) (fun r=>r=true ↔ dJ s GU l):=by
 unfold Zz;refine H2 hr (Ja (fun h=>by cases h) (fun _=>?_));refine H2 (Hf6 l hl) ?_;refine Q6 (fun pre _=>(∀ x∈pre,∃ b,bC GU x.Box=some b/\yG s x.Slot b.Size/\G04 x.Slot (l.map (·.Slot)))/\pre.Pairwise (fun a b=>a.Box < b.Box)/\pre.Pairwise (fun a b=>¬ wH b.Slot a.Slot))
  ⟨fun x hx=>(Pe hx).elim,List.Pairwise.nil,List.Pairwise.nil⟩ (fun pre y post u nx e hI h4=>?_) (fun u hI=>?_)
 .obtain⟨i1,i2,i3⟩:=hI;have a8:pre.length < l.length:=by rw [e]; simp
  have hy:y∈l:=by rw [e]; simp
  have no:∀ {m:Option Bool},m=some false->¬ dJ s GU l->Wp m (fun r=>r=true ↔ dJ s GU l):=fun e h=>by subst e; exact Gt ⟨fun e=>(by cases e),fun e=>(h e).elim⟩
  refine H2 (pI GU y.Box) ?_;cases hf:bC GU y.Box with
  | none=>
   simp only [Bool.not_false,Bool.not_true,Bool.false_and,cond_false,Bool.true_or,cond_true];refine Hq (Gt (Hq (Gt (Hq (Gt (Hq (Gt (no rfl fun h=>?_))))))));obtain⟨b,hb,_⟩:=h.each y hy;rw [hf] at hb; cases hb
  | some b=>
   simp only [Bool.not_true,Bool.not_false,Bool.true_and,Bool.false_or]
   -- the order
   have h7:Wp (bif decide (0 < (pre.length:Int)) then chk ((pre.length:Int) - 1) some else some 0) (fun v=>Wp (bif decide (0 < (pre.length:Int)) then Jw l v some else some default) (fun y20=>
     ((decide (0 < (pre.length:Int))&&decide (y.Box<=y20.Box))=true->¬ dJ s GU l)/\((decide (0 < (pre.length:Int))&&decide (y.Box<=y20.Box))=false->∀ a∈pre,a.Box < y.Box))):=by
    rcases List.eq_nil_or_concat pre with hp | ⟨pre',z,hp⟩
    .subst hp;simp only [List.length_nil];exact Gt (Gt ⟨fun h=>by simp at h,fun _ a ha=>(Pe ha).elim⟩)
    .have h2:pre=pre'++[z]:=by simpa using hp
     have a9:pre.length=pre'.length+1:=by rw [h2]; simp
     have hd:decide (0 < (pre.length:Int))=true:=P8 (by omega);have hz:l[pre'.length]? = some z:=by rw [e,h2]; simp
     rw [hd];simp only [cond_true,Bool.true_and];refine bW ⟨by omega,by omega⟩ (Gt (fO (m:=pre'.length) (by omega) hz (Gt ⟨fun h hR=>?_,fun h a ha=>?_⟩)))
     .have:=P6 h;have hs:=hR.sorted;rw [e] at hs;have:=vM hs z (by rw [h2]; simp);omega
     .have b0:¬ y.Box<=z.Box:=P7 h;rw [h2] at ha;rcases Ps.1 ha with ha | ha
      .have:=vM (h2 ▸ i2:(pre'++z::[]).Pairwise _) a ha;omega
      .rw [Pu] at ha; subst ha; omega
   refine Hq (wp_mono h7 (fun v hv=>Hq (wp_mono hv (fun y20 a5=>?_))));obtain⟨n1,n2⟩:=a5;generalize (decide (0 < (pre.length:Int))&&decide (y.Box<=y20.Box))=c at n1 n2;cases c with
   | true=>
    simp only [Bool.not_true,cond_false,Bool.true_or,cond_true];exact Hq (Gt (Hq (Gt (no rfl (n1 rfl)))))
   | false=>
    simp only [Bool.not_false,cond_true,Bool.false_or];have h8:=n2 rfl;refine Hq (wp_mono (Hfe s y.Slot b.Size) (fun r21 a1=>?_));cases r21 with
    | false=>
     simp only [Bool.not_false,Bool.not_true,cond_false,Bool.true_or,cond_true];refine Hq (Gt (no rfl fun h=>?_));obtain⟨b',hb,hs,_⟩:=h.each y hy;rw [hf] at hb; cases hb;have:=a1.2 hs; cases this
    | true=>
     have h1:=a1.1 rfl;simp only [Bool.not_true,Bool.not_false,cond_true,Bool.false_or];have h9 : -1000000<=y.Slot.AB/\y.Slot.AB<=1000000:=by
      obtain⟨m,c,_,hc,h3⟩:=h1.col;have:=h1.tier;have:=ht c (Pd hc);omega
     refine Hq (wp_mono (J65 y.Slot (l.map (·.Slot)) h9) (fun r22 a2=>?_));cases r22 with
     | false=>
      refine Ja (fun _=>no rfl fun h=>?_) (fun h=>by cases h);obtain⟨b',hb,_,hh⟩:=h.each y hy;have:=a2.2 hh; cases this
     | true=>
      have a0:=a2.1 rfl;refine Ja (fun h=>by cases h) (fun _=>?_);refine Hq (HS (m:=pre.length) rfl (by rw [Pr]; omega) ?_);have a6:(l.map (·.Slot)).take pre.length=pre.map (·.Slot):=by rw [<- List.map_take,e,List.take_left']; rfl
      rw [a6];refine Q6 (fun pr _=>∀ a∈pr,¬ wH y.Slot a) (fun a ha=>(Pe ha).elim) (fun pr a pos u nx2 e2 h5 a4=>?_) (fun u h5=>h4 _ ⟨fun x hx=>?_,tC i2 h8,tC i3 (fun a ha=>h5 a.Slot (Pt.2 ⟨a,ha,rfl⟩))⟩)
      .refine Hq (wp_mono (J64 y.Slot a) (fun r48 a3=>?_));refine Ja (fun h=>no rfl fun hR=>?_) (fun h=>a4 _ (fun a' h0=>?_))
       .have hm:=a3.1 h;have a7:a∈pre.map (·.Slot):=by rw [e2]; simp
        obtain⟨z,hz,rfl⟩:=Pt.1 a7;have ha:=hR.apart;rw [e] at ha;exact vM ha z hz hm
       .rcases Ps.1 h0 with h0 | h0
        .exact h5 a' h0
        .rw [Pu] at h0; subst h0;intro hm;have:=a3.2 hm;rw [this] at h; cases h
      .rcases Ps.1 hx with hx | hx
       .exact i1 x hx
       .rw [Pu] at hx; subst hx;exact⟨b,hf,h1,a0⟩
 .obtain⟨i1,i2,i3⟩:=hI;refine Q6 (fun pre _=>∀ m c,m < pre.length->s.Columns[m]? = some c->G06 GU l m c) (fun m c h=>(Nat.not_lt_zero m h).elim) (fun pre y post u nx e hI h4=>?_) (fun u hI=>Gt ⟨fun _=>⟨i1,i2,i3,fun m c hc=>hI m c (Pa hc).1 hc⟩,fun _=>rfl⟩);have hc:s.Columns[pre.length]? = some y:=by rw [e]; simp
  refine Hq (wp_mono (J60 hc hl) (fun r hr=>?_));cases r with
  | false=>exact Ja (fun _=>Gt ⟨fun e=>(by cases e),fun h=>by have:=hr.2 (h.fits _ _ hc); cases this⟩) (fun h=>by cases h)
  | true=>
   refine Ja (fun h=>by cases h) (fun _=>h4 _ (fun m c hm h6=>?_));rw [Pn,Po] at hm;rcases P4 m pre.length with h | h
   .exact hI m c h h6
   .have:m=pre.length:=by omega
    subst this;rw [hc] at h6; cases h6;exact hr.1 rfl
def abB (k:Int) (b:Box):Bool:=decide (b.Load<=k)&&decide (k < b.AO)
def sK (GU:AH) (k:Int):AE:=(GU.filter (abB k)).map (·.ID)
theorem G6c (GU:AH) (k:Int):(sK GU k).length<=GU.length:=by
 unfold sK;rw [Pr];exact P3 _ _
end Go.Proofs.YtbgfgnddogfpcaaGreat
