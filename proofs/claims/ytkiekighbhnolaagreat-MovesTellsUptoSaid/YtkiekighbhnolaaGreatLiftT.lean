/- When a state is right,and which bx are lf: -/
import Derived.Test.YtkiekighbhnolaaGreatShipT
set_option maxRecDepth 100000
namespace Go.Proofs.YtkiekighbhnolaaGreat
open Go.RowKit

theorem Ga0 {n k:Nat} (hn:n<=1000001) (hk:k<=1000):decide (n*k<=140737488355328/\n<=maxLen)=true:=by
 have h:n*k<=1000001*1000:=Nat.mul_le_mul hn hk;have h2:n<=maxLen:=Nat.le_trans hn (by decide);exact Ps ⟨by omega,h2⟩
variable {J:Type} {x:J}
theorem yF {β:Type} {k:J->Option β}:bnd (some x) k=k x:=rfl
def JP {J:Type} (p:J->Bool) (l:List J):Int:=match l.findIdx? p with
 | some j=>(j:Int)
 | none => -1
variable {p:J->Bool}
theorem JZ {f:J->Option Bool} {xs:List J} (hf:∀ x∈xs,f x=some (p x)) :
  each (fun y i (_:Unit) nx=>bnd (f y) fun r=>bif r then some (i:Int) else nx ()) (fun _=>some (-1)) xs 0 ()=some (JP p xs):=by
 have key:∀ (xs:List J),(∀ x∈xs,f x=some (p x))->∀ i:Nat,each (fun y i (_:Unit) nx=>bnd (f y) fun r=>bif r then some (i:Int) else nx ()) (fun _=>some (-1)) xs i ()=some (match xs.findIdx? p with
  | some j=>((i+j:Nat):Int)
  | none => -1):=by
  intro xs
  induction xs with
  | nil=>intro _ i; rfl
  | cons x xs ih=>
   intro hf i;rw [each,hf x (List.mem_cons_self ..),yF,List.findIdx?_cons];cases p x with
   | true=>simp
   | false=>
    simp only [cond_false];rw [ih (fun y hy=>hf y (List.mem_cons_of_mem _ hy)) (i+1)];cases xs.findIdx? p with
    | none=>simp
    | some j=>show some (((i+1+j:Nat)):Int)=some (((i+(j+1):Nat)):Int); rw [show i+1+j=i+(j+1) by omega]
 rw [key xs hf 0];unfold JP;cases xs.findIdx? p <;> simp
theorem pM (p:J->Bool) (l:List J):(JP p l = -1/\(∀ x∈l,p x=false)/\l.find? p=none)\/∃ (m:Nat) (x:J),JP p l=(m:Int)/\l[m]? = some x/\p x=true/\l.find? p=some x:=by
 unfold JP;cases h:l.findIdx? p with
 | none=>
  have:=List.findIdx?_eq_none_iff.1 h;exact .inl ⟨rfl,this,List.find?_eq_none.2 (fun x hx=>by rw [this x hx]; simp)⟩
 | some j=>
  obtain⟨hj,h1,h2⟩:=List.findIdx?_eq_some_iff_getElem.1 h;refine .inr ⟨j,l[j],rfl,by simp [hj],h1,?_⟩;refine List.find?_eq_some_iff_getElem.2 ⟨h1,j,hj,rfl,fun k hk=>?_⟩;simpa using h2 k hk
theorem G7f {l:List J}:decide (0<=JP p l)=l.any p:=by
 rcases pM p l with ⟨h1,h2,_⟩ | ⟨m,x,h1,h2,h3,_⟩
 .rw [h1];refine Eq.symm (List.any_eq_false.2 fun x hx=>?_);rw [h2 x hx]; exact Bool.false_ne_true
 .rw [h1,Ps (by omega)];exact(List.any_eq_true.2 ⟨x,Px h2,h3⟩).symm
def iI (bx:AK) (id:Int):Option Box:=bx.find? (fun b=>decide (b.ID=id))
theorem H47 (bx:AK) (id:Int):nO bx id=some (match iI bx id with
  | some b=>(b,true)
  | none=>(Box.mk 0 ByteArray.empty 0 false 0 0 0 0 false,false)):=by
 unfold nO;have h:cB bx (fun z0=>lX z0 id)=some (JP (fun b:Box=>decide (b.ID=id)) bx):=JZ (fun x _=>rfl);rw [h];simp only [yF];unfold iI;rcases pM (fun b:Box=>decide (b.ID=id)) bx with ⟨h1,_,h3⟩ | ⟨m,x,h1,h2,_,h4⟩
 .rw [h1,h3]; rfl
 .rw [h1,h4,Pt (by omega),cond_false];unfold Jk;rw [Ps (by omega),cond_true,show (m:Int).toNat=m by omega,h2];rfl
def Ge7 (l:AG) (id:Int):Option G2:=l.find? (fun x=>decide (x.Box=id))
def G0e (size:Int):AE:=if size=40 then [0] else if size=20 then [1,2] else []
theorem Hf9 (size:Int):lY size=some (G0e size):=by
 unfold lY G0e;by_cases h:size=40
 .simp [h]
 .by_cases h2:size=20
  .simp [h2]
  .simp [h,h2]
theorem Q1a (l:AE) (v:Int):aQ l v=some (l.any (fun y=>decide (v=y))):=by
 unfold aQ;have h:dJ l v=some (JP (fun y=>decide (v=y)) l):=by
  unfold dJ;exact JZ (f:=fun y=>some (decide (v=y))) (fun x _=>rfl)
 rw [h];simp only [yF];rw [G7f]
theorem H89 (l:List Slot) (v:Slot):Zg l v=some (l.any (fun y=>decide (v=y))):=by
 unfold Zg;have h:bH l v=some (JP (fun y=>decide (v=y)) l):=by
  unfold bH;exact JZ (f:=fun y=>some (decide (v=y))) (fun x _=>rfl)
 rw [h];simp only [yF];rw [G7f]
structure G42 (s:Ge) (x:Slot) (size:Int):Prop where
 col:∃ (m:Nat) (c:G5),x.G5=(m:Int)/\s.Columns[m]? = some c/\x.AB < c.AP
 tier:0<=x.AB
 half:x.Half∈G0e size
theorem J97 (s:Ge) (x:Slot) (size:Int):Wp (oS s x size) (fun r=>r=true ↔ G42 s x size):=by
 unfold oS;by_cases h0:0<=x.G5/\x.G5 < (s.Columns.length:Int)
 .by_cases h1:0<=x.AB
  .obtain⟨m,hm⟩:∃ m:Nat,x.G5=(m:Int):=⟨x.G5.toNat,by omega⟩;have h3:m < s.Columns.length:=by omega
   have hc:s.Columns[m]? = some s.Columns[m]:=by simp [h3]
   have e:(((decide (0<=x.G5))&&(decide (x.G5 < (s.Columns.length:Int))))&&(decide (0<=x.AB)))=true:=by simp [h0.1,h0.2,h1]
   simp only [e,cond_true,Bool.true_and];refine H6 (Z2 hm hc (Gg ?_));by_cases h2:x.AB < (s.Columns[m]).AP
   .rw [Ps h2];simp only [cond_true];refine Gt (Hf9 size) (Gt (Q1a _ _) (Gg ?_));rw [Bool.true_and,List.any_eq_true];constructor
    .rintro⟨y,hy,he⟩;have:=Pq he;subst this;exact⟨⟨m,_,hm,hc,h2⟩,h1,hy⟩
    .exact fun h=>⟨_,h.half,by simp⟩
   .rw [Pt h2];simp only [cond_false,Bool.false_and];refine H6 (Gg (H6 (Gg (Gg ⟨fun h=>(by cases h),fun h=>?_⟩))));obtain⟨m',c,g1,g2,g3⟩:=h.col;have:m'=m:=by omega
    subst this;rw [hc] at g2; cases g2;exact(h2 g3).elim
  .simp only [Pt h1,Bool.and_false,cond_false,Bool.false_and];exact H6 (Gg (H6 (Gg (H6 (Gg (Gg ⟨fun h=>(by cases h),fun h=>(h1 h.tier).elim⟩))))))
 .have e:((decide (0<=x.G5))&&(decide (x.G5 < (s.Columns.length:Int))))=false:=by
   by_cases h:0<=x.G5
   .have:¬ x.G5 < (s.Columns.length:Int):=fun g=>h0 ⟨h,g⟩;simp [this]
   .simp [h]
  simp only [e,Bool.false_and,cond_false];refine H6 (Gg (H6 (Gg (H6 (Gg (Gg ⟨fun h=>(by cases h),fun h=>?_⟩))))));obtain⟨m,c,g1,g2,_⟩:=h.col;have:=(Pu g2).1;exact(h0 (by omega)).elim
def below (l:List Slot) (x:Slot) (half:Int):Prop:=(⟨x.G5,x.AB - 1,half⟩:Slot)∈l
def G84 (x:Slot) (l:List Slot):Prop:=x.AB<=0\/below l x x.Half\/(x.Half=0/\below l x 1/\below l x 2)
theorem YS (half:Int) (l:List Slot) (x:Slot) (ht : -1000000<=x.AB/\x.AB<=1000000):Wp (gI half l x) (fun r=>r=true ↔ below l x half):=by
 unfold gI;refine aT ⟨by omega,by omega⟩ (Gt (H89 _ _) (Gg ?_));rw [List.any_eq_true];constructor
 .rintro⟨y,hy,he⟩;have:=Pq he;subst this;exact hy
 .exact fun h=>⟨_,h,by simp⟩
theorem Q04 (x:Slot) (l:List Slot) (ht : -1000000<=x.AB/\x.AB<=1000000):Wp (rC x l) (fun r=>r=true ↔ G84 x l):=by
 unfold rC G84;refine H7 (fun h=>Gg ⟨fun _=>.inl (Pq h),fun _=>rfl⟩) (fun h=>?_);have h0:=Pr h;refine H6 (wp_mono (YS x.Half l x ht) (fun r7 h7=>?_));cases r7 with
 | true=>
  simp only [Bool.not_true,Bool.false_and,cond_false,Bool.true_or];exact H6 (Gg (H6 (Gg (Gg ⟨fun _=>.inr (.inl (h7.1 rfl)),fun _=>rfl⟩))))
 | false=>
  have h1:¬ below l x x.Half:=fun h=>by have:=h7.2 h; cases this
  simp only [Bool.not_false,Bool.true_and,Bool.false_or];by_cases hh:x.Half=0
  .rw [Ps hh];simp only [cond_true,Bool.true_and];refine H6 (wp_mono (YS 1 l x ht) (fun r8 h8=>?_));cases r8 with
   | true=>
    simp only [cond_true,Bool.true_and];refine H6 (wp_mono (YS 2 l x ht) (fun r9 h9=>Gg ⟨fun h=>.inr (.inr ⟨hh,h8.1 rfl,h9.1 h⟩),fun h=>?_⟩));rcases h with h | h | ⟨_,_,h⟩
    .exact(h0 h).elim
    .exact(h1 h).elim
    .exact h9.2 h
   | false=>
    simp only [cond_false,Bool.false_and];refine H6 (Gg (Gg ⟨fun h=>(by cases h),fun h=>?_⟩));rcases h with h | h | ⟨_,h,_⟩
    .exact(h0 h).elim
    .exact(h1 h).elim
    .have:=h8.2 h; cases this
  .rw [Pt hh];simp only [cond_false,Bool.false_and];refine H6 (Gg (H6 (Gg (Gg ⟨fun h=>(by cases h),fun h=>?_⟩))));rcases h with h | h | ⟨h,_⟩
   .exact(h0 h).elim
   .exact(h1 h).elim
   .exact(hh h).elim
def wD (a b:Int):Prop:=a=b\/a=0\/b=0
theorem G6f (a b:Int):Wp (jJ a b) (fun r=>r=true ↔ wD a b):=by
 unfold jJ wD;refine Gg ?_;simp [or_assoc]
def GM (a b:Slot):Prop:=a.G5=b.G5/\a.AB=b.AB/\wD a.Half b.Half
theorem Q03 (a b:Slot):Wp (rB a b) (fun r=>r=true ↔ GM a b):=by
 unfold rB GM;by_cases h:a.G5=b.G5/\a.AB=b.AB
 .simp only [Ps h.1,Ps h.2,Bool.and_self,cond_true,Bool.true_and];exact H6 (wp_mono (G6f _ _) (fun r hr=>Gg ⟨fun e=>⟨h.1,h.2,hr.1 e⟩,fun e=>hr.2 e.2.2⟩))
 .have e:(decide (a.G5=b.G5)&&decide (a.AB=b.AB))=false:=by
   by_cases h1:a.G5=b.G5
   .have:¬ a.AB=b.AB:=fun h2=>h ⟨h1,h2⟩;simp [this]
   .simp [h1]
  simp only [e,cond_false,Bool.false_and];exact H6 (Gg (Gg ⟨fun e=>(by cases e),fun e=>(h ⟨e.1,e.2.1⟩).elim⟩))
def G1a (a b:Slot):Prop:=a.G5=b.G5/\b.AB < a.AB/\wD a.Half b.Half
theorem Q02 (a b:Slot):Wp (rA a b) (fun r=>r=true ↔ G1a a b):=by
 unfold rA G1a;by_cases h:a.G5=b.G5/\b.AB < a.AB
 .simp only [Ps h.1,Ps h.2,Bool.and_self,cond_true,Bool.true_and];exact H6 (wp_mono (G6f _ _) (fun r hr=>Gg ⟨fun e=>⟨h.1,h.2,hr.1 e⟩,fun e=>hr.2 e.2.2⟩))
 .have e:(decide (a.G5=b.G5)&&decide (b.AB < a.AB))=false:=by
   by_cases h1:a.G5=b.G5
   .have:¬ b.AB < a.AB:=fun h2=>h ⟨h1,h2⟩;simp [this]
   .simp [h1]
  simp only [e,cond_false,Bool.false_and];exact H6 (Gg (Gg ⟨fun e=>(by cases e),fun e=>(h ⟨e.1,e.2.1⟩).elim⟩))
def H46 (b:Box):Int:=if b.BU then 2896 else 2591
def ZG (bx:AK) (AC half:Int) (n:Int) (x:G2):Int:=
 if x.Slot.G5=AC/\(x.Slot.Half=half\/x.Slot.Half=0) then (match iI bx x.Box with | some b=>n+H46 b | none=>n) else n
def jM (bx:AK) (l:AG) (AC half:Int):Int:=l.foldl (ZG bx AC half) 0
variable {bx:AK}
theorem Je2 {AC half n:Int} {x:G2}:n<=ZG bx AC half n x/\ZG bx AC half n x<=n+2896:=by
 unfold ZG H46;split
 .split
  .split <;> omega
  .omega
 .omega
theorem G6b (bx:AK) (l:AG) (AC half:Int) (hl:l.length<=1000000):jI bx l AC half=some (jM bx l AC half):=by
 refine Ys ?_;unfold jI jM;refine Jw (fun pre n=>n=pre.foldl (ZG bx AC half) 0/\0<=n/\n<=2896*pre.length) ⟨rfl,Int.le_refl _,by simp⟩ (fun pre y post n nx e hn h5=>?_) (fun n hn=>Gg hn.1);obtain⟨rfl,h1,h2⟩:=hn;have hp:pre.length+1<=l.length:=by rw [e]; simp
 have ha:=Je2 (bx:=bx) (AC:=AC) (half:=half) (n:=pre.foldl (ZG bx AC half) 0) (x:=y);have h4:((pre++[y]).length:Int)=pre.length+1:=by simp
 generalize hg:pre.foldl (ZG bx AC half) 0=n at *;refine gR (fun j=>j=ZG bx AC half n y) (fun K hK=>?_) (fun j hj=>h5 _ ⟨by rw [hj,List.foldl_append,hg]; rfl,by omega,by rw [h4]; omega⟩);refine H7 (fun hc=>?_) (fun hc=>hK _ ?_)
 .have h0:y.Slot.G5=AC/\(y.Slot.Half=half\/y.Slot.Half=0):=by simpa using hc
  refine Gt (H47 bx y.Box) ?_;cases hf:iI bx y.Box with
  | none=>exact H7 (fun h=>by cases h) (fun _=>hK _ (by unfold ZG; rw [if_pos h0,hf]))
  | some b=>
   refine H7 (fun _=>?_) (fun h=>by cases h);have ht:qX b=some (H46 b):=by unfold qX H46; cases b.BU <;> rfl
   have h3:ZG bx AC half n y=n+H46 b:=by unfold ZG; rw [if_pos h0,hf]
   refine Gt ht (aT ?_ (hK _ h3.symm));rw [<- h3];omega
 .have h0:¬ (y.Slot.G5=AC/\(y.Slot.Half=half\/y.Slot.Half=0)):=by simpa using hc
  unfold ZG; rw [if_neg h0]
def G86 (bx:AK) (l:AG) (m:Nat) (c:G5):Prop:=c.Height<=0\/(jM bx l m 1<=c.Height/\jM bx l m 2<=c.Height)
variable {s:Ge} {l:AG}
theorem Jff {m:Nat} {c:G5} (hc:s.Columns[m]? = some c) (hl:l.length<=1000000):Wp (qY s bx l (m:Int)) (fun r=>r=true ↔ G86 bx l m c):=by
 unfold qY G86;refine Z2 rfl hc ?_;by_cases h:c.Height<=0
 .simp only [Ps h,Bool.not_true,cond_false,Bool.false_and,Bool.true_or];exact H6 (Gg (H6 (Gg (Gg ⟨fun _=>.inl h,fun _=>rfl⟩))))
 .simp only [Pt h,Bool.not_false,cond_true,Bool.true_and,Bool.false_or];refine Gt (G6b bx l m 1 hl) ?_;by_cases h1:jM bx l m 1<=c.Height
  .rw [Ps h1];simp only [cond_true,Bool.true_and];exact Gt (G6b bx l m 2 hl) (Gg ⟨fun e=>.inr ⟨h1,Pq e⟩,fun e=>Ps (e.elim (fun e=>(h e).elim) (·.2))⟩)
  .rw [Pt h1];simp only [cond_false,Bool.false_and];exact H6 (Gg (Gg ⟨fun e=>(by cases e),fun e=>e.elim (fun e=>(h e).elim) (fun e=>(h1 e.1).elim)⟩))
theorem J92 (l:AG) (hl:l.length<=1000000):oR l=some (l.map (·.Slot)):=by
 refine Ys ?_;unfold oR;refine Jw (fun pre s=>s=pre.map (·.Slot)) rfl (fun pre y post s nx e hs h0=>?_) (fun s hs=>Gg hs);subst hs;have hp:pre.length+1<=l.length:=by rw [e]; simp
 exact Qs (Ga0 (by simp only [Sa,S7]; omega) (by omega)) (h0 _ (by simp))
structure Qq (s:Ge) (bx:AK) (l:AG):Prop where
 each:∀ x∈l,∃ b,iI bx x.Box=some b/\G42 s x.Slot b.Size/\G84 x.Slot (l.map (·.Slot))
 sorted:l.Pairwise (fun a b=>a.Box < b.Box)
 apart:l.Pairwise (fun a b=>¬ GM b.Slot a.Slot)
 fits:∀ m c,s.Columns[m]? = some c->G86 bx l m c
theorem RQ {R:J->J->Prop} {l:List J} (h:l.Pairwise R) (hx:∀ a∈l,R a x):(l++[x]).Pairwise R:=by
 rw [List.pairwise_append];refine⟨h,List.pairwise_singleton ..,fun a ha b hb=>?_⟩;rw [Sd] at hb; subst hb;exact hx a ha
theorem zU {R:J->J->Prop} {pre post:List J} {y:J} (h:(pre++y::post).Pairwise R):∀ a∈pre,R a y:=fun a ha=>(List.pairwise_append.1 h).2.2 a ha y (List.mem_cons_self ..)
theorem J93 (hr:aY s=some true) (ht:∀ c∈s.Columns,c.AP<=1000000) (hl:l.length<=1000000):Wp (eK s bx l) (fun r=>r=true ↔ Qq s bx l):=by
 unfold eK;refine Gt hr (H7 (fun h=>by cases h) (fun _=>?_));refine Gt (J92 l hl) ?_;refine Jw (fun pre _=>(∀ x∈pre,∃ b,iI bx x.Box=some b/\G42 s x.Slot b.Size/\G84 x.Slot (l.map (·.Slot)))/\pre.Pairwise (fun a b=>a.Box < b.Box)/\pre.Pairwise (fun a b=>¬ GM b.Slot a.Slot))
  ⟨fun x hx=>(Py hx).elim,List.Pairwise.nil,List.Pairwise.nil⟩ (fun pre y post u nx e hI h4=>?_) (fun u hI=>?_)
 .obtain⟨i1,i2,i3⟩:=hI;have a8:pre.length < l.length:=by rw [e]; simp
  have hy:y∈l:=by rw [e]; simp
  have no:∀ {m:Option Bool},m=some false->¬ Qq s bx l->Wp m (fun r=>r=true ↔ Qq s bx l):=fun e h=>by subst e; exact Gg ⟨fun e=>(by cases e),fun e=>(h e).elim⟩
  refine Gt (H47 bx y.Box) ?_;cases hf:iI bx y.Box with
  | none=>
   simp only [Bool.not_false,Bool.not_true,Bool.false_and,cond_false,Bool.true_or,cond_true];refine H6 (Gg (H6 (Gg (H6 (Gg (H6 (Gg (no rfl fun h=>?_))))))));obtain⟨b,hb,_⟩:=h.each y hy;rw [hf] at hb; cases hb
  | some b=>
   simp only [Bool.not_true,Bool.not_false,Bool.true_and,Bool.false_or]
   -- the order
   have h7:Wp (bif decide (0 < (pre.length:Int)) then chk ((pre.length:Int) - 1) some else some 0) (fun v=>Wp (bif decide (0 < (pre.length:Int)) then Jk l v some else some default) (fun y20=>
     ((decide (0 < (pre.length:Int))&&decide (y.Box<=y20.Box))=true->¬ Qq s bx l)/\((decide (0 < (pre.length:Int))&&decide (y.Box<=y20.Box))=false->∀ a∈pre,a.Box < y.Box))):=by
    rcases List.eq_nil_or_concat pre with hp | ⟨pre',z,hp⟩
    .subst hp;simp only [List.length_nil];exact Gg (Gg ⟨fun h=>by simp at h,fun _ a ha=>(Py ha).elim⟩)
    .have h2:pre=pre'++[z]:=by simpa using hp
     have a9:pre.length=pre'.length+1:=by rw [h2]; simp
     have hd:decide (0 < (pre.length:Int))=true:=Ps (by omega);have hz:l[pre'.length]? = some z:=by rw [e,h2]; simp
     rw [hd];simp only [cond_true,Bool.true_and];refine aT ⟨by omega,by omega⟩ (Gg (Z2 (m:=pre'.length) (by omega) hz (Gg ⟨fun h hR=>?_,fun h a ha=>?_⟩)))
     .have:=Pq h;have hs:=hR.sorted;rw [e] at hs;have:=zU hs z (by rw [h2]; simp);omega
     .have b0:¬ y.Box<=z.Box:=Pr h;rw [h2] at ha;rcases Sb.1 ha with ha | ha
      .have:=zU (h2 ▸ i2:(pre'++z::[]).Pairwise _) a ha;omega
      .rw [Sd] at ha; subst ha; omega
   refine H6 (wp_mono h7 (fun v hv=>H6 (wp_mono hv (fun y20 a5=>?_))));obtain⟨n1,n2⟩:=a5;generalize (decide (0 < (pre.length:Int))&&decide (y.Box<=y20.Box))=c at n1 n2;cases c with
   | true=>
    simp only [Bool.not_true,cond_false,Bool.true_or,cond_true];exact H6 (Gg (H6 (Gg (no rfl (n1 rfl)))))
   | false=>
    simp only [Bool.not_false,cond_true,Bool.false_or];have h8:=n2 rfl;refine H6 (wp_mono (J97 s y.Slot b.Size) (fun r21 a1=>?_));cases r21 with
    | false=>
     simp only [Bool.not_false,Bool.not_true,cond_false,Bool.true_or,cond_true];refine H6 (Gg (no rfl fun h=>?_));obtain⟨b',hb,hs,_⟩:=h.each y hy;rw [hf] at hb; cases hb;have:=a1.2 hs; cases this
    | true=>
     have h1:=a1.1 rfl;simp only [Bool.not_true,Bool.not_false,cond_true,Bool.false_or];have h9 : -1000000<=y.Slot.AB/\y.Slot.AB<=1000000:=by
      obtain⟨m,c,_,hc,h3⟩:=h1.col;have:=h1.tier;have:=ht c (Px hc);omega
     refine H6 (wp_mono (Q04 y.Slot (l.map (·.Slot)) h9) (fun r22 a2=>?_));cases r22 with
     | false=>
      refine H7 (fun _=>no rfl fun h=>?_) (fun h=>by cases h);obtain⟨b',hb,_,hh⟩:=h.each y hy;have:=a2.2 hh; cases this
     | true=>
      have a0:=a2.1 rfl;refine H7 (fun h=>by cases h) (fun _=>?_);refine H6 (Gac (m:=pre.length) rfl (by rw [Sa]; omega) ?_);have a6:(l.map (·.Slot)).take pre.length=pre.map (·.Slot):=by rw [<- List.map_take,e,List.take_left']; rfl
      rw [a6];refine Jw (fun pr _=>∀ a∈pr,¬ GM y.Slot a) (fun a ha=>(Py ha).elim) (fun pr a pos u nx2 e2 h5 a4=>?_) (fun u h5=>h4 _ ⟨fun x hx=>?_,RQ i2 h8,RQ i3 (fun a ha=>h5 a.Slot (Sc.2 ⟨a,ha,rfl⟩))⟩)
      .refine H6 (wp_mono (Q03 y.Slot a) (fun r48 a3=>?_));refine H7 (fun h=>no rfl fun hR=>?_) (fun h=>a4 _ (fun a' h0=>?_))
       .have hm:=a3.1 h;have a7:a∈pre.map (·.Slot):=by rw [e2]; simp
        obtain⟨z,hz,rfl⟩:=Sc.1 a7;have ha:=hR.apart;rw [e] at ha;exact zU ha z hz hm
       .rcases Sb.1 h0 with h0 | h0
        .exact h5 a' h0
        .rw [Sd] at h0; subst h0;intro hm;have:=a3.2 hm;rw [this] at h; cases h
      .rcases Sb.1 hx with hx | hx
       .exact i1 x hx
       .rw [Sd] at hx; subst hx;exact⟨b,hf,h1,a0⟩
 .obtain⟨i1,i2,i3⟩:=hI;refine Jw (fun pre _=>∀ m c,m < pre.length->s.Columns[m]? = some c->G86 bx l m c) (fun m c h=>(Nat.not_lt_zero m h).elim) (fun pre y post u nx e hI h4=>?_) (fun u hI=>Gg ⟨fun _=>⟨i1,i2,i3,fun m c hc=>hI m c (Pu hc).1 hc⟩,fun _=>rfl⟩);have hc:s.Columns[pre.length]? = some y:=by rw [e]; simp
  refine H6 (wp_mono (Jff hc hl) (fun r hr=>?_));cases r with
  | false=>exact H7 (fun _=>Gg ⟨fun e=>(by cases e),fun h=>by have:=hr.2 (h.fits _ _ hc); cases this⟩) (fun h=>by cases h)
  | true=>
   refine H7 (fun h=>by cases h) (fun _=>h4 _ (fun m c hm h6=>?_));rw [S6,S7] at hm;rcases Po m pre.length with h | h
   .exact hI m c h h6
   .have:m=pre.length:=by omega
    subst this;rw [hc] at h6; cases h6;exact hr.1 rfl
section maps
variable {W B:Type} [DecidableEq W]
theorem Gee (a:W):Ht.has (Ht.empty:Ht W B) a=false:=rfl
theorem H8c (m:Ht W B) (a b:W) (v:B):Ht.has (Ht.put m a v) b=(decide (a=b)||Ht.has m b):=by
 unfold Ht.has Ht.put;have h:=wE (l:=pA m.l a v) (a:=b);have h2:=wE (l:=m.l) (a:=b);rw [<- h,G37];by_cases e:a=b
 .simp [e]
 .simp [e,h2]
end maps
theorem G80 {l:List J} {wanted:J->Option Bool} (hw:∀ x∈l,wanted x=some (p x)) (hl:l.length<=1000000) :
  each (fun y i (s:AE) nx=>jp (fun kj=>bnd (wanted y) fun r=>bif r then (need (decide ((s.length+[(i:Int)].length)*8<=140737488355328/\s.length+[(i:Int)].length<=maxLen)) <| kj (s++[(i:Int)])) else (kj s)) fun(j:AE)=>nx j)
   (fun s=>some s) l 0 []=some (yC p l):=by
 refine Ys ?_;refine Jw (fun pre s=>s=yC p pre) rfl (fun pre x post s nx e hs h0=>?_) (fun s hs=>Gg hs);subst hs;have h1:pre.length+1<=l.length:=by rw [e]; simp
 refine gR (fun j=>j=yC p (pre++[x])) (fun K hK=>?_) (fun j hj=>h0 _ hj);refine Gt (hw x (by rw [e]; simp)) (H7 (fun h=>Qs ?_ (hK _ ?_)) (fun h=>hK _ ?_))
 .have:=J1c p pre;exact Ga0 (by rw [S7]; omega) (by omega)
 .rw [H59,h]; rfl
 .rw [H59,h]; simp
theorem Q17 (p:J->Bool) (x:J) (l:List J):yC p (x::l)=(if p x then [0] else [])++(yC p l).map (·+1):=by
 unfold yC;rw [List.zipIdx_cons',List.filter_cons];have h:(((l.zipIdx.map (Prod.map id (fun n:Nat=>n+1))).filter (fun y:J×Nat=>p y.1)).map (fun y:J×Nat=>(y.2:Int)))=((l.zipIdx.filter (fun y:J×Nat=>p y.1)).map (fun y:J×Nat=>(y.2:Int))).map (·+1):=by
  rw [List.filter_map,List.map_map,List.map_map];rfl
 by_cases hx:p x=true
 .rw [if_pos (show p (x,0).fst=true from hx),if_pos hx,List.map_cons];exact congrArg (List.cons _) h
 .rw [if_neg (show ¬ p (x,0).fst=true from hx),if_neg hx,List.nil_append];exact h
theorem Q16 (p:J->Bool) (l:List J):(yC p l).head? = match l.findIdx? p with
  | some j=>some (j:Int)
  | none=>none:=by
 induction l with
 | nil=>rfl
 | cons x l ih=>
  rw [Q17,List.findIdx?_cons];by_cases hx:p x
  .simp [hx]
  .simp only [hx,if_false,Bool.false_eq_true,List.nil_append,List.head?_map,ih];cases l.findIdx? p <;> simp
theorem Q5a (p:J->Bool) (l:List J):decide (0 < ((yC p l).length:Int))=l.any p:=by
 by_cases h:∀ x∈l,p x=false
 .rw [J1b.2 h];refine Eq.symm (List.any_eq_false.2 fun x hx=>?_);rw [h x hx]; exact Bool.false_ne_true
 .have h1:yC p l≠[]:=fun e=>h (J1b.1 e);have h2:=List.length_pos_iff.2 h1;rw [Ps (by omega)];refine Eq.symm (List.any_eq_true.2 ?_);refine Classical.byContradiction fun hn=>h fun x hx=>?_;cases hc:p x with
  | false=>rfl
  | true=>exact(hn ⟨x,hx,hc⟩).elim
def G13 (x:Gv) (c:G5):Bool:=decide (x.Bay=c.Bay)&&x.Rows.any (fun r=>decide (r=c.Row))
theorem Hfa (x:Gv) (c:G5) (hl:x.Rows.length<=1000000):mA x c=some (G13 x c):=by
 unfold mA G13;by_cases h:x.Bay=c.Bay
 .have hc:fU x.Rows (fun z0=>iP z0 c)=some (yC (fun r=>decide (r=c.Row)) x.Rows):=by
   unfold fU;exact G80 (fun x _=>rfl) hl
  rw [Ps h];simp only [cond_true,Bool.true_and];rw [hc,yF,Q5a]
 .rw [Pt h];rfl
def Y4 (s:Ge) (c:G5):Int:=JP (fun x=>G13 x c) s.Covers
theorem ZT {m:Nat} {c:G5} (hc:s.Columns[m]? = some c) (hr:∀ x∈s.Covers,x.Rows.length<=1000000) (hl:s.Covers.length<=1000000):dK s (m:Int)=some (Y4 s c):=by
 have hm:=(Pu hc).1;refine Ys ?_;unfold dK;refine H7 (fun h=>?_) (fun _=>?_)
 .simp only [Sg,S9] at h;omega
 have h1:bJ s.Covers (fun z0=>eR z0 s (m:Int))=some (yC (fun x=>G13 x c) s.Covers):=by
  unfold bJ;refine G80 (fun x hx=>Ys ?_) hl;unfold eR;exact Z2 rfl hc (Gt (Hfa x c (hr x hx)) Gg)
 refine Gt h1 ?_;have hh:=Q16 (fun x=>G13 x c) s.Covers;unfold Y4 JP;cases hf:s.Covers.findIdx? (fun x=>G13 x c) with
 | none=>
  rw [hf] at hh;have h0:yC (fun x=>G13 x c) s.Covers=[]:=List.head?_eq_none_iff.1 hh;rw [h0];exact Gg
 | some j=>
  rw [hf] at hh;cases hi:yC (fun x=>G13 x c) s.Covers with
  | nil=>rw [hi] at hh; cases hh
  | cons z r=>
   rw [hi] at hh;simp only [List.head?_cons,Option.some.injEq] at hh;subst hh;refine H7 (fun h=>?_) (fun _=>Z2 (m:=0) rfl rfl Gg);have:=Pq h;simp only [S2] at this;omega
def abB (k:Int) (b:Box):Bool:=decide (b.Load<=k)&&decide (k < b.AQ)
def mJ (bx:AK) (k:Int):AE:=(bx.filter (abB k)).map (·.ID)
def R8 (l:AG) (id:Int):Slot×Bool:=match Ge7 l id with
 | some x=>(x.Slot,true)
 | none=>(⟨0,0,0⟩,false)
theorem G33 (l:AG) (id:Int):kK l id=some (R8 l id):=by
 unfold kK;have h:aA l (fun z0=>mC z0 id)=some (JP (fun x:G2=>decide (x.Box=id)) l):=JZ (fun x _=>rfl);rw [h];simp only [yF];unfold R8 Ge7;rcases pM (fun x:G2=>decide (x.Box=id)) l with ⟨h1,_,h3⟩ | ⟨m,x,h1,h2,_,h4⟩
 .rw [h1,h3]; rfl
 .rw [h1,h4,Pt (by omega),cond_false];unfold Jk;rw [Ps (by omega),cond_true,show (m:Int).toNat=m by omega,h2];rfl
variable {id:Int}
theorem ZE:(R8 l id).2=true ↔ id∈l.map (·.Box):=by
 unfold R8;cases h:Ge7 l id with
 | none=>
  refine⟨fun e=>(by cases e),fun e=>?_⟩;obtain⟨x,hx,he⟩:=Sc.1 e;have:=List.find?_eq_none.1 h x hx;simp [he] at this
 | some x=>
  refine⟨fun _=>?_,fun _=>rfl⟩;have h1:=List.mem_of_find?_eq_some h;have h2:=Pq (List.find?_some (p:=fun x:G2=>decide (x.Box=id)) h);exact Sc.2 ⟨x,h1,h2⟩
theorem RC (h:(R8 l id).2=true):∃ x∈l,x.Box=id/\(R8 l id).1=x.Slot:=by
 unfold R8 at h ⊢;cases hf:Ge7 l id with
 | none=>rw [hf] at h; cases h
 | some x=>exact⟨x,List.mem_of_find?_eq_some hf,Pq (List.find?_some (p:=fun x:G2=>decide (x.Box=id)) hf),rfl⟩
structure Small (s:Ge):Prop where
 right:aY s=some true
 cols:1<=s.Columns.length/\s.Columns.length<=40
 tiers:∀ c∈s.Columns,c.AP<=100
 covs:s.Covers.length<=1000
 rows:∀ x∈s.Covers,x.Rows.length<=1000
def Jea (s:Ge) (x:Slot):Prop:=∃ (m:Nat) (c:G5),x.G5=(m:Int)/\s.Columns[m]? = some c
structure RL (U:AE) (m:Ht Int Unit) (l:AE):Prop where
 nodup:l.Nodup
 sub:∀ a∈l,a∈U
 has:∀ a,Ht.has m a=decide (a∈l)
variable {U:AE}
theorem RL.le {m:Ht Int Unit} {l:AE} (h:RL U m l):l.length<=U.length:=h.nodup.length_le_of_subset (fun a ha=>h.sub a ha)
theorem RL.start:RL U (Ht.empty:Ht Int Unit) []:=⟨List.nodup_nil,fun a ha=>(Py ha).elim,fun a=>by simp [Gee]⟩
theorem RL.snoc {m:Ht Int Unit} {l:AE} (h:RL U m l) (h1:id ∉ l) (h2:id∈U):RL U (Ht.put m id ()) (l++[id]):=by
 refine⟨?_,fun a ha=>?_,fun a=>?_⟩
 .rw [List.nodup_append];refine⟨h.nodup,by simp,fun a ha b hb=>?_⟩;rw [Sd] at hb; subst hb;intro e; subst e; exact h1 ha
 .rcases Sb.1 ha with ha | ha
  .exact h.sub a ha
  .rw [Sd] at ha; subst ha; exact h2
 .rw [H8c,h.has,Bool.eq_iff_iff];simp only [Sg,S9,Sb,Sd];exact⟨fun h=>h.elim (fun e=>.inr e.symm) .inl,fun h=>h.elim .inr (fun e=>.inl e.symm)⟩
theorem Qa1 (m:Ht Int Unit) (k:Int):eY m k=some (if Ht.has m k then (false,m) else (true,Ht.put m k ())):=by
 unfold eY;cases Ht.has m k <;> rfl
structure Gf1 (s:Ge) (U:AE) (states:List AG):Prop where
 small:Small s
 each:∀ st∈states,∀ x∈st,x.Box∈U/\Jea s x.Slot
 len:U.length<=1000
theorem zM {l:AE} (h:l.Pairwise (· < ·)):l.Nodup:=h.imp (fun h=>by omega)
theorem YT {x:Slot} {size:Int} (h:G42 s x size):Jea s x:=by
 obtain⟨m,c,h1,h2,_⟩:=h.col;exact⟨m,c,h1,h2⟩
variable {af bf:AG}
theorem Q00 (hs:Small s) (h1:Qq s bx bf) (h2:Qq s bx af) (l1:bf.length<=100) (l2:af.length<=100) :
  Gf1 s (bf.map (·.Box)++af.map (·.Box)) [bf,af]:=by
 refine⟨hs,fun st h0 x hx=>?_,by simp only [S6,Sa]; omega⟩;simp only [Se,Py,or_false] at h0;rcases h0 with rfl | rfl
 .obtain⟨b,_,hb,_⟩:=h1.each x hx;exact⟨Sb.2 (.inl (Sc.2 ⟨x,hx,rfl⟩)),YT hb⟩
 .obtain⟨b,_,hb,_⟩:=h2.each x hx;exact⟨Sb.2 (.inr (Sc.2 ⟨x,hx,rfl⟩)),YT hb⟩
theorem GC {a b:AE} (ha:a.Pairwise (· < ·)) (hb:b.Pairwise (· < ·)) (h:∀ x,x∈a ↔ x∈b):a=b:=
 List.Perm.eq_of_pairwise (le:=fun x y:Int=>x < y) (fun x y _ _ h1 h2=>by omega) ha hb ((List.perm_ext_iff_of_nodup (zM ha) (zM hb)).2 h)
def upon (s:Ge) (x y:Slot):Prop:=∃ (m:Nat) (c:G5) (m1:Nat) (c1:G5),x.G5=(m:Int)/\s.Columns[m]? = some c/\y.G5=(m1:Int)/\s.Columns[m1]? = some c1/\c.AO=false/\c1.AO=true/\0<=Y4 s c/\Y4 s c1=Y4 s c
def qJ (s:Ge) (states:List AG) (st:AG) (a b:Int):Prop:=
 (R8 st a).2=true/\((∃ y∈st,y.Box=b/\G1a y.Slot (R8 st a).1)\/∃ st2∈states,∃ y∈st2,y.Box=b/\upon s (R8 st a).1 y.Slot)
def fT (s:Ge) (states:List AG) (a b:Int):Prop:=∃ st∈states,qJ s states st a b
structure Grown (s:Ge) (U:AE) (states:List AG) (l:AE) (id:Int) (m:Ht Int Unit) (l':AE):Prop where
 inv:RL U m l'
 sub:∀ a∈l,a∈l'
 has:id∈l'
 closed:∀ a∈l',a ∉ l->∀ b,fT s states a b->b∈l'
 least:∀ C:Int->Prop,(∀ a b,C a->fT s states a b->C b)->(∀ a∈l,C a)->C id->∀ a∈l',C a
structure Rch (s:Ge) (U:AE) (states:List AG) (l:AE) (id:Int) (m:Ht Int Unit) (l':AE):Prop where
 inv:RL U m l'
 sub:∀ a∈l++[id],a∈l'
 closed:∀ a∈l',a ∉ l->a≠id->∀ b,fT s states a b->b∈l'
 least:∀ C:Int->Prop,(∀ a b,C a->fT s states a b->C b)->(∀ a∈l,C a)->C id->∀ a∈l',C a
section
variable {s:Ge} {U:AE} {states:List AG} {l l' l2:AE} {id y:Int} {m m2:Ht Int Unit}
theorem Rch.start (h:RL U m (l++[id])):Rch s U states l id m (l++[id]):=
 ⟨h,fun a ha=>ha,fun a ha h1 h2=>by
  rcases Sb.1 ha with ha | ha
  .exact(h1 ha).elim
  .exact(h2 (Sd.1 ha)).elim,fun C _ hl hid a ha=>by
  rcases Sb.1 ha with ha | ha
  .exact hl a ha
  .exact Sd.1 ha ▸ hid⟩
theorem Rch.step (h:Rch s U states l id m l') (hp:fT s states id y) (g:Grown s U states l' y m2 l2):Rch s U states l id m2 l2/\(∀ a∈l',a∈l2)/\y∈l2:=
 ⟨⟨g.inv,fun a ha=>g.sub a (h.sub a ha),fun a ha h1 h2 b hb=>by
  by_cases h0:a∈l'
  .exact g.sub b (h.closed a h0 h1 h2 b hb)
  .exact g.closed a ha h0 b hb,fun C hc hl hid=>g.least C hc (h.least C hc hl hid) (hc id y hid hp)⟩,g.sub,g.has⟩
end
theorem xW {P:J->Prop} {l:List J} (h1:∀ y∈l,P y) (h2:P x):∀ y∈l++[x],P y:=fun y hy=>by
 rcases Sb.1 hy with hy | hy
 .exact h1 y hy
 .exact Sd.1 hy ▸ h2
theorem Q62 {states:List AG} (hs:Gf1 s U states):∀ (F:Nat) (id:Int) (m:Ht Int Unit) (l:AE),RL U m l->id∈U->U.length+1<=F+l.length ->
  Wp (dW F id m l states s) (fun r=>Grown s U states l id r.1 r.2):=by
 intro F
 induction F with
 | zero=>intro id m l hi _ hF; have:=hi.le; omega
 | succ F ih=>
  intro id m l hi hid hF;show Wp (iS (dW F) F id m l states s) _
  unfold iS;refine Gt (Qa1 m id) ?_;rw [hi.has];by_cases h7:id∈l
  .rw [if_pos (Ps h7)];exact H7 (fun _=>Gg ⟨hi,fun a ha=>ha,h7,fun a ha hn=>(hn ha).elim,fun C _ hl _ a ha=>hl a ha⟩) (fun h=>by cases h)
  rw [if_neg (by rw [Pt h7]; exact Bool.false_ne_true)];refine H7 (fun h=>by cases h) (fun _=>?_);have b3:=hi.le;have b1:=hs.len;have h1:=hi.snoc h7 hid;have b2:=h1.le;have b4:(l++[id]).length=l.length+1:=by simp
  refine Qs (Ga0 (by rw [S7]; omega) (by omega)) ?_;have again:∀ (y:G2) (st:AG) (m':Ht Int Unit) (l':AE),st∈states->y∈st->Rch s U states l id m' l'->fT s states id y.Box ->
    Wp (dW F y.Box m' l' states s) (fun r=>Rch s U states l id r.1 r.2/\(∀ a∈l',a∈r.2)/\y.Box∈r.2):=
   fun y st m' l' h2 h3 h4 h5=>wp_mono (ih y.Box m' l' h4.inv (hs.each st h2 y h3).1 (by
    have:=h1.nodup.length_le_of_subset (fun a ha=>h4.sub a ha);omega)) (fun r hr=>h4.step h5 hr)
  have a5:∀ {k:Nat} {c:G5},s.Columns[k]? = some c->dK s (k:Int)=some (Y4 s c):=fun hc=>ZT hc (fun x hx=>by have:=hs.small.rows x hx; omega) (by have:=hs.small.covs; omega);refine Jw (fun pre s7=>Rch s U states l id s7.1 s7.2/\∀ st∈pre,∀ b,qJ s states st id b->b∈s7.2) ⟨.start h1,fun st h=>(Py h).elim⟩ (fun pre st post s7 nx e hI h8=>?_) (fun s7 hI=>Gg ?_)
  .have h6:st∈states:=by rw [e]; simp
   obtain⟨hR,hD⟩:=hI;refine gR (fun j=>Rch s U states l id j.1 j.2/\(∀ a∈s7.2,a∈j.2)/\∀ b,qJ s states st id b->b∈j.2) (fun K hK=>?_) (fun j hj=>h8 _ ⟨hj.1,xW (fun st' h' b hb=>hj.2.1 _ (hD st' h' b hb)) hj.2.2⟩);refine Gt (G33 st id) (H7 (fun hf=>hK _ ⟨hR,fun a ha=>ha,fun b hb=>?_⟩) (fun hf=>?_))
   .rw [hb.1] at hf; cases hf
   have a6:(R8 st id).2=true:=by simpa using hf
   obtain⟨x,hx,_,h9⟩:=RC a6;obtain⟨m0,c0,a7,a1⟩:=(hs.each st h6 x hx).2;rw [h9];refine gR (fun j17=>j17=if c0.AO=true then -1 else Y4 s c0) (fun K' h0=>Z2 a7 a1 (H7 (fun hd=>?_) (fun hd=>h0 _ (by
    rw [if_pos (by simpa using hd)])))) (fun j17 a2=>?_)
   .rw [a7];exact Gt (a5 a1) (h0 _ (by rw [if_neg (by simpa using hd)]))
   refine Jw (fun pre s56=>Rch s U states l id s56.1 s56.2/\(∀ a∈s7.2,a∈s56.2)/\∀ y∈pre,G1a y.Slot x.Slot->y.Box∈s56.2) ⟨hR,fun a ha=>ha,fun y h=>(Py h).elim⟩ (fun pre y post s56 nx e hI h8=>?_) (fun s56 hI=>?_)
   .have hy:y∈st:=by rw [e]; simp
    obtain⟨i1,i2,i3⟩:=hI;refine gR (fun j=>Rch s U states l id j.1 j.2/\(∀ a∈s56.2,a∈j.2)/\(G1a y.Slot x.Slot->y.Box∈j.2)) (fun K' h0=>?_) (fun j hj=>h8 _ ⟨hj.1,fun a ha=>hj.2.1 a (i2 a ha),xW (fun y' h' ho=>hj.2.1 _ (i3 y' h' ho)) hj.2.2⟩);refine H6 (wp_mono (Q02 y.Slot x.Slot) (fun r62 a9=>H7 (fun hr=>?_) (fun hr=>h0 _ ⟨i1,fun a ha=>ha,fun ho=>?_⟩)))
    .exact H6 (wp_mono (again y st _ _ h6 hy i1 ⟨st,h6,a6,.inl ⟨y,hy,rfl,by rw [h9]; exact a9.1 hr⟩⟩) (fun r hr=>h0 _ ⟨hr.1,hr.2.1,fun _=>hr.2.2⟩))
    .rw [a9.2 ho] at hr; cases hr
   .obtain⟨i1,i2,i3⟩:=hI;refine Jw (fun pre s65=>Rch s U states l id s65.1 s65.2/\(∀ a∈s56.2,a∈s65.2)/\∀ st2∈pre,∀ y∈st2,upon s x.Slot y.Slot->y.Box∈s65.2) ⟨i1,fun a ha=>ha,fun st2 h=>(Py h).elim⟩ (fun pre st2 post s65 nx e hI h8=>?_) (fun s65 hI=>hK _ ⟨hI.1,fun a ha=>hI.2.1 a (i2 a ha),fun b hb=>?_⟩)
    .obtain⟨j1,j2,j3⟩:=hI;have a0:st2∈states:=by rw [e]; simp
     refine Jw (fun pre s107=>Rch s U states l id s107.1 s107.2/\(∀ a∈s65.2,a∈s107.2)/\∀ y∈pre,upon s x.Slot y.Slot->y.Box∈s107.2) ⟨j1,fun a ha=>ha,fun y h=>(Py h).elim⟩ (fun pre y post s107 nx2 e hI b0=>?_) (fun s107 hI=>h8 _ ⟨hI.1,fun a ha=>hI.2.1 a (j2 a ha),xW (fun st' h' y hy hu=>hI.2.1 _ (j3 st' h' y hy hu)) hI.2.2⟩);obtain⟨k1,k2,k3⟩:=hI;have hy:y∈st2:=by rw [e]; simp
     obtain⟨m1,c1,a8,a3⟩:=(hs.each st2 a0 y hy).2;have a4:upon s x.Slot y.Slot ↔ (0<=j17/\c1.AO=true/\Y4 s c1=j17):=by
      constructor
      .rintro⟨n0,d0,n1,d1,e1,e2,e3,e4,q1,q2,q3,q4⟩;have e5:n0=m0:=by omega
       have e6:n1=m1:=by omega
       subst e5 e6;rw [a1] at e2; cases e2;rw [a3] at e4; cases e4;rw [if_neg (by rw [q1]; exact Bool.false_ne_true)] at a2;rw [a2];exact⟨q3,q2,q4⟩
      .rintro⟨q1,q2,q3⟩;by_cases hd:c0.AO=true
       .rw [if_pos hd] at a2; omega
       .rw [if_neg hd] at a2;exact⟨m0,c0,m1,c1,a7,a1,a8,a3,by simpa using hd,q2,by omega,by omega⟩
     refine gR (fun j=>Rch s U states l id j.1 j.2/\(∀ a∈s107.2,a∈j.2)/\(upon s x.Slot y.Slot->y.Box∈j.2)) (fun K' h0=>?_) (fun j hj=>b0 _ ⟨hj.1,fun a ha=>hj.2.1 a (k2 a ha),xW (fun y' h' ho=>hj.2.1 _ (k3 y' h' ho)) hj.2.2⟩);by_cases hj:0<=j17
     .rw [Ps hj];simp only [cond_true,Bool.true_and];refine H6 (Z2 a8 a3 (Gg ?_));cases hd:c1.AO with
      | true=>
       simp only [cond_true,Bool.true_and];rw [a8];refine Gt (a5 a3) (H7 (fun hc=>?_) (fun hc=>h0 _ ⟨k1,fun a ha=>ha,fun hu=>?_⟩))
       .exact H6 (wp_mono (again y st2 _ _ a0 hy k1 ⟨st,h6,a6,.inr ⟨st2,a0,y,hy,rfl,by rw [h9]; exact a4.2 ⟨hj,hd,Pq hc⟩⟩⟩) (fun r hr=>h0 _ ⟨hr.1,hr.2.1,fun _=>hr.2.2⟩))
       .exact(Pr hc (a4.1 hu).2.2).elim
      | false=>
       simp only [cond_false,Bool.false_and];exact H6 (Gg (h0 _ ⟨k1,fun a ha=>ha,fun hu=>by have:=(a4.1 hu).2.1; rw [hd] at this; cases this⟩))
     .rw [Pt hj];simp only [cond_false,Bool.false_and];exact H6 (Gg (H6 (Gg (h0 _ ⟨k1,fun a ha=>ha,fun hu=>(hj (a4.1 hu).1).elim⟩))))
    .rcases hb.2 with ⟨y,hy,rfl,ho⟩ | ⟨st2,h2,y,hy,rfl,hu⟩
     .exact hI.2.1 _ (i3 y hy (by rw [<- h9]; exact ho))
     .exact hI.2.2 st2 h2 y hy (by rw [<- h9]; exact hu)
  .obtain⟨hR,hD⟩:=hI;refine⟨hR.inv,fun a ha=>hR.sub a (Sb.2 (.inl ha)),hR.sub id (by simp),fun a ha hn b hb=>?_,hR.least⟩;by_cases e:a=id
   .subst e;obtain⟨st,h6,hp⟩:=hb;exact hD st h6 b hp
   .exact hR.closed a ha hn e b hb
structure QH (s:Ge) (bf af:AG) (l:AE):Prop where
 seeds:∀ st∈[bf,af],∀ y∈st,R8 bf y.Box≠R8 af y.Box->y.Box∈l
 closed:∀ a∈l,∀ b,fT s [bf,af] a b->b∈l
 least:∀ C:Int->Prop,(∀ a b,C a->fT s [bf,af] a b->C b)->(∀ st∈[bf,af],∀ y∈st,R8 bf y.Box≠R8 af y.Box->C y.Box)->∀ a∈l,C a
theorem QH.perm {l l':AE} (h:QH s bf af l) (hp:∀ a,a∈l' ↔ a∈l):QH s bf af l':=
 ⟨fun st h0 y hy h1=>(hp _).2 (h.seeds st h0 y hy h1),fun a ha b hb=>(hp b).2 (h.closed a ((hp a).1 ha) b hb),fun C hc hl a ha=>h.least C hc hl a ((hp a).1 ha)⟩
theorem differ {p q:Slot×Bool}:((!(p.2==q.2))||(!decide (p.1=q.1)))=true ↔ p≠q:=by
 obtain⟨p1,p2⟩:=p;obtain⟨q1,q2⟩:=q;simp only [Sg,Bool.not_eq_true',beq_eq_false_iff_ne,decide_eq_false_iff_not,ne_eq,Prod.mk.injEq,not_and];constructor
 .rintro(h | h) h1 h2
  .exact h h2
  .exact h h1
 .intro h;by_cases e:p1=q1
  .exact .inl (h e)
  .exact .inr e
theorem J16 (hs:Gf1 s U [bf,af]) {F:Nat} (hF:U.length+1<=F) :
  Wp (mB F s bf af) (fun r=>r.Pairwise (· < ·)/\(∀ a∈r,a∈U)/\QH s bf af r):=by
 unfold mB;have go:∀ {m:Ht Int Unit} {l:AE} {y:G2} {st:AG} {m2:Ht Int Unit} {l2:AE},st∈[bf,af]->y∈st->R8 bf y.Box≠R8 af y.Box ->
   (RL U m l/\(∀ a∈l,∀ b,fT s [bf,af] a b->b∈l)/\∀ C:Int->Prop,(∀ a b,C a->fT s [bf,af] a b->C b)->(∀ st∈[bf,af],∀ y∈st,R8 bf y.Box≠R8 af y.Box->C y.Box)->∀ a∈l,C a) ->
   Grown s U [bf,af] l y.Box m2 l2 ->
   (RL U m2 l2/\(∀ a∈l2,∀ b,fT s [bf,af] a b->b∈l2)/\∀ C:Int->Prop,(∀ a b,C a->fT s [bf,af] a b->C b)->(∀ st∈[bf,af],∀ y∈st,R8 bf y.Box≠R8 af y.Box->C y.Box)->∀ a∈l2,C a):=
  fun {m l y st m2 l2} h3 hy h0 hI g=>⟨g.inv,fun a ha b hb=>by
   by_cases h4:a∈l
   .exact g.sub b (hI.2.1 a h4 b hb)
   .exact g.closed a ha h4 b hb,fun C hc hl=>g.least C hc (hI.2.2 C hc hl) (hl st h3 y hy h0)⟩
 refine Jw (fun pre s9=>(RL U s9.1 s9.2/\(∀ a∈s9.2,∀ b,fT s [bf,af] a b->b∈s9.2)/\∀ C:Int->Prop,(∀ a b,C a->fT s [bf,af] a b->C b)->(∀ st∈[bf,af],∀ y∈st,R8 bf y.Box≠R8 af y.Box->C y.Box)->∀ a∈s9.2,C a) /\
   ∀ st∈pre,∀ y∈st,R8 bf y.Box≠R8 af y.Box->y.Box∈s9.2)
  ⟨⟨.start,fun a h=>(Py h).elim,fun C _ _ a h=>(Py h).elim⟩,fun st h=>(Py h).elim⟩ (fun pre st post s9 nx e hI h6=>?_) (fun s9 hI=>?_)
 .have h3:st∈[bf,af]:=by rw [e]; simp
  obtain⟨hA,hB⟩:=hI;refine Jw (fun pre s59=>(RL U s59.1 s59.2/\(∀ a∈s59.2,∀ b,fT s [bf,af] a b->b∈s59.2)/\∀ C:Int->Prop,(∀ a b,C a->fT s [bf,af] a b->C b)->(∀ st∈[bf,af],∀ y∈st,R8 bf y.Box≠R8 af y.Box->C y.Box)->∀ a∈s59.2,C a) /\
    (∀ a∈s9.2,a∈s59.2)/\∀ y∈pre,R8 bf y.Box≠R8 af y.Box->y.Box∈s59.2)
   ⟨hA,fun a ha=>ha,fun y h=>(Py h).elim⟩ (fun pre y post s59 nx2 e hI h5=>?_) (fun s59 hI=>h6 _ ⟨hI.1,xW (fun st' h' y hy h0=>hI.2.1 _ (hB st' h' y hy h0)) hI.2.2⟩)
  have hy:y∈st:=by rw [e]; simp
  obtain⟨j1,j2,j3⟩:=hI;refine gR (fun j=>(RL U j.1 j.2/\(∀ a∈j.2,∀ b,fT s [bf,af] a b->b∈j.2)/\∀ C:Int->Prop,(∀ a b,C a->fT s [bf,af] a b->C b)->(∀ st∈[bf,af],∀ y∈st,R8 bf y.Box≠R8 af y.Box->C y.Box)->∀ a∈j.2,C a) /\
    (∀ a∈s59.2,a∈j.2)/\(R8 bf y.Box≠R8 af y.Box->y.Box∈j.2)) (fun K hK=>?_) (fun j hj=>h5 _ ⟨hj.1,fun a ha=>hj.2.1 a (j2 a ha),xW (fun y' h' ho=>hj.2.1 _ (j3 y' h' ho)) hj.2.2⟩)
  refine Gt (G33 bf y.Box) (Gt (G33 af y.Box) (H7 (fun hd=>?_) (fun hd=>hK _ ⟨j1,fun a ha=>ha,fun h0=>?_⟩)))
  .have h0:=differ.1 hd;exact H6 (wp_mono (Q62 hs F y.Box _ _ j1.1 (hs.each st h3 y hy).1 (by omega)) (fun r hr=>hK _ ⟨go h3 hy h0 j1 hr,hr.sub,fun _=>hr.has⟩))
  .rw [differ.2 h0] at hd; cases hd
 .obtain⟨⟨hA,hB,hC⟩,hD⟩:=hI;have h1:=hA.le;have h2:=hs.len;have h7:G2c s9.2=some (pB s9.2):=by
   unfold G2c;rw [Ps (show s9.2.length < 4611686018427387904 by omega)];rfl
  have hp:=zO s9.2;refine Gt h7 (Gg ⟨?_,fun a ha=>hA.sub a (hp.mem_iff.1 ha),QH.perm ⟨hD,hB,hC⟩ (fun a=>hp.mem_iff)⟩);have hn:(pB s9.2).Nodup:=hp.nodup_iff.2 hA.nodup;exact(List.pairwise_and_iff.2 ⟨zN s9.2,hn⟩).imp (fun {a b} h=>by have h1:=h.1; have h2:=h.2; omega)
theorem JK {a b:J} (h:x∈[a,b]):x∈[b,a]:=by
 simp only [Se,Py,or_false] at h ⊢;exact h.symm
end Go.Proofs.YtkiekighbhnolaaGreat
