/-
 What stow.Right says,in plain words. All ways to pile AA up: The library's insertion sort,as the extractor's model has it
-/
import Derived.Test.YtibhpogonkdiaaaGreatRightL
import Derived.Test.YtibhpogonkdiaaaGreatExt
set_option maxRecDepth 100000
namespace Go.Proofs.YtibhpogonkdiaaaGreat
open Go.RowKit

structure Zj (s:Gc) (AA:AH) (l:AE):Prop where
 each:∀ x∈l,∃ b,jU AA x.Box=some b∧oM s x.Slot b.Size∧H9a x.Slot (l.map (·.Slot))
 sorted:l.Pairwise (fun a b=>a.Box < b.Box)
 apart:l.Pairwise (fun a b=>¬ xK b.Slot a.Slot)
 fits:∀ m c,s.AB[m]? = some c->H9b AA l m c

variable {α:Type}
theorem gD {R:α->α->Prop} {l:List α} {x:α} (h:l.Pairwise R) (hx:∀ a∈l,R a x):(l++[x]).Pairwise R:=by
 grind
theorem pC {R:α->α->Prop} {pre post:List α} {y:α} (h:(pre++y::post).Pairwise R):∀ a∈pre,R a y:=fun a ha=>(List.pairwise_append.1 h).2.2 a ha y (List.mem_cons_self ..)

theorem fK {s:Gc} {AA:AH} {l:AE} (hr:Jh s=some true) (ht:∀ c∈s.AB,c.Tiers<=1000000) (hl:l.length<=1000000):Wp (Qq s AA l) (fun r=>r=true ↔ Zj s AA l):=by
 unfold Qq;refine Gv hr (Hr (fun h=>by cases h) (fun _=>?_));refine Gv (Hf4 l hl) ?_;refine Ja (fun pre _=>(∀ x∈pre,∃ b,jU AA x.Box=some b∧oM s x.Slot b.Size∧H9a x.Slot (l.map (·.Slot)))∧pre.Pairwise (fun a b=>a.Box < b.Box)∧pre.Pairwise (fun a b=>¬ xK b.Slot a.Slot))
  ⟨fun x hx=>(Se hx).elim,List.Pairwise.nil,List.Pairwise.nil⟩ (fun pre y post u nx e hI h4=>?_) (fun u hI=>?_)
 ·obtain⟨i1,i2,i3⟩:=hI;have a8:pre.length < l.length:=by rw [e]; simp
  have hy:y∈l:=by rw [e]; simp
  have no:∀ {m:Option Bool},m=some false->¬ Zj s AA l->Wp m (fun r=>r=true ↔ Zj s AA l):=fun e h=>by subst e; exact Gx ⟨fun e=>(by cases e),fun e=>(h e).elim⟩
  refine Gv (xY AA y.Box) ?_;cases hf:jU AA y.Box with
  | none=>
   simp only [Bool.not_false,Bool.not_true,Bool.false_and,cond_false,Bool.true_or,cond_true];refine H6 (Gx (H6 (Gx (H6 (Gx (H6 (Gx (no rfl fun h=>?_))))))));obtain⟨b,hb,_⟩:=h.each y hy;rw [hf] at hb; cases hb
  | some b=>
   simp only [Bool.not_true,Bool.not_false,Bool.true_and,Bool.false_or]
   -- the order
   have h7:Wp (bif decide (0 < (pre.length:Int)) then chk ((pre.length:Int) - 1) some else some 0) (fun v=>Wp (bif decide (0 < (pre.length:Int)) then Jy l v some else some default) (fun y20=>
     ((decide (0 < (pre.length:Int))&&decide (y.Box<=y20.Box))=true->¬ Zj s AA l)∧((decide (0 < (pre.length:Int))&&decide (y.Box<=y20.Box))=false->∀ a∈pre,a.Box < y.Box))):=by
    rcases List.eq_nil_or_concat pre with hp | ⟨pre',z,hp⟩
    ·subst hp;simp only [List.length_nil];exact Gx (Gx ⟨fun h=>by simp at h,fun _ a ha=>(Se ha).elim⟩)
    ·have h2:pre=pre'++[z]:=by simpa using hp
     have a9:pre.length=pre'.length+1:=by rw [h2]; simp
     have hd:decide (0 < (pre.length:Int))=true:=S8 (by omega);have hz:l[pre'.length]? = some z:=by rw [e,h2]; simp
     rw [hd];simp only [cond_true,Bool.true_and];refine Hy ⟨by omega,by omega⟩ (Gx (Jk (m:=pre'.length) (by omega) hz (Gx ⟨fun h hR=>?_,fun h a ha=>?_⟩)))
     ·have:=S6 h;have hs:=hR.sorted;rw [e] at hs;have:=pC hs z (by rw [h2]; simp);omega
     ·have b0:¬ y.Box<=z.Box:=S7 h;rw [h2] at ha;rcases St.1 ha with ha | ha
      ·have:=pC (h2 ▸ i2:(pre'++z::[]).Pairwise _) a ha;omega
      ·rw [Sv] at ha; subst ha; omega
   refine H6 (wp_mono h7 (fun v hv=>H6 (wp_mono hv (fun y20 a5=>?_))));obtain⟨n1,n2⟩:=a5;generalize (decide (0 < (pre.length:Int))&&decide (y.Box<=y20.Box))=c at n1 n2;cases c with
   | true=>
    simp only [Bool.not_true,cond_false,Bool.true_or,cond_true];exact H6 (Gx (H6 (Gx (no rfl (n1 rfl)))))
   | false=>
    simp only [Bool.not_false,cond_true,Bool.false_or];have h8:=n2 rfl;refine H6 (wp_mono (J01 s y.Slot b.Size) (fun r21 a1=>?_));cases r21 with
    | false=>
     simp only [Bool.not_false,Bool.not_true,cond_false,Bool.true_or,cond_true];refine H6 (Gx (no rfl fun h=>?_));obtain⟨b',hb,hs,_⟩:=h.each y hy;rw [hf] at hb; cases hb;have:=a1.2 hs; cases this
    | true=>
     have h1:=a1.1 rfl;simp only [Bool.not_true,Bool.not_false,cond_true,Bool.false_or];have h9 : -1000000<=y.Slot.AL∧y.Slot.AL<=1000000:=by
      obtain⟨m,c,_,hc,h3⟩:=h1.col;have:=h1.tier;have:=ht c (Sd hc);omega
     refine H6 (wp_mono (J69 y.Slot (l.map (·.Slot)) h9) (fun r22 a2=>?_));cases r22 with
     | false=>
      refine Hr (fun _=>no rfl fun h=>?_) (fun h=>by cases h);obtain⟨b',hb,_,hh⟩:=h.each y hy;have:=a2.2 hh; cases this
     | true=>
      have a0:=a2.1 rfl;refine Hr (fun h=>by cases h) (fun _=>?_);refine H6 (aY (m:=pre.length) rfl (by rw [Ss]; omega) ?_);have a6:(l.map (·.Slot)).take pre.length=pre.map (·.Slot):=by rw [<- List.map_take,e,List.take_left']; rfl
      rw [a6];refine Ja (fun pr _=>∀ a∈pr,¬ xK y.Slot a) (fun a ha=>(Se ha).elim) (fun pr a pos u nx2 e2 h5 a4=>?_) (fun u h5=>h4 _ ⟨fun x hx=>?_,gD i2 h8,gD i3 (fun a ha=>h5 a.Slot (Su.2 ⟨a,ha,rfl⟩))⟩)
      ·refine H6 (wp_mono (J68 y.Slot a) (fun r48 a3=>?_));refine Hr (fun h=>no rfl fun hR=>?_) (fun h=>a4 _ (fun a' h0=>?_))
       ·have hm:=a3.1 h;have a7:a∈pre.map (·.Slot):=by rw [e2]; simp
        obtain⟨z,hz,rfl⟩:=Su.1 a7;have ha:=hR.apart;rw [e] at ha;exact pC ha z hz hm
       ·rcases St.1 h0 with h0 | h0
        ·exact h5 a' h0
        ·rw [Sv] at h0; subst h0;intro hm;have:=a3.2 hm;rw [this] at h; cases h
      ·rcases St.1 hx with hx | hx
       ·exact i1 x hx
       ·rw [Sv] at hx; subst hx;exact⟨b,hf,h1,a0⟩
 ·obtain⟨i1,i2,i3⟩:=hI;refine Ja (fun pre _=>∀ m c,m < pre.length->s.AB[m]? = some c->H9b AA l m c) (fun m c h=>(Nat.not_lt_zero m h).elim) (fun pre y post u nx e hI h4=>?_) (fun u hI=>Gx ⟨fun _=>⟨i1,i2,i3,fun m c hc=>hI m c (Sa hc).1 hc⟩,fun _=>rfl⟩);have hc:s.AB[pre.length]? = some y:=by rw [e]; simp
  refine H6 (wp_mono (J62 hc hl) (fun r hr=>?_));cases r with
  | false=>exact Hr (fun _=>Gx ⟨fun e=>(by cases e),fun h=>by have:=hr.2 (h.fits _ _ hc); cases this⟩) (fun h=>by cases h)
  | true=>
   refine Hr (fun h=>by cases h) (fun _=>h4 _ (fun m c hm h6=>?_));rw [Sn,Sp] at hm;rcases S4 m pre.length with h | h
   ·exact hI m c h h6
   ·have:m=pre.length:=by omega
    subst this;rw [hc] at h6; cases h6;exact hr.1 rfl

def shut (ts hs:AD) (c:Nat):Bool:=(hs.drop (c+1)).any (fun n=>decide (0 < n))||decide (ts.getD c 0<=hs.getD c 0)
def fT (ts:AD):Nat->AD->AD->List AE
 | 0,_,_=>[]
 | F+1,ids,hs=>bif ids.isEmpty then [[]] else
   (List.range ts.length).flatMap fun c=>bif shut ts hs c then [] else
    (List.range ids.length).flatMap fun i=>(fT ts F (ids.eraseIdx i) (hs.set c (hs.getD c 0+1))).map fun r=>(⟨ids.getD i 0,⟨(c:Int),hs.getD c 0,0⟩⟩:G1)::r
theorem Gdd {ts:AD}:∀ {F:Nat} {ids hs:AD} {r:AE},ids.length < F->r∈fT ts F ids hs->r.length=ids.length
 | F+1,ids,hs,r,hF,hr=>by
  unfold fT at hr;cases ids with
  | nil=>simp at hr; subst hr; rfl
  | cons a l=>
   simp only [List.isEmpty_cons,cond_false,List.mem_flatMap,List.mem_range] at hr;obtain⟨c,hc,hr⟩:=hr;cases h0:shut ts hs c with
   | true=>rw [h0] at hr; simp at hr
   | false=>
    rw [h0] at hr;simp only [cond_false,List.mem_flatMap,List.mem_range,Su] at hr;obtain⟨i,hi,q,hq,rfl⟩:=hr;have hl:((a::l).eraseIdx i).length=l.length:=by rw [List.length_eraseIdx_of_lt (by simpa using hi)]; simp
    have:=Gdd (F:=F) (by rw [hl]; simp at hF; omega) hq;rw [Si,this,hl,Si]
theorem H1a (l:AD) (p:Int->Bool) (f:Int->Option Bool) (hf:∀ x∈l,f x=some (p x)):Rw l f=some (l.any p):=by
 unfold Rw Yj;rw [jF hf,cT,kW]
theorem G51 (f:Nat->List α) (n:Nat):(List.range (n+1)).flatMap f=(List.range n).flatMap f++f n:=by
 rw [List.range_succ,List.flatMap_append]; simp

theorem Gdc (s:Gc):∀ (F:Nat) (ids hs:AD),hs.length=s.AB.length->s.AB.length<=1000->(∀ h∈hs,0<=h∧h+(ids.length:Int)<=1000)->ids.length < F->ids.length<=1000->dO F ids s hs=some (fT (s.AB.map (·.Tiers)) F ids hs):=by
 intro F
 induction F with
 | zero=>intro ids hs h1 h2 h3 h4; omega
 | succ F ih=>
  intro ids hs h1 h2 h3 h4 h5;show dU (dO F) ids s hs=_
  refine eF ?_;unfold dU fT;cases ids with
  | nil=>exact Gx
  | cons a l=>
   obtain⟨ids,h0⟩:∃ ids,a::l=ids:=⟨_,rfl⟩;have b0:ids.isEmpty=false:=by rw [<- h0]; rfl
   have b5:0 < ids.length:=by rw [<- h0]; simp
   rw [h0] at h3 h4 h5 ⊢;rw [b0,cond_false];refine Hr (fun e=>by have:=S6 e; omega) (fun _=>?_);rw [Ss];refine Ja (fun pre s7=>s7=(List.range pre.length).flatMap fun c=>bif shut (s.AB.map (·.Tiers)) hs c then [] else
    (List.range ids.length).flatMap fun i=>(fT (s.AB.map (·.Tiers)) F (ids.eraseIdx i) (hs.set c (hs.getD c 0+1))).map fun r=>(⟨ids.getD i 0,⟨(c:Int),hs.getD c 0,0⟩⟩:G1)::r)
    rfl (fun pre y post s7 nx e hI b1=>?_) (fun s7 hI=>Gx hI)
   have b6:pre.length < s.AB.length:=by rw [e]; simp
   have hc:pre.length < hs.length:=by omega
   have a2:hs.getD pre.length 0=hs[pre.length]:=by simp [List.getD,hc]
   have b2:(s.AB.map (·.Tiers)).getD pre.length 0=y.Tiers:=by
    have:s.AB[pre.length]? = some y:=by rw [e]; simp
    simp [List.getD,this]
   have hh:=h3 _ (List.getElem_mem hc);refine Rz (fun s'=>s'=(List.range (pre++[y]).length).flatMap fun c=>bif shut (s.AB.map (·.Tiers)) hs c then [] else
    (List.range ids.length).flatMap fun i=>(fT (s.AB.map (·.Tiers)) F (ids.eraseIdx i) (hs.set c (hs.getD c 0+1))).map fun r=>(⟨ids.getD i 0,⟨(c:Int),hs.getD c 0,0⟩⟩:G1)::r) (fun K hK=>?_) (fun s' b3=>b1 s' b3)
   rw [Sn,Sp] at hK;simp only [G51] at hK;refine H6 (aY (m:=pre.length+1) rfl (by omega) ?_);refine Gv (H1a _ (fun n=>decide (0 < n)) _ (fun x _=>rfl)) ?_;have h6:shut (s.AB.map (·.Tiers)) hs pre.length=((hs.drop (pre.length+1)).any (fun n=>decide (0 < n))||decide (y.Tiers<=hs[pre.length])):=by
    unfold shut; rw [a2,b2]
   have a3:shut (s.AB.map (·.Tiers)) hs pre.length=true->Wp (K s7) (fun r=>r=(List.range s.AB.length).flatMap fun c=>bif shut (s.AB.map (·.Tiers)) hs c then [] else
    (List.range ids.length).flatMap fun i=>(fT (s.AB.map (·.Tiers)) F (ids.eraseIdx i) (hs.set c (hs.getD c 0+1))).map fun r=>(⟨ids.getD i 0,⟨(c:Int),hs.getD c 0,0⟩⟩:G1)::r):=fun h=>hK _ (by rw [h,cond_true,List.append_nil]; exact hI)
   cases h7:(hs.drop (pre.length+1)).any (fun n=>decide (0 < n)) with
   | true=>
    simp only [Bool.not_true,cond_false,Bool.true_or,cond_true];exact H6 (Gx (a3 (by rw [h6,h7]; rfl)))
   | false=>
    simp only [Bool.not_false,cond_true,Bool.false_or];refine H6 (Jk (m:=pre.length) rfl (Sb hc) (Gx ?_));refine Hr (fun ht=>a3 (by rw [h6,ht,Bool.or_true])) (fun ht=>?_);have a4:shut (s.AB.map (·.Tiers)) hs pre.length=false:=by rw [h6,h7,ht]; rfl
    refine Ja (fun done s68=>s68=s7++(List.range done.length).flatMap fun i=>(fT (s.AB.map (·.Tiers)) F (ids.eraseIdx i) (hs.set pre.length (hs.getD pre.length 0+1))).map fun r=>(⟨ids.getD i 0,⟨(pre.length:Int),hs.getD pre.length 0,0⟩⟩:G1)::r)
     (by simp) (fun done y68 rest s68 nx2 e2 h8 a5=>?_) (fun s68 h8=>hK _ (by rw [h8,a4,cond_false,hI]))
    have b4:done.length < ids.length:=by rw [e2]; simp
    have a6:ids.getD done.length 0=y68:=by
     have:ids[done.length]? = some y68:=by rw [e2]; simp
     simp [List.getD,this]
    have h9:(ids.eraseIdx done.length).length=ids.length - 1:=List.length_eraseIdx_of_lt b4;refine Jk (m:=pre.length) rfl (Sb hc) ?_;refine Gv (G01 hs (by omega)) (Jk (m:=pre.length) rfl (Sb hc) (Hy ⟨by omega,by omega⟩ (Jk (m:=pre.length) rfl (Sb hc) ?_)));refine Gv (G01 ids (by omega)) ?_;refine Gv (x:=ids.eraseIdx done.length) ?_ ?_
    ·unfold bS;rw [S8 (by omega:(0:Int)<=(done.length:Int)),S8 (by omega:(done.length:Int) < (ids.length:Int)),S8 (by push_cast; omega:((done.length+1:Nat):Int)=(done.length:Int)+1),S8 (by omega:ids.length<=100000)];simp
    refine Gv (x:=()) rfl ?_;rw [Int.toNat_natCast];have a7:∀ h∈hs.set pre.length (hs[pre.length]+1),0<=h∧h+((ids.eraseIdx done.length).length:Int)<=1000:=fun h hm=>by
     rw [h9];rcases List.mem_or_eq_of_mem_set hm with hm | rfl
     ·have:=h3 h hm; omega
     ·omega
    have a8:=ih (ids.eraseIdx done.length) (hs.set pre.length (hs[pre.length]+1)) (by rw [List.length_set]; exact h1) h2 a7 (by omega) (by omega);refine Gv a8 ?_;refine Ja (fun got s88=>s88=s68++got.map fun r=>(⟨y68,⟨(pre.length:Int),hs[pre.length],0⟩⟩:G1)::r) (by simp) (fun got y88 rest3 s88 nx3 e3 a0 a9=>?_) (fun s88 a0=>a5 _ ?_)
    ·have hm:y88∈fT (s.AB.map (·.Tiers)) F (ids.eraseIdx done.length) (hs.set pre.length (hs[pre.length]+1)):=by rw [e3]; simp
     have a1:=Gdd (by omega) hm;refine Ji (S8 ⟨?_,?_⟩) (a9 _ ?_)
     ·rw [Sp,a1,h9]; omega
     ·rw [Sp,a1,h9]; exact Nat.le_trans (by omega:1+(ids.length - 1)<=1001) (by decide)
     ·rw [a0]; simp
    ·rw [a0,h8,Sn,Sp,G51,a6,a2,List.append_assoc]
set_option linter.unusedVariables false

section isort
variable {α:Type}
def RE (c:α->α->Int) (x:α):List α->List α->List α
 | [],mid=>x::mid
 | p::rp,mid=>if c x p < 0 then RE c x rp (p::mid) else (p::rp).reverse++x::mid
def sI (c:α->α->Int):List α->List α->List α
 | d,[]=>d
 | d,x::t=>sI c (RE c x d.reverse []) t
def tD (c:α->α->Int) (l:List α):List α:=sI c [] l

theorem RD (c:α->α->Int) (x:α):∀ (rp mid:List α),(RE c x rp mid).Perm (rp.reverse++x::mid)
 | [],mid=>.refl _
 | p::rp,mid=>by
  unfold RE;split
  ·refine(RD c x rp (p::mid)).trans ?_;rw [List.reverse_cons,List.append_assoc];refine List.Perm.append_left _ ?_;exact List.Perm.swap p x mid
  ·exact .refl _
theorem ZL (c:α->α->Int):∀ (t d:List α),(sI c d t).Perm (d++t)
 | [],d=>by rw [List.append_nil]; exact .refl _
 | x::t,d=>by
  unfold sI;refine(ZL c t _).trans ?_;have h:=RD c x d.reverse [];rw [List.reverse_reverse] at h;refine(h.append_right t).trans ?_;simp
theorem bJ (c:α->α->Int) (l:List α):(tD c l).Perm l:=ZL c l []
theorem G63 {c:α->α->Int} {l:List α} {x:α}:x∈tD c l ↔ x∈l:=(bJ c l).mem_iff
theorem ZK (c:α->α->Int) (l:List α):(tD c l).length=l.length:=(bJ c l).length_eq

structure J23 (c:α->α->Int):Prop where
 asym:∀ x y,c x y < 0->¬ c y x < 0
 ntrans:∀ x y z,¬ c y x < 0->¬ c z y < 0->¬ c z x < 0
abbrev G08 (c:α->α->Int) (x y:α):Prop:=¬ c y x < 0

theorem ZP {c:α->α->Int} (hc:J23 c) (x:α):∀ (rp mid:List α),(rp.reverse++mid).Pairwise (G08 c)->(∀ y∈mid,c x y < 0)->(RE c x rp mid).Pairwise (G08 c)
 | [],mid,h,hm=>by
  unfold RE;exact List.pairwise_cons.2 ⟨fun y hy=>hc.asym _ _ (hm y hy),h⟩
 | p::rp,mid,h,hm=>by
  unfold RE;split
  ·rename_i h0;refine ZP hc x rp (p::mid) ?_ ?_
   ·rw [List.reverse_cons,List.append_assoc] at h; exact h
   ·intro y hy;rcases Sw.1 hy with rfl | hy
    ·exact h0
    ·exact hm y hy
  ·rename_i h0;rw [List.pairwise_append] at h ⊢;refine⟨h.1,List.pairwise_cons.2 ⟨fun y hy=>hc.asym _ _ (hm y hy),h.2.1⟩,fun a ha b hb=>?_⟩;rcases Sw.1 hb with rfl | hb
   ·have h2:G08 c a p:=by
     rw [List.reverse_cons,List.pairwise_append] at h;rw [List.reverse_cons] at ha;rcases St.1 ha with ha | ha
     ·exact h.1.2.2 a ha p (by simp)
     ·have:a=p:=by simpa using ha
      subst this;intro h1;exact hc.asym _ _ h1 h1
    exact hc.ntrans _ _ _ h2 h0
   ·exact h.2.2 a ha b hb
theorem zM {c:α->α->Int} (hc:J23 c):∀ (t d:List α),d.Pairwise (G08 c)->(sI c d t).Pairwise (G08 c)
 | [],_,h=>h
 | x::t,d,h=>by
  unfold sI;exact zM hc t _ (ZP hc x _ _ (by rw [List.reverse_reverse,List.append_nil]; exact h) (fun y hy=>by cases hy))
theorem cG {c:α->α->Int} (hc:J23 c) (l:List α):(tD c l).Pairwise (G08 c):=zM hc l [] .nil
theorem uV {β:Type} {l:List α} {i:Int} {k:α->Option β} {m:Nat} {x:α} (hi:i=(m:Int)) (hx:l[m]? = some x):Jy l i k=k x:=by
 subst hi;unfold Jy;rw [S8 (by omega:(0:Int)<=m),cond_true,show (m:Int).toNat=m by omega,hx];rfl

end isort

end Go.Proofs.YtibhpogonkdiaaaGreat
