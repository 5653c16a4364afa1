/-
 MovesCalls: MovesCalls: MovesCalls:
-/
import Derived.Test.YtkiekighbhnolaaGreatLawT
set_option maxRecDepth 100000
set_option linter.unusedVariables false
namespace Go.Proofs.YtkiekighbhnolaaGreat
open Go.RowKit

section
variable {s:Ge} {bx:AK} {l:AG} {lf:AE} {bay:Int} {deck:Bool}
theorem Qq.slots (h:Qq s bx l):l.Pairwise (fun a b=>jW a b < 0\/jW b a < 0):=h.apart.imp (fun {a b} h=>by
 rw [kR,kR];refine Classical.byContradiction fun hn=>h ⟨by omega,by omega,.inl (by omega)⟩)
theorem Qq.part (h:Qq s bx l) (hl:l.length<=1000):eF s l lf bay deck=some (kV jW (l.filter (R6 s lf bay deck))):=by
 unfold eF;have h1:(l.all (fun x=>(kC s x).isSome))=true:=List.all_eq_true.2 (fun x hx=>by
  obtain⟨b,_,hb,_⟩:=h.each x hx;obtain⟨m,c,e1,e2,_⟩:=hb.col;unfold kC;rw [Ps (by omega),cond_true,show x.Slot.G5.toNat=m by omega,e2];rfl)
 rw [h1,Ps hl,Ps (h.slots.filter (R6 s lf bay deck))];rfl
theorem Qq.apart2 (h:Qq s bx l):∀ a∈l.filter (R6 s lf bay deck),∀ b∈l.filter (R6 s lf bay deck),¬ jW a b < 0->¬ jW b a < 0->a=b:=fun a ha b hb n1 n2=>by
 obtain⟨i,hi,rfl⟩:=List.mem_iff_getElem.1 ha;obtain⟨j,hj,rfl⟩:=List.mem_iff_getElem.1 hb;have hp:=List.pairwise_iff_getElem.1 (h.slots.filter (R6 s lf bay deck));rcases Nat.lt_trichotomy i j with g | g | g
 .exact((hp i j hi hj g).elim n1 n2).elim
 .subst g; rfl
 .exact((hp j i hj hi g).elim n2 n1).elim
end
theorem Ge2 {J:Type} {c c':J->J->Int} {x:J}:∀ (rp mid:List J),(∀ y∈rp,c x y < 0 ↔ c' x y < 0)->RI c x rp mid=RI c' x rp mid
 | [],mid,_=>rfl
 | p::rp,mid,h=>by
  unfold RI;by_cases hp:c x p < 0
  .rw [if_pos hp,if_pos ((h p (List.mem_cons_self ..)).1 hp)];exact Ge2 rp (p::mid) (fun y hy=>h y (List.mem_cons_of_mem _ hy))
  .rw [if_neg hp,if_neg (fun g=>hp ((h p (List.mem_cons_self ..)).2 g))]
theorem G0d {J:Type} {c c':J->J->Int}:∀ (t d:List J),(∀ x∈t,∀ y∈d,c x y < 0 ↔ c' x y < 0)->t.Pairwise (fun y x=>c x y < 0 ↔ c' x y < 0)->pL c d t=pL c' d t
 | [],d,_,_=>rfl
 | x::t,d,h1,h2=>by
  unfold pL;rw [Ge2 (c':=c') d.reverse [] (fun y hy=>h1 x (List.mem_cons_self ..) y (List.mem_reverse.1 hy))];obtain⟨g1,g2⟩:=List.pairwise_cons.1 h2;refine G0d t _ (fun z hz y hy=>?_) g2;have hm:=(QY c' x d.reverse []).mem_iff.1 hy;rw [List.reverse_reverse,Sb,Sd] at hm;rcases hm with hm | rfl
  .exact h1 z (List.mem_cons_of_mem _ hz) y hm
  .exact g1 z hz
theorem Ja9 {J:Type} {c c':J->J->Int} {l:List J} (h:l.Pairwise (fun y x=>c x y < 0 ↔ c' x y < 0)):kV c l=kV c' l:=G0d l [] (fun x _ y hy=>(Py hy).elim) h
def Qf7 (a b:G2):Int:=wY b.Slot.AB a.Slot.AB
theorem Q25 (a b:G2):bM a b=some (Qf7 a b):=by
 simp only [bM,G14,bnd]; rfl
variable {F:Nat}
theorem Hf4 {x:AG} {cmp:G2->G2->Option Int} {c:G2->G2->Int} (hc:∀ a b,cmp a b=some (c a b)) (hF:30<=F) (hl:x.length<=19):Ra F x cmp=some (kV c x):=by
 unfold Ra Yq;obtain⟨F,rfl⟩:∃ m,F=m+1:=⟨F - 1,by omega⟩;rw [loop];generalize loop _ F=k;simp only;rw [Pt (by omega),cond_false];have:=H57 (F:=F+1) hc (data:=x) (b:=(x.length:Int)) rfl (by omega) (by omega);rw [show Qo (F+1) x 0 (x.length:Int) cmp=some (kV c x) from this];simp only [bnd];rw [loop];generalize loop _ F=k2;rw [Pt (by omega),cond_false]
def G12 (a b:G2):Int:=orI [wY b.Slot.AB a.Slot.AB,H79 a.Slot b.Slot]
theorem qH (a b:G2):G12 a b < 0 ↔ b.Slot.AB < a.Slot.AB\/(a.Slot.AB=b.Slot.AB/\(a.Slot.G5 < b.Slot.G5\/(a.Slot.G5=b.Slot.G5/\a.Slot.Half < b.Slot.Half))):=by
 unfold G12;rw [zV,zV,jN,pO,G9f];simp only [orI,Int.lt_irrefl,and_false,or_false];omega
theorem Ge8:Gf7 G12 where
 asym x y:=by rw [qH,qH]; omega
 ntrans x y z:=by rw [qH,qH,qH]; omega
theorem J2b {ys:AG} (hu:∀ a∈ys,∀ b∈ys,¬ jW a b < 0->¬ jW b a < 0->a=b) (hF:30<=F) (hl:ys.length<=19):dS F (kV jW ys)=some (kV G12 ys):=by
 unfold dS;rw [Hf4 Q25 hF (by rw [JN]; exact hl)];show some (kV Qf7 (kV jW ys))=_
 congr 1;rw [Ja9 (c':=G12) ((jX YV ys).imp (fun {y x} h=>by
  have h:¬ jW x y < 0:=h;rw [kR] at h;unfold Qf7;rw [jN,qH];omega))]
 exact G79 Ge8 (fun a ha b hb n1 n2=>hu a ha b hb (by rw [qH] at n1 n2; rw [kR]; omega) (by rw [qH] at n1 n2; rw [kR]; omega)) (jG jW ys)
def mvB (kind:Int) (x:G2):Move:=Move.mk kind x.Box x.Slot 0
def mvC (kind:Int) (k:Int):Move:=Move.mk kind 0 (Slot.mk 0 0 0) k
theorem GF {kind:Int} {l:AG} {p:AH} (h:p.length+l.length<=1000000):dM kind l p=some (p++l.map (mvB kind)):=by
 refine Ys ?_;unfold dM;refine Jw (fun pre st=>st=p++pre.map (mvB kind)) (by simp) (fun pre y post st nx e hI h0=>?_) (fun st hI=>Gg hI);subst hI;have hp:pre.length < l.length:=by rw [e]; simp
 refine Qs (pC (by rw [S6,Sa,S7]; omega) (by omega)) (h0 _ ?_);rw [List.map_append,List.append_assoc]; rfl
theorem G82 {kind:Int} {l:AE} {p:AH} (h:p.length+l.length<=1000000):iA kind l p=some (p++l.map (mvC kind)):=by
 refine Ys ?_;unfold iA;refine Jw (fun pre st=>st=p++pre.map (mvC kind)) (by simp) (fun pre y post st nx e hI h0=>?_) (fun st hI=>Gg hI);subst hI;have hp:pre.length < l.length:=by rw [e]; simp
 refine Qs (pC (by rw [S6,Sa,S7]; omega) (by omega)) (h0 _ ?_);rw [List.map_append,List.append_assoc]; rfl
def cK (kind:Int):G2->G2->Int:=bif decide (kind=2) then G12 else jW
theorem uH (kind:Int):Gf7 (cK kind):=by
 unfold cK;cases decide (kind=2)
 .exact YV
 .exact Ge8
theorem J26 (kind:Int) {a b:G2} (n1:¬ cK kind a b < 0) (n2:¬ cK kind b a < 0):¬ jW a b < 0/\¬ jW b a < 0:=by
 unfold cK at n1 n2;cases hk:decide (kind=2) with
 | false=>rw [hk,cond_false] at n1 n2; exact⟨n1,n2⟩
 | true=>
  rw [hk,cond_true] at n1 n2;rw [qH] at n1 n2;rw [kR,kR];omega
theorem H49 (a b:Slot):Zp a b=some (decide (H79 a b < 0)):=by
 unfold Zp;have h:=G9f a b;by_cases h1:a.G5=b.G5
 .rw [Pt (by omega:¬ a.G5≠b.G5),cond_false];by_cases h2:a.AB=b.AB
  .rw [Pt (by omega:¬ a.AB≠b.AB),cond_false];congr 1; rw [decide_eq_decide,h]; omega
  .rw [Ps (by omega:a.AB≠b.AB),cond_true];congr 1; rw [decide_eq_decide,h]; omega
 .rw [Ps (by omega:a.G5≠b.G5),cond_true];congr 1; rw [decide_eq_decide,h]; omega
theorem J06 (a b:Slot):∃ r,Zt a b=some r/\(r < 0 ↔ H79 a b < 0):=by
 unfold Zt;rw [H49,H49];by_cases h1:H79 a b < 0
 .rw [Ps h1]; exact⟨-1,rfl,by omega⟩
 .rw [Pt h1];by_cases h2:H79 b a < 0
  .rw [Ps h2]; exact⟨1,rfl,by omega⟩
  .rw [Pt h2]; exact⟨0,rfl,by omega⟩
theorem J04 (kind:Int) (a b:G2):Zs a b (decide (kind=2))=some (decide (cK kind a b < 0)):=by
 unfold Zs cK;have he:=qH a b;have hp:=kR a b;have hs:=G9f a.Slot b.Slot;by_cases h1:a.Slot.AB=b.Slot.AB
 .rw [Pt (by omega:¬ a.Slot.AB≠b.Slot.AB),cond_false];obtain⟨r,e,hr⟩:=J06 a.Slot b.Slot;rw [e];show some (decide (r < 0))=_
  congr 1;rw [decide_eq_decide,hr];cases decide (kind=2)
  .rw [cond_false,hp,hs]; omega
  .rw [cond_true,he,hs]; omega
 .rw [Ps (by omega:a.Slot.AB≠b.Slot.AB),cond_true];congr 1;cases decide (kind=2)
  .rw [cond_false,beq_false,Bool.eq_iff_iff,Bool.not_eq_true',decide_eq_false_iff_not,S9,hp]; omega
  .rw [cond_true,beq_true,decide_eq_decide,he]; omega
theorem H4f (l:AE) (n:Int):Yb l n=some (l.any (fun y=>decide (n=y))):=by
 unfold Yb;have key:∀ (l:AE) (i:Nat),each (fun(y17:Int) (_:Nat) (_:Unit) nx17=>bif decide (y17=n) then some true else nx17 ()) (fun(_:Unit)=>some false) l i ()=some (l.any (fun y=>decide (n=y))):=by
  intro l
  induction l with
  | nil=>intro i; rfl
  | cons x r ih=>
   intro i;rw [each,List.any_cons,ih];by_cases h:x=n
   .rw [Ps h,Ps h.symm]; rfl
   .rw [Pt h,Pt (fun e=>h e.symm)]; rfl
 exact key l 0

section
variable {s:Ge} {bx:AK} {l:AG} {lf:AE} {bay:Int} {deck:Bool}
theorem Qef {β:Type} {Q:β->Prop} {y:G2} {used:List Bool} {i:Nat} {u:Bool} {c:G5} {K1 K2:Option β} (hc:kC s y=some c) (hu:used[i]? = some u)
  (h1:¬ (u=false/\R6 s lf bay deck y=true)->Wp K1 Q) (h2:u=false->R6 s lf bay deck y=true->Wp K2 Q) :
  Wp (Jk s.Columns y.Slot.G5 fun y56=>
    Jk used (i:Int) fun y60=>
    bnd (bif (!((y60||(decide (y56.Bay≠bay)))||(!(y56.AO==deck)))) then Yb lf y.Box else some default) fun r61=>
    bif (((y60||(decide (y56.Bay≠bay)))||(!(y56.AO==deck)))||(!r61)) then K1 else K2) Q:=by
 have h3:R6 s lf bay deck y=((decide (c.Bay=bay)&&(c.AO==deck))&&lf.any (fun z=>decide (y.Box=z))):=by unfold R6; rw [hc]
 unfold kC at hc;by_cases h0:0<=y.Slot.G5
 .rw [Ps h0,cond_true] at hc;refine Z2 (m:=y.Slot.G5.toNat) (by omega) hc (Z2 rfl hu ?_);rw [show decide (c.Bay≠bay)=!(decide (c.Bay=bay)) by by_cases h:c.Bay=bay <;> simp [h]];cases hq:((u||!(decide (c.Bay=bay)))||!(c.AO==deck)) with
  | true=>
   refine H6 (H7 (fun h=>by cases h) (fun _=>Gg (H7 (fun _=>h1 (fun⟨a,b⟩=>?_)) (fun h=>by cases h))));rw [h3] at b;simp only [S8] at b;rw [a,b.1.1,b.1.2] at hq; cases hq
  | false=>
   simp only [Sh,Bool.not_eq_false'] at hq;obtain⟨⟨q1,q2⟩,q3⟩:=hq;refine H6 (H7 (fun _=>⟨_,H4f lf y.Box,?_⟩) (fun h=>by cases h));rw [q2,q3] at h3;refine H7 (fun h=>h1 (fun⟨a,b⟩=>?_)) (fun h=>h2 q1 ?_)
   .rw [h3] at b;simp only [Bool.and_self,Bool.true_and] at b;rw [b] at h; cases h
   .rw [h3];simpa using h
 .rw [Pt h0,cond_false] at hc; cases hc
theorem Qq.col (h:Qq s bx l) {x:G2} (hx:x∈l):∃ c,kC s x=some c:=by
 obtain⟨b,_,hb,_⟩:=h.each x hx;obtain⟨m,c,e1,e2,_⟩:=hb.col;refine⟨c,?_⟩;unfold kC;rw [Ps (by omega),cond_true,show x.Slot.G5.toNat=m by omega,e2]
theorem Qq.at (h:Qq s bx l) {i j:Nat} {x:G2} (hi:l[i]? = some x) (hj:l[j]? = some x):i=j:=by
 obtain⟨a1,a2⟩:=Pu hi;obtain⟨b1,b2⟩:=Pu hj;have hp:=List.pairwise_iff_getElem.1 h.sorted;rcases Nat.lt_trichotomy i j with g | g | g
 .have:=hp i j a1 b1 g; rw [a2,b2] at this; omega
 .exact g
 .have:=hp j i b1 a1 g; rw [a2,b2] at this; omega
structure J32 (s:Ge) (lf:AE) (bay:Int) (deck:Bool) (kind:Int) (l done:AG) (used:List Bool):Prop where
 len:used.length=l.length
 sorted:done.Pairwise (fun a b=>cK kind a b < 0)
 sub:∀ x∈done,x∈l/\R6 s lf bay deck x=true
 mark:∀ (i:Nat) x,l[i]? = some x->R6 s lf bay deck x=true->(used[i]? = some true ↔ x∈done)
 rest:∀ x∈l,R6 s lf bay deck x=true->x ∉ done->∀ d∈done,cK kind d x < 0
theorem J32.dlen {kind:Int} {done:AG} {used:List Bool} (h:J32 s lf bay deck kind l done used):done.length<=l.length:=by
 have hn:done.Nodup:=by
  rw [List.nodup_iff_pairwise_ne];exact h.sorted.imp (fun h e=>by subst e; exact(uH kind).asym _ _ h h)
 exact hn.length_le_of_subset (fun x hx=>(h.sub x hx).1)
theorem QR {F:Nat} {kind:Int} (h:Qq s bx l) (hl:l.length<=14) (hF:30<=F):Q5 F s l lf bay deck kind=some ((kV (cK kind) (l.filter (R6 s lf bay deck))).map (mvB kind)):=by
 refine Ys ?_;unfold Q5;refine Gt (Ja2 (n:=l.length) rfl) (Qs (Ps ⟨by omega,by unfold maxLen; omega,by omega⟩) ?_);refine wp_loop (fun st:AH×List Bool=>∃ done,st.1=done.map (mvB kind)/\J32 s lf bay deck kind l done st.2) (fun st=>l.length - st.1.length)
  ⟨[],rfl,⟨by simp,List.Pairwise.nil,fun x hx=>(Py hx).elim,fun i x hi _=>⟨fun h=>(by
   rw [List.getElem?_replicate] at h;split at h
   .cases h
   .cases h),fun h=>(Py h).elim⟩,fun x _ _ _ d hd=>(Py hd).elim⟩⟩ (by simp only [List.length_nil]; omega) (fun st nx hI h9=>?_)
 obtain⟨out,used⟩:=st;obtain⟨done,ho,hI⟩:=hI;simp only at ho hI h9 ⊢;subst ho;have b3:=hI.dlen
 -- bx that may come next
 let cand:G2->Prop:=fun x=>R6 s lf bay deck x=true/\x ∉ done
 refine Jw (fun pre (b:Int)=>(b = -1/\∀ x∈pre,¬ cand x)\/(∃ (m:Nat) (x:G2),b=(m:Int)/\l[m]? = some x/\cand x/\∀ y∈pre,cand y->¬ cK kind y x < 0)) (.inl ⟨rfl,fun x hx=>(Py hx).elim⟩) (fun pre y post b nx2 e hJ a5=>?_) (fun b hJ=>?_)
 .have hy:l[pre.length]? = some y:=by rw [e]; simp
  have a9:pre.length < l.length:=by rw [e]; simp
  obtain⟨c,hc⟩:=h.col (Px hy);obtain⟨u,hu⟩:∃ u,used[pre.length]? = some u:=⟨_,Pv (by rw [hI.len]; exact a9)⟩;have h0:(u=false/\R6 s lf bay deck y=true) ↔ cand y:=by
   constructor
   .intro ⟨a,b⟩;refine⟨b,fun hd=>?_⟩;have:=(hI.mark pre.length y hy b).2 hd;rw [hu,a] at this; cases this
   .intro ⟨a,b⟩;refine⟨?_,a⟩;cases u with
    | false=>rfl
    | true=>exact(b ((hI.mark pre.length y hy a).1 hu)).elim
  refine gR (fun b:Int=>(b = -1/\∀ x∈pre++[y],¬ cand x)\/(∃ (m:Nat) (x:G2),b=(m:Int)/\l[m]? = some x/\cand x/\∀ z∈pre++[y],cand z->¬ cK kind z x < 0)) (fun K hK=>?_) (fun j hj=>a5 _ hj);refine Qef hc hu (fun hn=>hK _ ?_) (fun a1 a2=>?_)
  .have hn:¬ cand y:=fun hh=>hn (h0.2 hh);rcases hJ with ⟨j1,j2⟩ | ⟨m,x,j1,j2,j3,j4⟩
   .exact .inl ⟨j1,Q2 (P:=fun x:G2=>¬ cand x) j2 hn⟩
   .exact .inr ⟨m,x,j1,j2,j3,Q2 (P:=fun z:G2=>cand z->¬ cK kind z x < 0) j4 (fun hh=>(hn hh).elim)⟩
  .have a0:=h0.1 ⟨a1,a2⟩;have h3:¬ cK kind y y < 0:=fun hh=>(uH kind).asym _ _ hh hh;rcases hJ with ⟨j1,j2⟩ | ⟨m,x,j1,j2,j3,j4⟩
   .subst j1;rw [Ps (by omega:(-1:Int) < 0)];refine H6 (H7 (fun h=>by cases h) (fun _=>Gg (H6 (H7 (fun h=>by cases h) (fun _=>Gg (H7 (fun _=>hK _ (.inr ⟨pre.length,y,rfl,hy,a0,Q2 (P:=fun z:G2=>cand z->¬ cK kind z y < 0) (fun z hz h4=>(j2 z hz h4).elim) (fun _=>h3)⟩)) (fun h=>by cases h)))))))
   .subst j1;rw [Pt (by omega:¬ (m:Int) < 0)];refine H6 (H7 (fun _=>Z2 rfl j2 (Gg (H6 (H7 (fun _=>⟨_,J04 kind y x,?_⟩) (fun h=>by cases h))))) (fun h=>by cases h));show Wp (bif (false||decide (cK kind y x < 0)) then K (pre.length:Int) else K (m:Int)) _
    rw [Bool.false_or];refine H7 (fun h5=>hK _ (.inr ⟨pre.length,y,rfl,hy,a0,Q2 (P:=fun z:G2=>cand z->¬ cK kind z y < 0) (fun z hz h4 b0=>?_) (fun _=>h3)⟩)) (fun b1=>hK _ (.inr ⟨m,x,rfl,j2,j3,Q2 (P:=fun z:G2=>cand z->¬ cK kind z x < 0) j4 (fun _=>Pr b1)⟩))
    -- z bf y bf x
    have h5:=Pq h5;exact(uH kind).ntrans y x z ((uH kind).asym _ _ h5) (j4 z hz h4) b0
 .rcases hJ with ⟨j1,j2⟩ | ⟨m,x,j1,j2,j3,j4⟩
  .subst j1;rw [Ps (by omega:(-1:Int) < 0),cond_true];refine Gg ?_;congr 1;have h6:∀ x,x∈done ↔ x∈l.filter (R6 s lf bay deck):=fun x=>by
    rw [Sf];refine⟨fun hx=>hI.sub x hx,fun⟨hx,hp⟩=>Classical.byContradiction fun hn=>j2 x hx ⟨hp,hn⟩⟩
   have a6:=jX (uH kind) (l.filter (R6 s lf bay deck));have b2:done.Nodup:=by
    rw [List.nodup_iff_pairwise_ne];exact hI.sorted.imp (fun h e=>by subst e; exact(uH kind).asym _ _ h h)
   have a7:(kV (cK kind) (l.filter (R6 s lf bay deck))).Nodup:=by
    refine((jG (cK kind) _).nodup_iff).2 ?_;rw [List.nodup_iff_pairwise_ne];exact(h.sorted.filter _).imp (fun h e=>by rw [e] at h; omega)
   refine List.Perm.eq_of_pairwise (le:=H27 (cK kind)) (fun a b ha hb h1 h2=>?_) (hI.sorted.imp (fun h=>(uH kind).asym _ _ h)) a6 ((List.perm_ext_iff_of_nodup b2 a7).2 (fun x=>(h6 x).trans (jY (c:=cK kind)).symm));have:=J26 kind h2 h1;exact h.apart2 a ((h6 a).1 ha) b (jY.1 hb) this.1 this.2
  .subst j1;rw [Pt (by omega:¬ (m:Int) < 0),cond_false];have a3:m < l.length:=(Pu j2).1;obtain⟨u,hu⟩:∃ u,used[m]? = some u:=⟨_,Pv (by rw [hI.len]; exact a3)⟩;refine Z2 rfl hu (Z2 rfl j2 (Z2 rfl j2 ?_));have h7:x∈l:=Px j2;have a4:J32 s lf bay deck kind l (done++[x]) (used.set m true):=by
    refine⟨by rw [List.length_set]; exact hI.len,oN hI.sorted (fun d hd=>hI.rest x h7 j3.1 j3.2 d hd),Q2 hI.sub ⟨h7,j3.1⟩,fun i z hi hp=>?_,fun z hz hp hn d hd=>?_⟩
    .rw [List.getElem?_set,Sb,Sd];by_cases h8:m=i
     .subst h8;rw [j2] at hi; cases hi;rw [if_pos rfl,if_pos (by rw [hI.len]; exact a3)];exact⟨fun _=>.inr rfl,fun _=>rfl⟩
     .rw [if_neg h8,hI.mark i z hi hp];exact⟨.inl,fun hh=>hh.elim (fun g=>g) (fun g=>by subst g; exact(h8 (h.at j2 hi)).elim)⟩
    .rw [Sb,Sd,not_or] at hn;rcases Sb.1 hd with hd | hd
     .exact hI.rest z hz hp hn.1 d hd
     .rw [Sd] at hd;subst hd;refine Classical.byContradiction fun g=>hn.2 ?_;have:=J26 kind (j4 z hz ⟨hp,hn.1⟩) g;exact h.apart2 z (Sf.2 ⟨hz,hp⟩) d (Sf.2 ⟨h7,j3.1⟩) this.1 this.2
   have a8:=a4.dlen;rw [S6,S7] at a8;refine Qs (pC (by rw [Sa,S7]; omega) (by omega)) (h9 _ ⟨done++[x],by rw [List.map_append]; rfl,?_⟩ ?_)
   .show J32 s lf bay deck kind l (done++[x]) (used.set (m:Int).toNat true)
    rw [show (m:Int).toNat=m by omega]; exact a4
   .simp only [S6,Sa,S7]; omega
end

theorem Q60 (n:Nat) (h:n<=12):∃ r,iQ (IntKind.u64.wrap (n:Int))=some r:=by
 have h0:(List.range 13).all (fun n=>(iQ (IntKind.u64.wrap (n:Int))).isSome)=true:=by kernel_rfl
 have:=List.all_eq_true.1 h0 n (List.mem_range.2 (by omega));exact Ph this

theorem Q3c {x:AE} {cmp:Int->Int->Option Int} {c:Int->Int->Int} (hc:∀ a b,cmp a b=some (c a b)) (hF:20<=F) (hl:x.length<=12):cL F x cmp=some (kV c x):=by
 unfold cL;obtain⟨F,rfl⟩:∃ m,F=m+1:=⟨F - 1,by omega⟩;obtain⟨r,hr⟩:=Q60 _ hl;rw [hr];simp only [bnd];unfold aS;rw [loop];generalize loop _ F=k;simp only;rw [uF (by omega),Ps (by omega),cond_true];have:=H57 (F:=F+1) hc (data:=x) (b:=(x.length:Int)) rfl (by omega) (by omega);rw [show Yk (F+1) x 0 (x.length:Int) cmp=some (kV c x) from this];rfl
theorem Jb3:Gf7 wY where
 asym x y:=by rw [jN,jN]; omega
 ntrans x y z:=by rw [jN,jN,jN]; omega
section
variable {s:Ge} {bx:AK} {l bf af:AG} {lf:AE} {bay:Int}
def yH (s:Ge) (lf:AE) (bay:Int) (sts:List AG) (k:Int):Prop:=∃ st∈sts,∃ x∈st,R6 s lf bay false x=true/\∃ c,kC s x=some c/\Y4 s c=k/\0<=k
variable {c:G5}
theorem J24 {x:G2} (h:kC s x=some c):∃ m:Nat,x.Slot.G5=(m:Int)/\s.Columns[m]? = some c:=by
 unfold kC at h;by_cases h0:0<=x.Slot.G5
 .rw [Ps h0,cond_true] at h;exact⟨x.Slot.G5.toNat,by omega,h⟩
 .rw [Pt h0,cond_false] at h; cases h
theorem GD {k:Int} (h:Y4 s c=k) (h0:0<=k):∃ (m:Nat) (x:Gv),k=(m:Int)/\s.Covers[m]? = some x/\x.Bay=c.Bay:=by
 unfold Y4 at h;rcases pM (fun x=>G13 x c) s.Covers with ⟨e,_⟩ | ⟨m,x,e1,e2,e3,_⟩
 .omega
 .refine⟨m,x,by omega,e2,?_⟩;unfold G13 at e3;simp only [S8,S9] at e3;exact e3.1
theorem H58 {x:G2} {deck:Bool} (h:kC s x=some c):R6 s lf bay deck x=true ↔ c.Bay=bay/\c.AO=deck/\lf.any (fun y=>decide (x.Box=y))=true:=by
 unfold R6;rw [h];simp only [S8,S9,beq_iff_eq,and_assoc]
theorem J0b {F:Nat} (h1:Qq s bx bf) (h2:Qq s bx af) (l1:bf.length<=14) (l2:af.length<=14) (hr:∀ x∈s.Covers,x.Rows.length<=1000000) (a5:s.Covers.length<=12) (hF:30<=F) :
  Wp (fB F s bf af lf bay) (fun r=>r.Pairwise (· < ·)/\r.length<=12/\∀ k,k∈r ↔ yH s lf bay [bf,af] k):=by
 unfold fB;have h5:∀ {out:AE},out.Nodup->(∀ k∈out,0<=k/\k < (s.Covers.length:Int))->out.length<=12:=fun {out} hn hb=>by
  have:=hn.length_le_of_subset (l₂:=(List.range s.Covers.length).map (fun i:Nat=>(i:Int))) (fun k hk=>by
   have:=hb k hk;exact Sc.2 ⟨k.toNat,List.mem_range.2 (by omega),by omega⟩)
  rw [Sa,List.length_range] at this;omega
 refine Jw (fun pre out=>out.Nodup/\(∀ k∈out,0<=k/\k < (s.Covers.length:Int))/\∀ k,k∈out ↔ yH s lf bay pre k) ⟨List.nodup_nil,fun k hk=>(Py hk).elim,fun k=>⟨fun hk=>(Py hk).elim,fun⟨st,h3,_⟩=>(Py h3).elim⟩⟩ (fun pre y post out nx e hI a0=>?_) (fun out hI=>?_)
 .obtain⟨i1,i2,i3⟩:=hI;have hy:Qq s bx y/\y.length<=14:=by
   have:y∈[bf,af]:=by rw [e]; simp
   simp only [Se,Py,or_false] at this;rcases this with rfl | rfl
   .exact⟨h1,l1⟩
   .exact⟨h2,l2⟩
  refine Gt (hy.1.part (by omega)) ?_;refine Jw (fun pre2 out2=>out2.Nodup/\(∀ k∈out2,0<=k/\k < (s.Covers.length:Int))/\∀ k,k∈out2 ↔ (yH s lf bay pre k\/∃ x∈pre2,∃ c,kC s x=some c/\Y4 s c=k/\0<=k))
   ⟨i1,i2,fun k=>(i3 k).trans ⟨.inl,fun h=>h.elim (fun g=>g) (fun⟨x,hx,_⟩=>(Py hx).elim)⟩⟩ (fun pre2 x post2 out2 nx2 e2 hJ h9=>?_) (fun out2 hJ=>a0 _ ⟨hJ.1,hJ.2.1,fun k=>(hJ.2.2 k).trans ?_⟩)
  .obtain⟨j1,j2,j3⟩:=hJ;have a1:x∈y.filter (R6 s lf bay false):=jY.1 (by rw [e2]; simp);obtain⟨h6,h8⟩:=Sf.1 a1;obtain⟨c,hc⟩:=hy.1.col h6;obtain⟨m,hm,a2⟩:=J24 hc;refine gR (fun out3=>out3.Nodup/\(∀ k∈out3,0<=k/\k < (s.Covers.length:Int))/\∀ k,k∈out3 ↔ (yH s lf bay pre k\/∃ z∈pre2++[x],∃ c,kC s z=some c/\Y4 s c=k/\0<=k)) (fun K hK=>?_) (fun j hj=>h9 _ hj);have hold:∀ k,(yH s lf bay pre k\/∃ z∈pre2++[x],∃ c,kC s z=some c/\Y4 s c=k/\0<=k) ↔ (k∈out2\/(Y4 s c=k/\0<=k)):=fun k=>by
    rw [j3 k];constructor
    .rintro(g | ⟨z,hz,c',g1,g2⟩)
     .exact .inl (.inl g)
     .rcases Sb.1 hz with hz | hz
      .exact .inl (.inr ⟨z,hz,c',g1,g2⟩)
      .rw [Sd] at hz;subst hz;rw [hc] at g1; cases g1;exact .inr g2
    .rintro((g | ⟨z,hz,g⟩) | g)
     .exact .inl g
     .exact .inr ⟨z,Sb.2 (.inl hz),g⟩
     .exact .inr ⟨x,by simp,c,hc,g⟩
   rw [hm];refine Gt (ZT a2 hr (by omega)) ?_;by_cases h0:0<=Y4 s c
   .rw [Ps h0];refine H6 (H7 (fun _=>⟨_,H5f out2 (Y4 s c),?_⟩) (fun h=>by cases h));have h7:(out2.any (fun z=>decide (Y4 s c=z)))=true ↔ Y4 s c∈out2:=by
     rw [List.any_eq_true];exact⟨fun⟨z,hz,g⟩=>(Pq g) ▸ hz,fun g=>⟨_,g,Ps rfl⟩⟩
    refine H7 (fun h=>?_) (fun h=>?_)
    .have hn:Y4 s c ∉ out2:=fun g=>by
      rw [h7.2 g] at h; cases h
     have h4:=h5 j1 j2;obtain⟨q,xq,hq,a3,_⟩:=GD rfl h0;have a6:=(Pu a3).1;refine Qs (pC (by rw [S7]; omega) (by omega)) (hK _ ⟨Gdb j1 hn,Q2 j2 ⟨h0,by omega⟩,fun k=>?_⟩);rw [hold k,Sb,Sd];exact⟨fun g=>g.imp (fun g=>g) (fun g=>⟨g.symm,by omega⟩),fun g=>g.imp (fun g=>g) (fun g=>g.1.symm)⟩
    .have a4:Y4 s c∈out2:=h7.1 (by simpa using h);refine hK _ ⟨j1,j2,fun k=>?_⟩;rw [hold k];exact⟨.inl,fun g=>g.elim (fun g=>g) (fun g=>g.1 ▸ a4)⟩
   .rw [Pt h0];refine H6 (H7 (fun h=>by cases h) (fun _=>Gg (H7 (fun h=>by cases h) (fun _=>hK _ ⟨j1,j2,fun k=>?_⟩))));rw [hold k];exact⟨.inl,fun g=>g.elim (fun g=>g) (fun g=>by omega)⟩
  .constructor
   .rintro(⟨st,h3,g⟩ | ⟨x,hx,c,g⟩)
    .exact⟨st,Sb.2 (.inl h3),g⟩
    .obtain⟨h6,h8⟩:=Sf.1 (jY.1 hx);exact⟨y,by simp,x,h6,h8,c,g⟩
   .rintro⟨st,h3,x,hx,hp,c,g⟩;rcases Sb.1 h3 with h3 | h3
    .exact .inl ⟨st,h3,x,hx,hp,c,g⟩
    .rw [Sd] at h3;subst h3;exact .inr ⟨x,jY.2 (Sf.2 ⟨hx,hp⟩),c,g⟩
 .obtain⟨i1,i2,i3⟩:=hI;have h4:=h5 i1 i2;have hs:fA F out (fun z0 z1=>Qv z0 z1)=some (kV wY out):=by
   unfold fA;rw [Q3c G14 (by omega) h4]; rfl
  refine Gt hs (Gg ⟨?_,by rw [JN]; exact h4,fun k=>jY.trans (i3 k)⟩);have hn:(kV wY out).Nodup:=(jG wY out).nodup_iff.2 i1;exact(List.pairwise_and_iff.2 ⟨jX Jb3 out,hn⟩).imp (fun {a b} h=>by
   have h1:¬ wY b a < 0:=h.1;have h2:a≠b:=h.2;rw [jN] at h1;omega)
theorem J01 (h:Qq s bx l) (k:Int):∃ r,Zn s l lf k=some r/\(r=true ↔ ∃ x∈l,lf.any (fun y=>decide (x.Box=y))=true/\∃ c,kC s x=some c/\c.AO=false/\Y4 s c=k):=by
 unfold Zn;refine Jw (fun pre _=>∀ x∈pre,¬ (lf.any (fun y=>decide (x.Box=y))=true/\∃ c,kC s x=some c/\c.AO=false/\Y4 s c=k)) (fun x hx=>(Py hx).elim) (fun pre y post u nx e hI h3=>?_) (fun u hI=>Gg (Rb fun⟨x,hx,g⟩=>hI x hx g));have h1:y∈l:=by rw [e]; simp
 obtain⟨c,hc⟩:=h.col h1;obtain⟨m,hm,h2⟩:=J24 hc;have h0:¬ (lf.any (fun z=>decide (y.Box=z))=true/\∃ c,kC s y=some c/\c.AO=false/\Y4 s c=k)->Wp (nx ()) _:=fun hn=>h3 _ (Q2 (P:=fun x:G2=>¬ (lf.any (fun z=>decide (x.Box=z))=true/\∃ c,kC s x=some c/\c.AO=false/\Y4 s c=k)) hI hn);refine Gt (H4f lf y.Box) ?_;rw [hm];cases ha:lf.any (fun z=>decide (y.Box=z)) with
 | false=>
  refine H6 (H7 (fun h=>by cases h) (fun _=>Gg (H6 (H7 (fun h=>by cases h) (fun _=>Gg (H7 (fun h=>by cases h) (fun _=>h0 (fun hh=>by rw [ha] at hh; cases hh.1))))))))
 | true=>
  refine H6 (H7 (fun _=>Z2 rfl h2 (Gg ?_)) (fun h=>by cases h));cases hd:c.AO with
  | true=>
   refine H6 (H7 (fun h=>by cases h) (fun _=>Gg (H7 (fun h=>by cases h) (fun _=>h0 (fun⟨_,c',g1,g2,_⟩=>by rw [hc] at g1; cases g1; rw [hd] at g2; cases g2)))))
  | false=>
   refine H6 (H7 (fun _=>⟨_,G30 h2,?_⟩) (fun h=>by cases h));refine H7 (fun h=>Gg ⟨fun _=>⟨y,h1,ha,c,hc,hd,Pq h⟩,fun _=>rfl⟩) (fun h=>h0 (fun⟨_,c',g1,_,g3⟩=>by rw [hc] at g1; cases g1; exact Pr h g3))
theorem J9b {kind:Int} (h1:Qq s bx bf) (h2:Qq s bx af) (a0:s.Covers.length<=12) :
  Wp (Qt s bf af lf bay kind) (fun r=>∃ ks:AE,r=ks.map (mvC kind)/\ks.Pairwise (· < ·)/\∀ k,k∈ks ↔ yH s lf bay [bf,af] k):=by
 unfold Qt;refine Jw (fun pre (out:AH)=>∃ ks:AE,out=ks.map (mvC kind)/\ks.Pairwise (· < ·)/\ks.length<=pre.length/\∀ k,k∈ks ↔ (yH s lf bay [bf,af] k/\k < (pre.length:Int))) ⟨[],rfl,List.Pairwise.nil,Pz,fun k=>⟨fun hk=>(Py hk).elim,fun⟨⟨_,_,_,_,_,_,_,_,g⟩,g2⟩=>by simp at g2; omega⟩⟩ (fun pre y post out nx e hI h8=>?_) (fun out hI=>?_)
 .obtain⟨ks,rfl,i1,i2,i3⟩:=hI;have hy:s.Covers[pre.length]? = some y:=by rw [e]; simp
  have a1:pre.length < s.Covers.length:=by rw [e]; simp
  obtain⟨r1,e1,g1⟩:=J01 (lf:=lf) h1 (pre.length:Int);obtain⟨r2,e2,g2⟩:=J01 (lf:=lf) h2 (pre.length:Int);refine gR (fun out:AH=>∃ ks:AE,out=ks.map (mvC kind)/\ks.Pairwise (· < ·)/\ks.length<=(pre++[y]).length/\∀ k,k∈ks ↔ (yH s lf bay [bf,af] k/\k < ((pre++[y]).length:Int))) (fun K hK=>?_) (fun j hj=>h8 _ hj);rw [S6,S7] at hK
  -- what it is to be used
  have h4:yH s lf bay [bf,af] (pre.length:Int) ↔ (y.Bay=bay/\(r1=true\/r2=true)):=by
   constructor
   .rintro⟨st,h5,x,hx,hp,c,hc,hk,h0⟩;obtain⟨m,xc,em,h3,hb⟩:=GD hk h0;have:m=pre.length:=by omega
    subst this;rw [hy] at h3; cases h3;obtain⟨p1,p2,p3⟩:=(H58 hc).1 hp;refine⟨hb.trans p1,?_⟩;simp only [Se,Py,or_false] at h5;rcases h5 with rfl | rfl
    .exact .inl (g1.2 ⟨x,hx,p3,c,hc,p2,hk⟩)
    .exact .inr (g2.2 ⟨x,hx,p3,c,hc,p2,hk⟩)
   .rintro⟨hb,hr⟩;have go:∀ st∈[bf,af],(∃ x∈st,lf.any (fun y=>decide (x.Box=y))=true/\∃ c,kC s x=some c/\c.AO=false/\Y4 s c=(pre.length:Int))->yH s lf bay [bf,af] (pre.length:Int):=fun st h5 ⟨x,hx,p3,c,hc,p2,hk⟩=>by
     obtain⟨m,xc,em,h3,h9⟩:=GD hk (by omega);have:m=pre.length:=by omega
     subst this;rw [hy] at h3; cases h3;exact⟨st,h5,x,hx,(H58 hc).2 ⟨h9.symm.trans hb,p2,p3⟩,c,hc,hk,by omega⟩
    exact hr.elim (fun g=>go bf (by simp) (g1.1 g)) (fun g=>go af (by simp) (g2.1 g))
  have h6:yH s lf bay [bf,af] (pre.length:Int)->Wp (need (decide (((ks.map (mvC kind)).length+[(Move.mk kind 0 (Slot.mk 0 0 0) (pre.length:Int))].length)*48<=140737488355328/\(ks.map (mvC kind)).length+[(Move.mk kind 0 (Slot.mk 0 0 0) (pre.length:Int))].length<=maxLen)) <| K (ks.map (mvC kind)++[(Move.mk kind 0 (Slot.mk 0 0 0) (pre.length:Int))])) _:=fun hu=>
   Qs (pC (by rw [Sa,S7]; omega) (by omega)) (hK _ ⟨ks++[(pre.length:Int)],by rw [List.map_append]; rfl,oN i1 (fun a ha=>((i3 a).1 ha).2),by rw [S6,S7]; omega,fun k=>by
    rw [Sb,Sd,i3 k];constructor
    .rintro(⟨g,g2⟩ | rfl)
     .exact⟨g,by omega⟩
     .exact⟨hu,by omega⟩
    .rintro⟨g,g2⟩;by_cases hk:k=(pre.length:Int)
     .exact .inr hk
     .exact .inl ⟨g,by omega⟩⟩)
  have h7:¬ yH s lf bay [bf,af] (pre.length:Int)->Wp (K (ks.map (mvC kind))) _:=fun hu=>
   hK _ ⟨ks,rfl,i1,by omega,fun k=>(i3 k).trans ⟨fun⟨g,g2⟩=>⟨g,by omega⟩,fun⟨g,g2⟩=>⟨g,by
    by_cases hk:k=(pre.length:Int)
    .exact(hu (hk ▸ g)).elim
    .omega⟩⟩⟩
  by_cases hb:y.Bay=bay
  .rw [Ps hb];refine H6 (H7 (fun _=>⟨r1,e1,?_⟩) (fun h=>by cases h));cases r1 with
   | true=>
    exact H6 (H7 (fun h=>by cases h) (fun _=>Gg (H7 (fun _=>h6 (h4.2 ⟨hb,.inl rfl⟩)) (fun h=>by cases h))))
   | false=>
    refine H6 (H7 (fun _=>⟨r2,e2,?_⟩) (fun h=>by cases h));exact H7 (fun h=>h6 (h4.2 ⟨hb,.inr h⟩)) (fun h=>h7 (fun g=>(h4.1 g).2.elim (fun g=>by cases g) (fun g=>by
     have h:r2=false:=h;rw [h] at g; cases g)))
  .rw [Pt hb];exact H6 (H7 (fun h=>by cases h) (fun _=>Gg (H6 (H7 (fun h=>by cases h) (fun _=>Gg (H7 (fun h=>by cases h) (fun _=>h7 (fun g=>hb (h4.1 g).1))))))))
 .obtain⟨ks,e,i1,_,i3⟩:=hI;refine Gg ⟨ks,e,i1,fun k=>(i3 k).trans ⟨fun g=>g.1,fun g=>⟨g,?_⟩⟩⟩;obtain⟨_,_,_,_,_,c,_,hk,h0⟩:=g;obtain⟨m,xc,em,h3,_⟩:=GD hk h0;have:=(Pu h3).1;omega
end
end Go.Proofs.YtkiekighbhnolaaGreat
