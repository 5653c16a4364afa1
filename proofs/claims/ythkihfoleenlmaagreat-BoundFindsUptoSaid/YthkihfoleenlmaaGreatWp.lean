/-
 What bound.Check returns. What the counts of bound.Groups are. What a model returns,
-/
import Derived.Test.YthkihfoleenlmaaGreatXB
import Derived.Test.YthkihfoleenlmaaGreatSpecG
import Derived.Test.YthkihfoleenlmaaGreatIter
set_option maxRecDepth 100000
namespace Go.Proofs.YthkihfoleenlmaaGreat
open Go.RowKit

theorem zA (F:Nat) (s:H2) (bx:List Box) (families:List (List G5)) (r:Int×Int):Rel r (gQ F s bx families (fun r_=>r_=r)) (qK F s bx families):=by
 unfold gQ qK
 refine gU (fun v=>gV (fun _=>qO) (fun _=>gU (fun v=>?_)))
 refine qP (fun x i s nx nx' h0=>?_) (fun s=>?_)
 ·refine gU (fun v=>gV (fun _=>qO) (fun _=>gU (fun v=>uV (fun v=>?_))))
  refine qP (fun x i s nx nx' h0=>?_) (fun s=>h0 _)
  exact gU (fun v=>uV (fun v=>h0 _))
 ·exact H53 (c:=fun x:G5×Int=>decide (1 < x.2)) (e:=(0,271)) (e':=(s.1,0))
abbrev vW:=qK
def QF:=PLift.up (QI vW (fun F s b f r h=>zA F s b f r h))
open Go.RowKit Go.Shelf Go.Sort

theorem Gac {κ ν:Type} [DecidableEq κ] (f:κ×ν→Int) (a:κ) (v:ν):∀ {l:List (κ×ν)},(l.map (·.1)).Nodup→((iE l a v).map f).sum=(l.map f).sum+f (a,v) - (match dG l a with | some w=>f (a,w) | none=>0)
 | l,hn=>by
  unfold iE
  by_cases h:fS l a=true
  ·rw [if_pos h]
   have key:∀ l:List (κ×ν),(l.map (·.1)).Nodup→fS l a=true→((l.map fun p=>if p.1=a then (a,v) else p).map f).sum=(l.map f).sum+f (a,v) - (match dG l a with | some w=>f (a,w) | none=>0):=by
    intro l
    induction l with
    | nil=>intro _ h; simp [fS] at h
    | cons p r ih=>
     intro hn h
     rw [List.map_cons,List.nodup_cons] at hn
     rw [fT]
     by_cases e:p.1=a
     ·have hr:∀ q∈r,¬ q.1=a:=fun q hq e'=>hn.1 (Pb.2 ⟨q,hq,by rw [e',e]⟩)
      have hm:(r.map fun p=>if p.1=a then (a,v) else p)=r:=by
       conv=>rhs; rw [← List.map_id r]
       exact List.map_congr_left (fun q hq=>by rw [if_neg (hr q hq)]; rfl)
      have ep:p=(a,p.2):=by rw [← e]
      simp only [List.map_cons,List.sum_cons,if_pos e,hm]
      rw [← ep]; omega
     ·have h':fS r a=true:=by
       simp only [fS,List.any_cons,P8,Pf,e,false_or] at h ⊢
       simpa using h
      have:=ih hn.2 h'
      simp only [List.map_cons,List.sum_cons,if_neg e]
      simp only [List.map_map] at this ⊢
      omega
   exact key l hn h
  ·rw [if_neg h,sG (by simpa using h)]
   simp

def hit (g:G5) (z:Int) (x:Box):Bool:=decide (x.Load=g.Load)&&decide (x.Discharge=g.Discharge)&&decide (x.Size=z)
def Zm (z:Int) (g:G5) (pre:List Box):Int:=(pre.countP (hit g z):Nat)
def G61 (z:Int) (pre:List Box):Int:=(pre.countP (fun x=>decide (x.Size=z)):Nat)
theorem nB (z:Int) (g:G5) (pre:List Box) (x:Box):Zm z g (pre++[x])=Zm z g pre+(if hit g z x then 1 else 0):=by
 unfold Zm; rw [List.countP_append]; by_cases h:hit g z x <;> simp [h]
theorem vH (z:Int) (pre:List Box) (x:Box):G61 z (pre++[x])=G61 z pre+(if decide (x.Size=z) then 1 else 0):=by
 unfold G61; rw [List.countP_append]; by_cases h:x.Size=z <;> simp [h]
theorem fV (z:Int) (g:G5) (pre:List Box):0≤Zm z g pre∧Zm z g pre≤(pre.length:Int):=by
 unfold Zm; have:=List.countP_le_length (p:=hit g z) (l:=pre); omega

structure rA (pre:List Box) (s:Hj G5 G1):Prop where
 get:∀ g,dG (Hj.l s) g=if Zm 40 g pre+Zm 20 g pre=0 then none else some ⟨g,Zm 40 g pre,Zm 20 g pre⟩
 whole:((Hj.l s).map (fun e=>e.2.Whole)).sum=G61 40 pre
 half:((Hj.l s).map (fun e=>e.2.Half)).sum=G61 20 pre
 len:(Hj.l s).length≤pre.length
theorem rA.start:rA [] Hj.empty:=⟨fun g=>by simp [Zm,Hj.empty,dG],by simp [Hj.empty,G61],by simp [Hj.empty,G61],by simp [Hj.empty]⟩
theorem Gc5 {κ ν:Type} [DecidableEq κ] (l:List (κ×ν)) (a:κ) (v:ν):(iE l a v).length≤l.length+1:=by
 unfold iE; split <;> simp
theorem rA.old {pre:List Box} {s:Hj G5 G1} (h:rA pre s) (g:G5):Hj.get s g (G1.mk (G5.mk 0 0) 0 0)=(if Zm 40 g pre+Zm 20 g pre=0 then G1.mk (G5.mk 0 0) 0 0 else ⟨g,Zm 40 g pre,Zm 20 g pre⟩):=by
 unfold Hj.get; rw [h.get]; split <;> rfl
theorem rA.old2 {pre:List Box} {s:Hj G5 G1} (h:rA pre s) (g:G5):(Hj.get s g (G1.mk (G5.mk 0 0) 0 0)).Whole=Zm 40 g pre∧(Hj.get s g (G1.mk (G5.mk 0 0) 0 0)).Half=Zm 20 g pre:=by
 rw [h.old]
 have h1:=fV 40 g pre
 have h2:=fV 20 g pre
 split
 ·exact⟨by simp only; omega,by simp only; omega⟩
 ·exact⟨rfl,rfl⟩

theorem Gc9 (x:Box) (z:Int):hit (G5.mk x.Load x.Discharge) z x=decide (x.Size=z):=by simp [hit]
theorem G35 {x:Box} {g:G5} (z:Int) (h:¬ G5.mk x.Load x.Discharge=g):hit g z x=false:=by
 cases hb:hit g z x with
 | false=>rfl
 | true=>
  exfalso
  simp only [hit,P7,P8] at hb
  apply h
  cases g
  simp only at hb
  rw [hb.1.1,hb.1.2]
theorem rA.put {pre:List Box} {s:Hj G5 G1} (h:rA pre s) (x:Box) (hx:x.Size=40∨x.Size=20) :
  rA (pre++[x]) (Hj.put s (G5.mk x.Load x.Discharge) (G1.mk (G5.mk x.Load x.Discharge) (Zm 40 (G5.mk x.Load x.Discharge) pre+(if decide (x.Size=40) then 1 else 0)) (Zm 20 (G5.mk x.Load x.Discharge) pre+(if decide (x.Size=20) then 1 else 0)))):=by
 have h2:=fV 40 (G5.mk x.Load x.Discharge) pre
 have h3:=fV 20 (G5.mk x.Load x.Discharge) pre
 refine⟨fun g=>?_,?_,?_,?_⟩
 ·show dG (iE (Hj.l s) _ _) g=_
  rw [G30,nB,nB]
  by_cases e:G5.mk x.Load x.Discharge=g
  ·subst e
   have h1:(if decide (x.Size=40)=true then (1:Int) else 0)+(if decide (x.Size=20)=true then 1 else 0)=1:=by
    rcases hx with hx | hx <;> rw [hx] <;> rfl
   have h0:¬ (Zm 40 (G5.mk x.Load x.Discharge) pre+(if decide (x.Size=40)=true then 1 else 0)+(Zm 20 (G5.mk x.Load x.Discharge) pre+(if decide (x.Size=20)=true then 1 else 0))=0):=by omega
   rw [if_pos rfl,Gc9,Gc9,if_neg h0]
  ·rw [if_neg e,G35 40 e,G35 20 e,h.get]
   simp
 ·show ((iE (Hj.l s) _ _).map _).sum=_
  rw [Gac _ _ _ s.nd,h.whole,h.get,vH]
  by_cases e0:Zm 40 (G5.mk x.Load x.Discharge) pre+Zm 20 (G5.mk x.Load x.Discharge) pre=0
  ·rw [if_pos e0]; simp only; omega
  ·rw [if_neg e0]; simp only; omega
 ·show ((iE (Hj.l s) _ _).map _).sum=_
  rw [Gac _ _ _ s.nd,h.half,h.get,vH]
  by_cases e0:Zm 40 (G5.mk x.Load x.Discharge) pre+Zm 20 (G5.mk x.Load x.Discharge) pre=0
  ·rw [if_pos e0]; simp only; omega
  ·rw [if_neg e0]; simp only; omega
 ·have:=Gc5 (Hj.l s) (G5.mk x.Load x.Discharge) (G1.mk (G5.mk x.Load x.Discharge) (Zm 40 (G5.mk x.Load x.Discharge) pre+(if decide (x.Size=40) then 1 else 0)) (Zm 20 (G5.mk x.Load x.Discharge) pre+(if decide (x.Size=20) then 1 else 0)))
  have:=h.len
  show (iE _ _ _).length≤_
  rw [P5,P6]; omega
theorem rA.skip {pre:List Box} {s:Hj G5 G1} (h:rA pre s) (x:Box) (h0:¬ x.Size=40) (h1:¬ x.Size=20):rA (pre++[x]) s:=by
 have e1:∀ g,hit g 40 x=false:=fun g=>by simp [hit,h0]
 have e2:∀ g,hit g 20 x=false:=fun g=>by simp [hit,h1]
 refine⟨fun g=>by rw [nB,nB,e1,e2,h.get]; simp,by rw [vH,h.whole]; simp [h0],by rw [vH,h.half]; simp [h1],?_⟩
 have:=h.len
 rw [P5]; omega
theorem Hcc {β:Type} {z:Int} {k:Int→Option β} (h : -9223372036854775808≤z∧z≤9223372036854775807):chk z k=k z:=by
 unfold chk G34
 rw [Nr h.1,Nr h.2,Bool.and_self,cond_true]
def G37 (y:Box) (_:Nat) (s:Hj G5 G1) (nx:Hj G5 G1→Option (List G1)):Option (List G1):=
  jp (fun kj=>
   bnd (some (Hj.get s (G5.mk y.Load y.Discharge) (G1.mk (G5.mk 0 0) 0 0))) fun v=>
   jp (fun kj2=>
    bif decide (y.Size=40) then (chk (v.Whole+1) fun w=>kj2 (w,v.Half))
    else (bif decide (y.Size=20) then (chk (v.Half+1) fun w=>kj2 (v.Whole,w)) else (kj (s,v.Whole,v.Half)))) fun(j:Int×Int)=>
   kj ((Hj.put s (G5.mk y.Load y.Discharge) (G1.mk (G5.mk y.Load y.Discharge) j.1 j.2)),j.1,j.2)) fun(j:(Hj G5 G1)×Int×Int)=>
  nx j.1
theorem H38 {pre:List Box} {s:Hj G5 G1} (h:rA pre s) (y:Box) (i:Nat) (hl:pre.length≤1000000) (nx:Hj G5 G1→Option (List G1)):∃ s',rA (pre++[y]) s'∧G37 y i s nx=nx s':=by
 obtain⟨e1,e2⟩:=h.old2 (G5.mk y.Load y.Discharge)
 have h0:=fV 40 (G5.mk y.Load y.Discharge) pre
 have h1:=fV 20 (G5.mk y.Load y.Discharge) pre
 by_cases a:y.Size=40
 ·have b:¬ y.Size=20:=by omega
  have hp:=h.put y (.inl a)
  rw [if_pos (Nr a),if_neg (by rw [Ns b]; exact Bool.false_ne_true),Int.add_zero] at hp
  refine⟨_,hp,?_⟩
  unfold G37
  simp only [jp,bnd,e1,e2]
  rw [Nr a,cond_true,Hcc ⟨by omega,by omega⟩]
 ·by_cases b:y.Size=20
  ·have hp:=h.put y (.inr b)
   rw [if_neg (by rw [Ns a]; exact Bool.false_ne_true),if_pos (Nr b),Int.add_zero] at hp
   refine⟨_,hp,?_⟩
   unfold G37
   simp only [jp,bnd,e1,e2]
   rw [Ns a,cond_false,Nr b,cond_true,Hcc ⟨by omega,by omega⟩]
  ·refine⟨s,h.skip y a b,?_⟩
   unfold G37
   simp only [jp,bnd]
   rw [Ns a,cond_false,Ns b,cond_false]
theorem JP (kx:Hj G5 G1→Option (List G1)):∀ (xs pre:List Box) (i:Nat) (s:Hj G5 G1),rA pre s→pre.length+xs.length≤1000000→∃ m,rA (pre++xs) m∧each G37 kx xs i s=kx m
 | [],pre,i,s,h,_=>⟨s,by simpa using h,rfl⟩
 | x::xs,pre,i,s,h,hl=>by
  rw [P1] at hl
  obtain⟨s',h',e⟩:=H38 h x i (by omega) (each G37 kx xs (i+1))
  obtain⟨m,hm,e2⟩:=JP kx xs (pre++[x]) (i+1) s' h' (by rw [P5,P6]; omega)
  refine⟨m,by simpa using hm,?_⟩
  rw [each,e,e2]
theorem JN (bx:List Box) (hl:bx.length≤1000000):∃ m,rA bx m∧R8 bx=some (uD ((Hj.l m).map (·.2))):=by
 obtain⟨m,hm,e⟩:=JP (fun s=>need (decide ((Hj.l s).length*32≤140737488355328∧(Hj.l s).length≤maxLen)) <| some (uD ((Hj.l s).map (·.2)))) bx [] 0 Hj.empty rA.start (by simpa using hl)
 refine⟨m,by simpa using hm,?_⟩
 have h0:=hm.len
 rw [List.nil_append] at h0
 have hd:decide ((Hj.l m).length*32≤140737488355328∧(Hj.l m).length≤maxLen)=true:=by
  rw [P8]
  have:maxLen=9223372036854775807:=rfl
  omega
 unfold R8
 refine Eq.trans e ?_
 simp only [hd,H5b]
theorem rA.entry {pre:List Box} {s:Hj G5 G1} (h:rA pre s) {e:G5×G1} (he:e∈Hj.l s):e.2=⟨e.1,Zm 40 e.1 pre,Zm 20 e.1 pre⟩∧Zm 40 e.1 pre+Zm 20 e.1 pre≠0:=by
 obtain⟨j,hj⟩:=List.mem_iff_getElem?.1 he
 have h1:=(sH s.nd (j:=j) (a:=e.1) (v:=e.2) hj).1
 rw [h.get] at h1
 by_cases h0:Zm 40 e.1 pre+Zm 20 e.1 pre=0
 ·rw [if_pos h0] at h1; cases h1
 ·rw [if_neg h0] at h1; exact⟨(Nv h1).symm,h0⟩
theorem Gab {l q:List Int} (h:l.Perm q):l.sum=q.sum:=by
 induction h with
 | nil=>rfl
 | cons x _ ih=>simp [ih]
 | swap x y l=>simp; omega
 | trans _ _ h1 h2=>exact h1.trans h2
theorem G58 (bx:List Box) (hl:bx.length≤1000000):∃ l,R8 bx=some l∧l.length≤bx.length ∧
  (∀ c∈l,c.Whole=Zm 40 c.G5 bx∧c.Half=Zm 20 c.G5 bx∧c.Whole+c.Half≠0) ∧
  (∀ i j (_:i < j) (hj:j < l.length),ltOf GB l[i] l[j]=true)∧(l.map (·.Whole)).sum=G61 40 bx∧(l.map (·.Half)).sum=G61 20 bx:=by
 obtain⟨m,hm,e⟩:=JN bx hl
 have hp:=nW ((Hj.l m).map (·.2))
 have h4:∀ c∈uD ((Hj.l m).map (·.2)),∃ x∈Hj.l m,x.2=c:=fun c hc=>Pb.1 (hp.mem_iff.1 hc)
 refine⟨_,e,?_,fun c hc=>?_,fun i j h3 hj=>?_,?_,?_⟩
 ·rw [hp.length_eq,P9]; exact hm.len
 ·obtain⟨x,hx,rfl⟩:=h4 c hc
  obtain⟨h1,h2⟩:=hm.entry hx
  rw [h1]; exact⟨rfl,rfl,h2⟩
 ·have h0:=(List.pairwise_iff_getElem.1 (sJ ((Hj.l m).map (·.2)))) i j (by omega) hj h3
  unfold gle at h0
  have h5:(uD ((Hj.l m).map (·.2))).Pairwise (fun a b=>a.G5≠b.G5):=by
   refine List.Perm.pairwise hp.symm ?_ (fun h=>h.symm)
   rw [List.pairwise_map]
   have:=m.nd
   rw [List.nodup_iff_pairwise_ne,List.pairwise_map] at this
   refine List.Pairwise.imp_of_mem (fun {a b} ha hb h6=>?_) this
   rw [(hm.entry ha).1,(hm.entry hb).1]; exact h6
  have h7:=(List.pairwise_iff_getElem.1 h5) i j (by omega) hj h3
  rw [jK] at h0 ⊢
  simp only [decide_eq_false_iff_not,P8] at h0 ⊢
  generalize (uD ((Hj.l m).map (·.2)))[i]=a at *
  generalize (uD ((Hj.l m).map (·.2)))[j]=b at *
  have:¬ (a.G5.Load=b.G5.Load∧a.G5.Discharge=b.G5.Discharge):=fun h=>h7 (by
   obtain⟨⟨al,ad⟩,_,_⟩:=a
   obtain⟨⟨bl,bd⟩,_,_⟩:=b
   simp only at h
   rw [h.1,h.2])
  omega
 ·rw [Gab (hp.map _),List.map_map]; exact hm.whole
 ·rw [Gab (hp.map _),List.map_map]; exact hm.half

section
variable {α β σ : Type} {Q : β → Prop}

def Wp (m : Option β) (Q : β → Prop) : Prop := ∃ r, m = some r ∧ Q r

theorem H4 {r : β} (h : Q r) : Wp (some r) Q := ⟨r, rfl, h⟩
theorem wp_mono {m : Option β} {Q' : β → Prop} (h : Wp m Q') (hq : ∀ r, Q' r → Q r) : Wp m Q := by
  obtain ⟨r, e, h⟩ := h; exact ⟨r, e, hq r h⟩
theorem Jp {m : Option α} {k : α → Option β} (h : Wp m (fun x => Wp (k x) Q)) : Wp (bnd m k) Q := by
  obtain ⟨x, rfl, h⟩ := h; exact h
theorem Hh {m : Option α} {k : α → Option β} {x : α} (e : m = some x) (h : Wp (k x) Q) : Wp (bnd m k) Q := by subst e; exact h
theorem Ji {z : Int} {k : Int → Option β} (h1 : -9223372036854775808 ≤ z ∧ z ≤ 9223372036854775807) (h : Wp (k z) Q) : Wp (chk z k) Q := by
  unfold chk G34
  rw [Nr h1.1, Nr h1.2]; exact h
theorem J8 {c : Bool} {x y : Option β} (h1 : c = true → Wp x Q) (h2 : c = false → Wp y Q) : Wp (bif c then x else y) Q := by
  cases c with
  | true => exact h1 rfl
  | false => exact h2 rfl
theorem Z0 {b : Bool} {k : Option β} (hb : b = true) (h : Wp k Q) : Wp (need b k) Q := by subst hb; exact h
theorem Qs {l : List α} {i : Int} {k : α → Option β} {m : Nat} {x : α} (hi : i = (m : Int)) (hx : l[m]? = some x) (h : Wp (k x) Q) : Wp (Jx l i k) Q := by
  subst hi
  unfold Jx
  rw [Nr (by omega : (0 : Int) ≤ m), cond_true, show (m : Int).toNat = m by omega, hx]
  exact h
theorem lW {m : (α → Option β) → Option β} {k : α → Option β} (P : α → Prop) (hm : ∀ K : α → Option β, (∀ a, P a → Wp (K a) Q) → Wp (m K) Q) (hk : ∀ a, P a → Wp (k a) Q) : Wp (jp m k) Q := hm k hk
theorem Ha8 {m n : Int} {Q : Int → Prop} (hn : 0 < n) (hm : -9223372036854775807 ≤ m ∧ m ≤ 9223372036854775807) (h : Q (m.tdiv n)) : Wp (RW m n) Q := by
  unfold RW
  rw [Ns (by omega), cond_false]
  have hb : -9223372036854775808 ≤ m.tdiv n ∧ m.tdiv n ≤ 9223372036854775807 := by
    have h1 := Int.natAbs_tdiv_le_natAbs m n
    omega
  exact Ji hb (H4 h)
theorem tD {i : Int} {n m : Nat} {Q : Nat → Prop} (hi : i = (m : Int)) (hm : m ≤ n) (h : Q m) : Wp (cN i n) Q := by
  subst hi
  unfold cN
  rw [Nr (by omega : (0 : Int) ≤ m), show (m : Int).toNat = m by omega, Nr hm]
  exact H4 h
theorem Rv (I : List α → σ → Prop) {b : α → Nat → σ → (σ → Option β) → Option β} {kx : σ → Option β} {xs : List α} {s : σ} (h0 : I [] s)
    (hb : ∀ pre x post s nx, xs = pre ++ x :: post → I pre s → (∀ s', I (pre ++ [x]) s' → Wp (nx s') Q) → Wp (b x pre.length s nx) Q) (hk : ∀ s, I xs s → Wp (kx s) Q) : Wp (each b kx xs 0 s) Q := by
  have key : ∀ (post pre : List α) (s : σ), xs = pre ++ post → I pre s → Wp (each b kx post pre.length s) Q := by
    intro post
    induction post with
    | nil => intro pre s e hi; rw [List.append_nil] at e; subst e; exact hk s hi
    | cons x post ih =>
      intro pre s e hi
      rw [each]
      refine hb pre x post s _ e hi (fun s' h1 => ?_)
      have := ih (pre ++ [x]) s' (by rw [e]; simp) h1
      rw [P5, P6] at this
      exact this
  exact key xs [] s rfl h0
theorem xG (I : Nat → σ → Prop) {b : Nat → σ → (σ → Option β) → Option β} {kx : σ → Option β} {n : Nat} {s : σ} (h0 : I 0 s)
    (hb : ∀ i s nx, i < n → I i s → (∀ s', I (i + 1) s' → Wp (nx s') Q) → Wp (b i s nx) Q) (hk : ∀ s, I n s → Wp (kx s) Q) : Wp (upto b kx n 0 s) Q := by
  have key : ∀ (m i : Nat) (s : σ), i + m = n → I i s → Wp (upto b kx m i s) Q := by
    intro m
    induction m with
    | zero => intro i s e hi; have e : i = n := by omega
              subst e; exact hk s hi
    | succ m ih =>
      intro i s e hi
      rw [upto]
      exact hb i s _ (by omega) hi (fun s' h1 => ih (i + 1) s' (by omega) h1)
  exact key n 0 s (by omega) h0
theorem gA {m : Option β} {r : β} (h : Wp m (· = r)) : m = some r := by
  obtain ⟨x, e, rfl⟩ := h; exact e
end

end Go.Proofs.YthkihfoleenlmaaGreat
