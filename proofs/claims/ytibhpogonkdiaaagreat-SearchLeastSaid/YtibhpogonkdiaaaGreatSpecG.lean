/-
 What the functions return that range over maps: What iterators yield: What the steps of a plan are: What bound.Groups returns:
-/
import Derived.Test.YtibhpogonkdiaaaGreatXA
set_option maxRecDepth 100000
namespace Go.Proofs.YtibhpogonkdiaaaGreat
open Go.RowKit

theorem YE (s:Gc) (r:Bool):Rel r (lY s (fun r_=>r_=r)) (pH s):=by
 unfold lY pH;refine nJ (fun _=>JB) (fun _=>?_);refine JD (fun x i s nx nx' h0=>?_) (fun s=>?_)
 ·refine Jb9 (fun K K' hK=>nJ (fun _=>hK _) (fun _=>hK _)) (fun j=>?_);refine uN (fun v=>G18 (fun v=>uN (fun q=>?_)));exact nJ (fun _=>JB) (fun _=>h0 _)
 ·refine JD (fun x i s nx nx' h0=>?_) (fun s=>?_)
  ·refine nJ (fun _=>JB) (fun _=>?_);refine JD (fun x i s nx nx' h0=>?_) (fun s=>h0 _);refine uN (fun v=>uN (fun v=>?_));exact nJ (fun _=>JB) (fun _=>uN (fun v=>G18 (fun v=>h0 _)))
  ·exact Jfa (c:=fun x:Hk×Int=>decide (1 < x.2)) (e:=false) (e':=true)
abbrev Jh:=pH
def iB:=PLift.up (G88 Jh (fun s r h=>YE s r h))

def kL {α:Type} (r l:List α) (m:Option Unit) (g:Option (List α)):Prop:=g=some r->l <+: r∧m=some ()

variable {α β:Type} {l r:List α}
theorem nN {o:Option β} {m:β->Option Unit} {g:β->Option (List α)} (h:∀ v,kL r l (m v) (g v)):kL r l (bnd o m) (bnd o g):=by
 cases o with
 | none=>intro e; cases e
 | some v=>exact h v
variable {m:Option Unit} {g:Option (List α)}
theorem H8b {b:Bool} (h:kL r l m g):kL r l (need b m) (need b g):=by
 cases b with
 | false=>intro e; cases e
 | true=>exact h
theorem wY {b:β->Nat->Nat->(Nat->Option Unit)->Option Unit} {b':β->Nat->List α->(List α->Option (List α))->Option (List α)} {k:Nat->Option Unit} {k':List α->Option (List α)}
  (hb:∀ x i l nx nx',(∀ l',kL r l' (nx l'.length) (nx' l'))->kL r l (b x i l.length nx) (b' x i l nx')) (hk:∀ l,kL r l (k l.length) (k' l)) (xs:List β):∀ (i:Nat) (l:List α),kL r l (each b k xs i l.length) (each b' k' xs i l):=by
 induction xs with
 | nil=>intro i l; exact hk l
 | cons x xs ih=>intro i l; exact hb x i l _ _ (fun l'=>ih (i+1) l')
theorem Jcc {b:Nat->Nat->(Nat->Option Unit)->Option Unit} {b':Nat->List α->(List α->Option (List α))->Option (List α)} {k:Nat->Option Unit} {k':List α->Option (List α)}
  (hb:∀ i l nx nx',(∀ l',kL r l' (nx l'.length) (nx' l'))->kL r l (b i l.length nx) (b' i l nx')) (hk:∀ l,kL r l (k l.length) (k' l)) (n:Nat):∀ (i:Nat) (l:List α),kL r l (upto b k n i l.length) (upto b' k' n i l):=by
 induction n with
 | zero=>intro i l; exact hk l
 | succ n ih=>intro i l; exact hb i l _ _ (fun l'=>ih (i+1) l')
theorem RL [DecidableEq α] {x:α} (h:kL r (l++[x]) m g):kL r l (need (decide (r[l.length]? = some x)) m) g:=by
 intro e;obtain⟨hp,hm⟩:=h e;refine⟨(List.prefix_append l [x]).trans hp,?_⟩;obtain⟨t,rfl⟩:=hp;have:((l++[x])++t)[l.length]? = some x:=by simp
 unfold need; rw [S8 this]; exact hm
theorem H1e:kL r l (need (decide (l.length=r.length)) (some ())) (some l):=by
 intro e; cases e;refine⟨List.prefix_refl _,?_⟩;unfold need; rw [S8 rfl]; rfl
theorem H1d (h:kL r [] m g) (e:g=some r):m=some ():=(h e).2

def eK (p1:Gc) (p2:Int):Option (List Slot):=
 each (fun y2 i2 (s2:List Slot) nx2=>
  need (decide ((max y2.Tiers 0)<=9223372036854775807)) <|
  upto (fun i8 (s8:List Slot) nx8=>
   bnd (eA p2) fun r14=>
   each (fun y29 _ (s29:List Slot) nx29=>nx29 (s29++[Slot.mk (i2:Int) (i8:Int) y29]))
   (fun(s29:List Slot)=>nx8 s29) r14 0 s8)
  (fun(s8:List Slot)=>nx2 s8) (max y2.Tiers 0).toNat 0 s2)
 (fun(s2:List Slot)=>some s2) p1.AB 0 []
def RQ:=PLift.up (RV eK (fun s size r h=>H1d (by
 unfold lU
 refine wY (fun y2 i2 s2 nx nx' h0=>?_) (fun s=>H1e) _ 0 []
 refine H8b (Jcc (fun i8 s8 nx nx' h0=>?_) (fun s=>h0 _) _ _ _)
 refine nN (fun v=>?_)
 refine wY (fun y29 i29 s29 nx nx' h0=>?_) (fun s=>h0 _) _ _ _
 refine RL ?_
 have:=h0 (s29++[Slot.mk (i2:Int) (i8:Int) y29])
 rw [Sn] at this
 exact this) h))

theorem J8c {σ:Type} {b:β->Nat->σ×Nat->(σ×Nat->Option Unit)->Option Unit} {b':β->Nat->σ×List α->(σ×List α->Option (List α))->Option (List α)} {k:σ×Nat->Option Unit} {k':σ×List α->Option (List α)}
  (hb:∀ x i t l nx nx',(∀ t' l',kL r l' (nx (t',l'.length)) (nx' (t',l')))->kL r l (b x i (t,l.length) nx) (b' x i (t,l) nx')) (hk:∀ t l,kL r l (k (t,l.length)) (k' (t,l))) (xs:List β):∀ (i:Nat) (t:σ) (l:List α),kL r l (each b k xs i (t,l.length)) (each b' k' xs i (t,l)):=by
 induction xs with
 | nil=>intro i t l; exact hk t l
 | cons x xs ih=>intro i t l; exact hb x i t l _ _ (fun t' l'=>ih (i+1) t' l')

def iC (p1:cA):Option (List (AE×AE)):=
 each (fun y23 _ (s23:AE×List (AE×AE)) nx23=>nx23 (y23,s23.2++[(s23.1,y23)]))
 (fun(s23:AE×List (AE×AE))=>some s23.2) p1.AO 0 ([],[])
def RR:=PLift.up (RX iC (fun p r h=>H1d (by
 unfold mA
 refine J8c (fun y i t l nx nx' h0=>?_) (fun t l=>H1e) _ 0 [] []
 refine RL ?_
 have:=h0 y (l++[(t,y)])
 rw [Sn] at this
 exact this) h))

open Go.RowKit Go.Shelf Go.Sort

def RH (a b:G3):Int:=
 bif decide (a.G9.Load < b.G9.Load) then -1 else bif decide (b.G9.Load < a.G9.Load) then 1 else
 bif decide (a.G9.AF < b.G9.AF) then -1 else bif decide (b.G9.AF < a.G9.AF) then 1 else 0
theorem J17 (a b:G3):Ze a b=some (RH a b):=by
 have h1:decide (a.G9.Load≠a.G9.Load)=false:=by simp
 have h2:decide (b.G9.Load≠b.G9.Load)=false:=by simp
 have h3:decide (a.G9.AF≠a.G9.AF)=false:=by simp
 have h4:decide (b.G9.AF≠b.G9.AF)=false:=by simp
 simp only [Ze,jV,Rt,dD,bnd,h1,h2,h3,h4,cond_false];unfold RH;cases decide (a.G9.Load < b.G9.Load) <;> cases decide (b.G9.Load < a.G9.Load) <;> cases decide (a.G9.AF < b.G9.AF) <;> cases decide (b.G9.AF < a.G9.AF) <;> rfl
theorem lP (a b:G3):ltOf RH a b=decide (a.G9.Load < b.G9.Load∨(a.G9.Load=b.G9.Load∧a.G9.AF < b.G9.AF)):=by
 unfold ltOf RH;grind
theorem GR:SWO (ltOf RH) where
 irrefl x:=by rw [lP]; simp
 trans x y z:=by rw [lP,lP,lP]; simp only [Sr]; omega
 ntrans x y z:=by rw [lP,lP,lP]; simp only [decide_eq_false_iff_not]; omega

def J16 (x:G3):AI->AI
 | []=>[x]
 | y::r=>bif ltOf RH y x then y::J16 x r else x::y::r
def wT:AI->AI
 | []=>[]
 | x::r=>J16 x (wT r)
theorem RG (x:G3):∀ l,(J16 x l).Perm (x::l)
 | []=>.refl _
 | y::r=>by
  unfold J16;cases ltOf RH y x with
  | true=>exact(List.Perm.cons y (RG x r)).trans (List.Perm.swap x y r)
  | false=>exact .refl _
theorem uU:∀ l,(wT l).Perm l
 | []=>.refl _
 | x::r=>(RG x _).trans ((uU r).cons x)
def gle (a b:G3):Prop:=ltOf RH b a=false
theorem ZT (x:G3):∀ {l},l.Pairwise gle->(J16 x l).Pairwise gle
 | [],_=>by simp [J16]
 | y::r,h=>by
  unfold J16;cases hc:ltOf RH y x with
  | true=>
   refine List.pairwise_cons.2 ⟨fun z hz=>?_,ZT x (List.pairwise_cons.1 h).2⟩;rcases Sw.1 ((RG x r).mem_iff.1 hz) with rfl | hz
   ·unfold gle;rw [lP] at hc ⊢;simp only [Sr,decide_eq_false_iff_not] at hc ⊢;omega
   ·exact(List.pairwise_cons.1 h).1 z hz
  | false=>
   refine List.pairwise_cons.2 ⟨fun z hz=>?_,h⟩;rcases Sw.1 hz with rfl | hz
   ·exact hc
   ·exact GR.ntrans _ _ _ ((List.pairwise_cons.1 h).1 z hz) hc
theorem uT:∀ l,(wT l).Pairwise gle
 | []=>.nil
 | x::r=>ZT x (uT r)
theorem H0f {l q:AI} (hu:∀ a∈l,∀ b∈l,a.G9=b.G9->a=b) (hq:q.Perm l):aN RH q=wT l:=by
 obtain⟨h1,h2,h3⟩:=wK RH GR q;refine List.Perm.eq_of_pairwise (le:=gle) (fun a b ha hb h0 h4=>?_) ?_ (uT l) ((h1.trans hq).trans (uU l).symm)
 ·refine hu a (hq.mem_iff.1 (h1.mem_iff.1 ha)) b ((uU l).mem_iff.1 hb) ?_;unfold gle at h0 h4;rw [lP] at h0 h4;simp only [decide_eq_false_iff_not] at h0 h4;obtain⟨⟨al,ad⟩,_,_⟩:=a;obtain⟨⟨bl,bd⟩,_,_⟩:=b;grind
 ·rw [List.pairwise_iff_getElem];intro i j hi hj h5;exact h3 i j h5 hj

theorem J40 {k:Option β}:need true k=k:=rfl
theorem HY {κ ν β:Type} {kx:List ν->Option β}:∀ (q:List (κ×ν)) (s:List ν),((s.length+q.length)*32<=140737488355328∧s.length+q.length<=maxLen) ->
  JA (fun(x:κ×ν) (s:List ν) nx=>need (decide ((s.length+[x.2].length)*32<=140737488355328∧s.length+[x.2].length<=maxLen)) <| nx (s++[x.2])) kx q s=kx (s++q.map (·.2))
 | [],s,_=>by simp [JA]
 | x::q,s,h=>by
  rw [Si] at h;have hd:decide ((s.length+[x.2].length)*32<=140737488355328∧s.length+[x.2].length<=maxLen)=true:=by
   rw [Sr,Sp]; omega
  rw [JA,hd];simp only [J40];rw [HY q (s++[x.2]) (by rw [Sn,Sp]; omega)];simp

theorem Gcc {α σ R:Type} {r:R} (I:σ->Prop) {b:α->Nat->σ->(σ->Option Prop)->Option Prop} {b':α->Nat->σ->(σ->Option R)->Option R} {kx:σ->Option Prop} {kx':σ->Option R}
  (h:∀ x i s nx nx',I s->(∀ s,I s->Rel r (nx s) (nx' s))->Rel r (b x i s nx) (b' x i s nx')) (hk:∀ s,I s->Rel r (kx s) (kx' s)):∀ {xs:List α} {i:Nat} {s:σ},I s->Rel r (each b kx xs i s) (each b' kx' xs i s)
 | [],_,s,hs=>hk s hs
 | x::_,i,s,hs=>h x i s _ _ hs (fun _ h2=>Gcc I h hk h2)

def Z0 (AA:AH):Option AI:=
 each (fun y i (s:Gw G9 G3) nx=>
  jp (fun kj=>
   bnd (some (Gw.get s (G9.mk y.Load y.AF) (G3.mk (G9.mk 0 0) 0 0))) fun v=>
   jp (fun kj2=>
    bif decide (y.Size=40) then (chk (v.Whole+1) fun w=>kj2 (w,v.Half))
    else (bif decide (y.Size=20) then (chk (v.Half+1) fun w=>kj2 (v.Whole,w)) else (kj (s,v.Whole,v.Half)))) fun(j:Int×Int)=>
   kj ((Gw.put s (G9.mk y.Load y.AF) (G3.mk (G9.mk y.Load y.AF) j.1 j.2)),j.1,j.2)) fun(j:(Gw G9 G3)×Int×Int)=>
  nx j.1)
 (fun(s:Gw G9 G3)=>need (decide ((Gw.l s).length*32<=140737488355328∧(Gw.l s).length<=maxLen)) <| some (wT ((Gw.l s).map (·.2)))) AA 0 (Gw.empty:Gw G9 G3)

def GInv (s:Gw G9 G3):Prop:=∀ e∈Gw.l s,e.2.G9=e.1
theorem Jc0 {κ ν:Type} [DecidableEq κ] {a:κ} {v:ν} {l:List (κ×ν)} {e:κ×ν} (h:e∈iW l a v):e=(a,v)∨e∈l:=by
 unfold iW at h;grind
theorem GInv.put {s:Gw G9 G3} (h:GInv s) (g:G9) (x y:Int):GInv (Gw.put s g (G3.mk g x y)):=fun e he=>by
 rcases Jc0 (l:=Gw.l s) he with rfl | he
 ·rfl
 ·exact h e he
theorem GInv.unique {s:Gw G9 G3} (h:GInv s):∀ a∈(Gw.l s).map (·.2),∀ b∈(Gw.l s).map (·.2),a.G9=b.G9->a=b:=by
 intro a ha b hb h2;obtain⟨e,he,rfl⟩:=Su.1 ha;obtain⟨f,hf,rfl⟩:=Su.1 hb;have hk:e.1=f.1:=by rw [<- h e he,<- h f hf]; exact h2
 have hn:=s.nd;have:∀ (l:List (G9×G3)),(l.map (·.1)).Nodup->e∈l->f∈l->e=f:=by
  intro l
  induction l with
  | nil=>intro _ h; simp at h
  | cons x r ih=>
   grind
 rw [this _ hn he hf]

theorem qQ (AA:AH) (r:AI):Rel r (bI AA (fun r_=>r_=r)) (Z0 AA):=by
 unfold bI Z0;refine Gcc GInv (fun y i s nx nx' hs h1=>?_) (fun s hs=>?_) (fun e he=>by cases he)
 ·have h0:∀ K K':(Gw G9 G3)×Int×Int->_,(∀ a,GInv a.1->Rel r (K a) (K' a))->Rel r
    (bnd (some (Gw.get s (G9.mk y.Load y.AF) (G3.mk (G9.mk 0 0) 0 0))) fun v=>jp (fun kj2=>bif decide (y.Size=40) then (chk (v.Whole+1) fun w=>kj2 (w,v.Half)) else (bif decide (y.Size=20) then (chk (v.Half+1) fun w=>kj2 (v.Whole,w)) else (K (s,v.Whole,v.Half)))) fun(j:Int×Int)=>K ((Gw.put s (G9.mk y.Load y.AF) (G3.mk (G9.mk y.Load y.AF) j.1 j.2)),j.1,j.2))
    (bnd (some (Gw.get s (G9.mk y.Load y.AF) (G3.mk (G9.mk 0 0) 0 0))) fun v=>jp (fun kj2=>bif decide (y.Size=40) then (chk (v.Whole+1) fun w=>kj2 (w,v.Half)) else (bif decide (y.Size=20) then (chk (v.Half+1) fun w=>kj2 (v.Whole,w)) else (K' (s,v.Whole,v.Half)))) fun(j:Int×Int)=>K' ((Gw.put s (G9.mk y.Load y.AF) (G3.mk (G9.mk y.Load y.AF) j.1 j.2)),j.1,j.2)):=fun K K' hK=>by
   refine uN (fun v=>Jb9 (fun J J' hJ=>?_) (fun j=>hK _ (hs.put _ _ _)));exact nJ (fun _=>G18 (fun _=>hJ _)) (fun _=>nJ (fun _=>G18 (fun _=>hJ _)) (fun _=>hK _ hs))
  exact h0 _ _ (fun a ha=>h1 _ ha)
 ·intro h;obtain⟨hd,h⟩:=Hz h;have hd:=S6 hd;refine⟨_,rfl,fun q hq=>?_⟩;have hl:=hq.length_eq;rw [HY q [] (by simp only [List.length_nil,Nat.zero_add,hl]; exact hd)];rw [List.nil_append,H66 RH J17 GR (by rw [Ss,hl]; omega)];exact⟨_,rfl,(H0f hs.unique (hq.map _)).trans (Sc h)⟩
def RS:=PLift.up (QC Z0 (fun b r h=>qQ b r h))
end Go.Proofs.YtibhpogonkdiaaaGreat
