/-
 What the functions return that range over maps: What iterators yield: What the steps of a plan are: What bound.Groups returns:
-/
import Derived.Test.YtibhpogonkdiaaaGreatXA
set_option linter.unusedVariables false
set_option linter.unusedSimpArgs false
set_option linter.unnecessarySimpa false
set_option maxRecDepth 100000
namespace Go.Proofs.YtibhpogonkdiaaaGreat
open Go.RowKit

theorem J4b (s:Gb) (r:Bool):Rel r (Gb3 s (fun r_=>r_=r)) (Gfb s):=by
 unfold Gb3 Gfb
 refine Gce (fun _=>J08) (fun _=>?_)
 refine J09 (fun x i s nx nx' h0=>?_) (fun s=>?_)
 ·refine Rcf (fun K K' hK=>Gce (fun _=>hK _) (fun _=>hK _)) (fun j=>?_)
  refine H62 (fun v=>J88 (fun v=>H62 (fun q=>?_)))
  exact Gce (fun _=>J08) (fun _=>h0 _)
 ·refine J09 (fun x i s nx nx' h0=>?_) (fun s=>?_)
  ·refine Gce (fun _=>J08) (fun _=>?_)
   refine J09 (fun x i s nx nx' h0=>?_) (fun s=>h0 _)
   refine H62 (fun v=>H62 (fun v=>?_))
   exact Gce (fun _=>J08) (fun _=>H62 (fun v=>J88 (fun v=>h0 _)))
  ·exact Y0a (c:=fun x:H6×Int=>decide (1 < x.2)) (e:=false) (e':=true)
abbrev Jg:=Gfb
def H1b:=PLift.up (Jea Jg (fun s r h=>J4b s r h))

def G8d {α:Type} (r l:List α) (m:Option Unit) (g:Option (List α)):Prop:=g=some r→l <+: r∧m=some ()

theorem Gd1 {α β:Type} {r l:List α} {o:Option β} {m:β→Option Unit} {g:β→Option (List α)} (h:∀ v,G8d r l (m v) (g v)):G8d r l (bnd o m) (bnd o g):=by
 cases o with
 | none=>intro e; cases e
 | some v=>exact h v
theorem Qc3 {α:Type} {r l:List α} {b:Bool} {m:Option Unit} {g:Option (List α)} (h:G8d r l m g):G8d r l (need b m) (need b g):=by
 cases b with
 | false=>intro e; cases e
 | true=>exact h
theorem H96 {α β:Type} {r:List α} {b:β→Nat→Nat→(Nat→Option Unit)→Option Unit} {b':β→Nat→List α→(List α→Option (List α))→Option (List α)} {k:Nat→Option Unit} {k':List α→Option (List α)}
  (hb:∀ x i l nx nx',(∀ l',G8d r l' (nx l'.length) (nx' l'))→G8d r l (b x i l.length nx) (b' x i l nx')) (hk:∀ l,G8d r l (k l.length) (k' l)) (xs:List β):∀ (i:Nat) (l:List α),G8d r l (each b k xs i l.length) (each b' k' xs i l):=by
 induction xs with
 | nil=>intro i l; exact hk l
 | cons x xs ih=>intro i l; exact hb x i l _ _ (fun l'=>ih (i+1) l')
theorem Rdc {α:Type} {r:List α} {b:Nat→Nat→(Nat→Option Unit)→Option Unit} {b':Nat→List α→(List α→Option (List α))→Option (List α)} {k:Nat→Option Unit} {k':List α→Option (List α)}
  (hb:∀ i l nx nx',(∀ l',G8d r l' (nx l'.length) (nx' l'))→G8d r l (b i l.length nx) (b' i l nx')) (hk:∀ l,G8d r l (k l.length) (k' l)) (n:Nat):∀ (i:Nat) (l:List α),G8d r l (upto b k n i l.length) (upto b' k' n i l):=by
 induction n with
 | zero=>intro i l; exact hk l
 | succ n ih=>intro i l; exact hb i l _ _ (fun l'=>ih (i+1) l')
theorem J3d {α:Type} [DecidableEq α] {r l:List α} {x:α} {m:Option Unit} {g:Option (List α)} (h:G8d r (l++[x]) m g):G8d r l (need (decide (r[l.length]? = some x)) m) g:=by
 intro e
 obtain⟨hp,hm⟩:=h e
 refine⟨(List.prefix_append l [x]).trans hp,?_⟩
 obtain⟨t,rfl⟩:=hp
 have:((l++[x])++t)[l.length]? = some x:=by simp
 unfold need; rw [Ku this]; exact hm
theorem Q6a {α:Type} {r l:List α}:G8d r l (need (decide (l.length=r.length)) (some ())) (some l):=by
 intro e; cases e
 refine⟨List.prefix_refl _,?_⟩
 unfold need; rw [Ku rfl]; rfl
theorem Q69 {α:Type} {r:List α} {m:Option Unit} {g:Option (List α)} (h:G8d r [] m g) (e:g=some r):m=some ():=(h e).2

def G2e (p1:Gb) (p2:Int):Option (List Slot):=
 each (fun y2 i2 (s2:List Slot) nx2=>
  need (decide ((max y2.Tiers 0)≤9223372036854775807)) <|
  upto (fun i8 (s8:List Slot) nx8=>
   bnd (G24 p2) fun r14=>
   each (fun y29 _ (s29:List Slot) nx29=>nx29 (s29++[Slot.mk (i2:Int) (i8:Int) y29]))
   (fun(s29:List Slot)=>nx8 s29) r14 0 s8)
  (fun(s8:List Slot)=>nx2 s8) (max y2.Tiers 0).toNat 0 s2)
 (fun(s2:List Slot)=>some s2) p1.Columns 0 []
def J42:=PLift.up (J45 G2e (fun s size r h=>Q69 (by
 unfold Gaf
 refine H96 (fun y2 i2 s2 nx nx' h0=>?_) (fun s=>Q6a) _ 0 []
 refine Qc3 (Rdc (fun i8 s8 nx nx' h0=>?_) (fun s=>h0 _) _ _ _)
 refine Gd1 (fun v=>?_)
 refine H96 (fun y29 i29 s29 nx nx' h0=>?_) (fun s=>h0 _) _ _ _
 refine J3d ?_
 have:=h0 (s29++[Slot.mk (i2:Int) (i8:Int) y29])
 rw [M8] at this
 exact this) h))

open Go.RowKit Go.Shelf Go.Sort

def GInv (s:Gt H5 G8):Prop:=∀ e∈Gt.l s,e.2.H5=e.1
theorem Rd5 {κ ν:Type} [DecidableEq κ] {a:κ} {v:ν} {l:List (κ×ν)} {e:κ×ν} (h:e∈Ge7 l a v):e=(a,v)∨e∈l:=by
 unfold Ge7 at h
 split at h
 ·obtain⟨p,hp,rfl⟩:=Me.1 h
  by_cases h0:p.1=a
  ·rw [if_pos h0]; exact .inl rfl
  ·rw [if_neg h0]; exact .inr hp
 ·rcases Md.1 h with h | h
  ·exact .inr h
  ·exact .inl (Mf.1 h)
theorem GInv.put {s:Gt H5 G8} (h:GInv s) (g:H5) (x y:Int):GInv (Gt.put s g (G8.mk g x y)):=fun e he=>by
 rcases Rd5 (l:=Gt.l s) he with rfl | he
 ·rfl
 ·exact h e he
end Go.Proofs.YtibhpogonkdiaaaGreat
