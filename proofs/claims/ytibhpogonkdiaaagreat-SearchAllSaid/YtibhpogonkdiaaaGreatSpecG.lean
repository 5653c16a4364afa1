/-
 What the functions return that range over maps: What iterators yield: What the steps of a plan are: What bound.Groups returns:
-/
import Derived.Test.YtibhpogonkdiaaaGreatXA
set_option linter.unusedVariables false
set_option linter.unusedSimpArgs false
set_option linter.unnecessarySimpa false
set_option maxRecDepth 100000
namespace Go.Proofs.YtibhpogonkdiaaaGreat
open Go.RowKit

theorem Hfa (s:Gf) (r:Bool):Rel r (G77 s (fun r_=>r_=r)) (Gbe s):=by
 unfold G77 Gbe
 refine G93 (fun _=>Hbc) (fun _=>?_)
 refine Hbd (fun x i s nx nx' h0=>?_) (fun s=>?_)
 ·refine R3f (fun K K' hK=>G93 (fun _=>hK _) (fun _=>hK _)) (fun j=>?_)
  refine H25 (fun v=>J32 (fun v=>H25 (fun q=>?_)))
  exact G93 (fun _=>Hbc) (fun _=>h0 _)
 ·refine Hbd (fun x i s nx nx' h0=>?_) (fun s=>?_)
  ·refine G93 (fun _=>Hbc) (fun _=>?_)
   refine Hbd (fun x i s nx nx' h0=>?_) (fun s=>h0 _)
   refine H25 (fun v=>H25 (fun v=>?_))
   exact G93 (fun _=>Hbc) (fun _=>H25 (fun v=>J32 (fun v=>h0 _)))
  ·exact R76 (c:=fun x:H1×Int=>decide (1 < x.2)) (e:=false) (e':=true)
abbrev Qu:=Gbe
def Gd9:=PLift.up (J86 Qu (fun s r h=>Hfa s r h))

def G56 {α:Type} (r l:List α) (m:Option Unit) (g:Option (List α)):Prop:=g=some r→l <+: r∧m=some ()

theorem G97 {α β:Type} {r l:List α} {o:Option β} {m:β→Option Unit} {g:β→Option (List α)} (h:∀ v,G56 r l (m v) (g v)):G56 r l (bnd o m) (bnd o g):=by
 cases o with
 | none=>intro e; cases e
 | some v=>exact h v
theorem Q50 {α:Type} {r l:List α} {b:Bool} {m:Option Unit} {g:Option (List α)} (h:G56 r l m g):G56 r l (need b m) (need b g):=by
 cases b with
 | false=>intro e; cases e
 | true=>exact h
theorem H58 {α β:Type} {r:List α} {b:β→Nat→Nat→(Nat→Option Unit)→Option Unit} {b':β→Nat→List α→(List α→Option (List α))→Option (List α)} {k:Nat→Option Unit} {k':List α→Option (List α)}
  (hb:∀ x i l nx nx',(∀ l',G56 r l' (nx l'.length) (nx' l'))→G56 r l (b x i l.length nx) (b' x i l nx')) (hk:∀ l,G56 r l (k l.length) (k' l)) (xs:List β):∀ (i:Nat) (l:List α),G56 r l (each b k xs i l.length) (each b' k' xs i l):=by
 induction xs with
 | nil=>intro i l; exact hk l
 | cons x xs ih=>intro i l; exact hb x i l _ _ (fun l'=>ih (i+1) l')
theorem R4b {α:Type} {r:List α} {b:Nat→Nat→(Nat→Option Unit)→Option Unit} {b':Nat→List α→(List α→Option (List α))→Option (List α)} {k:Nat→Option Unit} {k':List α→Option (List α)}
  (hb:∀ i l nx nx',(∀ l',G56 r l' (nx l'.length) (nx' l'))→G56 r l (b i l.length nx) (b' i l nx')) (hk:∀ l,G56 r l (k l.length) (k' l)) (n:Nat):∀ (i:Nat) (l:List α),G56 r l (upto b k n i l.length) (upto b' k' n i l):=by
 induction n with
 | zero=>intro i l; exact hk l
 | succ n ih=>intro i l; exact hb i l _ _ (fun l'=>ih (i+1) l')
theorem Hed {α:Type} [DecidableEq α] {r l:List α} {x:α} {m:Option Unit} {g:Option (List α)} (h:G56 r (l++[x]) m g):G56 r l (need (decide (r[l.length]? = some x)) m) g:=by
 intro e
 obtain⟨hp,hm⟩:=h e
 refine⟨(List.prefix_append l [x]).trans hp,?_⟩
 obtain⟨t,rfl⟩:=hp
 have:((l++[x])++t)[l.length]? = some x:=by simp
 unfold need; rw [Kv this]; exact hm
theorem Q00 {α:Type} {r l:List α}:G56 r l (need (decide (l.length=r.length)) (some ())) (some l):=by
 intro e; cases e
 refine⟨List.prefix_refl _,?_⟩
 unfold need; rw [Kv rfl]; rfl
theorem Jff {α:Type} {r:List α} {m:Option Unit} {g:Option (List α)} (h:G56 r [] m g) (e:g=some r):m=some ():=(h e).2

def G70 (p1:Gf) (p2:Int):Option (List Slot):=
 each (fun y2 i2 (s2:List Slot) nx2=>
  need (decide ((max y2.Tiers 0)≤9223372036854775807)) <|
  upto (fun i8 (s8:List Slot) nx8=>
   bnd (Zz p2) fun r14=>
   each (fun y29 _ (s29:List Slot) nx29=>nx29 (s29++[Slot.mk (i2:Int) (i8:Int) y29]))
   (fun(s29:List Slot)=>nx8 s29) r14 0 s8)
  (fun(s8:List Slot)=>nx2 s8) (max y2.Tiers 0).toNat 0 s2)
 (fun(s2:List Slot)=>some s2) p1.Columns 0 []
def Hf2:=PLift.up (Hf4 G70 (fun s size r h=>Jff (by
 unfold G73
 refine H58 (fun y2 i2 s2 nx nx' h0=>?_) (fun s=>Q00) _ 0 []
 refine Q50 (R4b (fun i8 s8 nx nx' h0=>?_) (fun s=>h0 _) _ _ _)
 refine G97 (fun v=>?_)
 refine H58 (fun y29 i29 s29 nx nx' h0=>?_) (fun s=>h0 _) _ _ _
 refine Hed ?_
 have:=h0 (s29++[Slot.mk (i2:Int) (i8:Int) y29])
 rw [M9] at this
 exact this) h))

open Go.RowKit Go.Shelf Go.Sort

end Go.Proofs.YtibhpogonkdiaaaGreat
