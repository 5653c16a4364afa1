/-
 What the functions return that range over maps: the order in which a map is ranged over does not matter. What iterators yield: lists,collected by models of the same shape.
-/
import Derived.Test.YtknalejjpofoaaaGreatXA
set_option maxRecDepth 100000
namespace Go.Proofs.YtknalejjpofoaaaGreat
open Go.RowKit

theorem J8b (s:Gw) (r:Bool):Hdf r (Gc6 s (fun r_=>r_=r)) (H1b s):=by
 unfold Gc6 H1b
 refine G47 (fun _=>H7c) (fun _=>?_)
 refine J50 (fun x i s nx nx' hnx=>?_) (fun s=>?_)
 ·refine Q0b (fun K K' hK=>G47 (fun _=>hK _) (fun _=>hK _)) (fun j=>?_)
  refine H12 (fun v=>Jcd (fun v=>H12 (fun q=>?_)))
  exact G47 (fun _=>H7c) (fun _=>hnx _)
 ·refine J50 (fun x i s nx nx' hnx=>?_) (fun s=>?_)
  ·refine G47 (fun _=>H7c) (fun _=>?_)
   refine J50 (fun x i s nx nx' hnx=>?_) (fun s=>hnx _)
   refine H12 (fun v=>H12 (fun v=>?_))
   exact G47 (fun _=>H7c) (fun _=>H12 (fun v=>Jcd (fun v=>hnx _)))
  ·exact rel_any (c:=fun x:Hc×Int=>decide (1 < x.2)) (e:=false) (e':=true)
abbrev Z7:=H1b
def H41:=PLift.up (Q34 Z7 (fun s r h=>J8b s r h))
end Go.Proofs.YtknalejjpofoaaaGreat
set_option maxRecDepth 100000
namespace Go.Proofs.YtknalejjpofoaaaGreat
open Go.RowKit

def J09 {α:Type} (r l:List α) (m:Option Unit) (g:Option (List α)):Prop:=g=some r→l <+: r∧m=some ()

theorem col_bnd {α β:Type} {r l:List α} {o:Option β} {m:β→Option Unit} {g:β→Option (List α)} (h:∀ v,J09 r l (m v) (g v)):J09 r l (bnd o m) (bnd o g):=by
 cases o with
 | none=>intro e; cases e
 | some v=>exact h v
theorem col_need {α:Type} {r l:List α} {b:Bool} {m:Option Unit} {g:Option (List α)} (h:J09 r l m g):J09 r l (need b m) (need b g):=by
 cases b with
 | false=>intro e; cases e
 | true=>exact h
theorem col_each {α β:Type} {r:List α} {b:β→Nat→Nat→(Nat→Option Unit)→Option Unit} {b':β→Nat→List α→(List α→Option (List α))→Option (List α)} {k:Nat→Option Unit} {k':List α→Option (List α)}
  (hb:∀ x i l nx nx',(∀ l',J09 r l' (nx l'.length) (nx' l'))→J09 r l (b x i l.length nx) (b' x i l nx')) (hk:∀ l,J09 r l (k l.length) (k' l)) (xs:List β):∀ (i:Nat) (l:List α),J09 r l (each b k xs i l.length) (each b' k' xs i l):=by
 induction xs with
 | nil=>intro i l; exact hk l
 | cons x xs ih=>intro i l; exact hb x i l _ _ (fun l'=>ih (i+1) l')
theorem col_upto {α:Type} {r:List α} {b:Nat→Nat→(Nat→Option Unit)→Option Unit} {b':Nat→List α→(List α→Option (List α))→Option (List α)} {k:Nat→Option Unit} {k':List α→Option (List α)}
  (hb:∀ i l nx nx',(∀ l',J09 r l' (nx l'.length) (nx' l'))→J09 r l (b i l.length nx) (b' i l nx')) (hk:∀ l,J09 r l (k l.length) (k' l)) (n:Nat):∀ (i:Nat) (l:List α),J09 r l (upto b k n i l.length) (upto b' k' n i l):=by
 induction n with
 | zero=>intro i l; exact hk l
 | succ n ih=>intro i l; exact hb i l _ _ (fun l'=>ih (i+1) l')
theorem col_yield {α:Type} [DecidableEq α] {r l:List α} {x:α} {m:Option Unit} {g:Option (List α)} (h:J09 r (l++[x]) m g):J09 r l (need (decide (r[l.length]? = some x)) m) g:=by
 intro e
 obtain⟨hp,hm⟩:=h e
 refine⟨(List.prefix_append l [x]).trans hp,?_⟩
 obtain⟨t,rfl⟩:=hp
 have:((l++[x])++t)[l.length]? = some x:=by simp
 unfold need; rw [decide_eq_true this]; exact hm
theorem col_end {α:Type} {r l:List α}:J09 r l (need (decide (l.length=r.length)) (some ())) (some l):=by
 intro e; cases e
 refine⟨List.prefix_refl _,?_⟩
 unfold need; rw [decide_eq_true rfl]; rfl
theorem col_out {α:Type} {r:List α} {m:Option Unit} {g:Option (List α)} (h:J09 r [] m g) (e:g=some r):m=some ():=(h e).2

def Gc0 (p1:Gw) (p2:Int):Option (List Slot):=
 each (fun y2 i2 (s2:List Slot) nx2=>
  need (decide ((max y2.Tiers 0)≤9223372036854775807)) <|
  upto (fun i8 (s8:List Slot) nx8=>
   bnd (G2c p2) fun r14=>
   each (fun y29 _ (s29:List Slot) nx29=>nx29 (s29++[Slot.mk (i2:Int) (i8:Int) y29]))
   (fun(s29:List Slot)=>nx8 s29) r14 0 s8)
  (fun(s8:List Slot)=>nx2 s8) (max y2.Tiers 0).toNat 0 s2)
 (fun(s2:List Slot)=>some s2) p1.Columns 0 []
def J82:=PLift.up (J84 Gc0 (fun s size r h=>col_out (by
 unfold Gc4
 refine col_each (fun y2 i2 s2 nx nx' hnx=>?_) (fun s=>col_end) _ 0 []
 refine col_need (col_upto (fun i8 s8 nx nx' hnx=>?_) (fun s=>hnx _) _ _ _)
 refine col_bnd (fun v=>?_)
 refine col_each (fun y29 i29 s29 nx nx' hnx=>?_) (fun s=>hnx _) _ _ _
 refine col_yield ?_
 have:=hnx (s29++[Slot.mk (i2:Int) (i8:Int) y29])
 rw [List.length_append] at this
 exact this) h))
end Go.Proofs.YtknalejjpofoaaaGreat
