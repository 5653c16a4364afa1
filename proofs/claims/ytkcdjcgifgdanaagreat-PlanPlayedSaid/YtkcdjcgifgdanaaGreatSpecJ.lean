/-
 What the functions return that range over maps: the order in which a map is ranged over does not matter. What iterators yield: lists,collected by models of the same shape. What the steps of a plan are: an iterator that yields pairs of lists.
-/
import Derived.Test.YtkcdjcgifgdanaaGreatXA
set_option linter.unusedVariables false
set_option linter.unusedSimpArgs false
set_option linter.unnecessarySimpa false
set_option maxRecDepth 100000
namespace Go.Proofs.YtkcdjcgifgdanaaGreat
open Go.RowKit

theorem J0e (s:Gw) (r:Bool):Hc0 r (G86 s (fun r_=>r_=r)) (Gca s):=by
 unfold G86 Gca
 refine Gf8 (fun _=>Hd3) (fun _=>?_)
 refine Hd4 (fun x i s nx nx' hnx=>?_) (fun s=>?_)
 ·refine rel_jp (fun K K' hK=>Gf8 (fun _=>hK _) (fun _=>hK _)) (fun j=>?_)
  refine H79 (fun v=>rel_chk (fun v=>H79 (fun q=>?_)))
  exact Gf8 (fun _=>Hd3) (fun _=>hnx _)
 ·refine Hd4 (fun x i s nx nx' hnx=>?_) (fun s=>?_)
  ·refine Gf8 (fun _=>Hd3) (fun _=>?_)
   refine Hd4 (fun x i s nx nx' hnx=>?_) (fun s=>hnx _)
   refine H79 (fun v=>H79 (fun v=>?_))
   exact Gf8 (fun _=>Hd3) (fun _=>H79 (fun v=>rel_chk (fun v=>hnx _)))
  ·exact rel_any (c:=fun x:H8×Int=>decide (1 < x.2)) (e:=false) (e':=true)
abbrev G1f:=Gca
def H70:=PLift.up (J9e G1f (fun s r h=>J0e s r h))
end Go.Proofs.YtkcdjcgifgdanaaGreat
set_option linter.unusedVariables false
set_option linter.unusedSimpArgs false
set_option linter.unnecessarySimpa false
set_option maxRecDepth 100000
namespace Go.Proofs.YtkcdjcgifgdanaaGreat
open Go.RowKit

/-- if the collecting model ends with r, l is a beginning of r, and the checking one accepts -/
def H1d {α:Type} (r l:List α) (m:Option Unit) (g:Option (List α)):Prop:=g=some r→l <+: r∧m=some ()

theorem col_bnd {α β:Type} {r l:List α} {o:Option β} {m:β→Option Unit} {g:β→Option (List α)} (h:∀ v,H1d r l (m v) (g v)):H1d r l (bnd o m) (bnd o g):=by
 cases o with
 | none=>intro e; cases e
 | some v=>exact h v
theorem col_need {α:Type} {r l:List α} {b:Bool} {m:Option Unit} {g:Option (List α)} (h:H1d r l m g):H1d r l (need b m) (need b g):=by
 cases b with
 | false=>intro e; cases e
 | true=>exact h
theorem col_each {α β:Type} {r:List α} {b:β→Nat→Nat→(Nat→Option Unit)→Option Unit} {b':β→Nat→List α→(List α→Option (List α))→Option (List α)} {k:Nat→Option Unit} {k':List α→Option (List α)}
  (hb:∀ x i l nx nx',(∀ l',H1d r l' (nx l'.length) (nx' l'))→H1d r l (b x i l.length nx) (b' x i l nx')) (hk:∀ l,H1d r l (k l.length) (k' l)) (xs:List β):∀ (i:Nat) (l:List α),H1d r l (each b k xs i l.length) (each b' k' xs i l):=by
 induction xs with
 | nil=>intro i l; exact hk l
 | cons x xs ih=>intro i l; exact hb x i l _ _ (fun l'=>ih (i+1) l')
theorem col_upto {α:Type} {r:List α} {b:Nat→Nat→(Nat→Option Unit)→Option Unit} {b':Nat→List α→(List α→Option (List α))→Option (List α)} {k:Nat→Option Unit} {k':List α→Option (List α)}
  (hb:∀ i l nx nx',(∀ l',H1d r l' (nx l'.length) (nx' l'))→H1d r l (b i l.length nx) (b' i l nx')) (hk:∀ l,H1d r l (k l.length) (k' l)) (n:Nat):∀ (i:Nat) (l:List α),H1d r l (upto b k n i l.length) (upto b' k' n i l):=by
 induction n with
 | zero=>intro i l; exact hk l
 | succ n ih=>intro i l; exact hb i l _ _ (fun l'=>ih (i+1) l')
theorem col_yield {α:Type} [DecidableEq α] {r l:List α} {x:α} {m:Option Unit} {g:Option (List α)} (h:H1d r (l++[x]) m g):H1d r l (need (decide (r[l.length]? = some x)) m) g:=by
 intro e
 obtain⟨hp,hm⟩:=h e
 refine⟨(List.prefix_append l [x]).trans hp,?_⟩
 obtain⟨t,rfl⟩:=hp
 have:((l++[x])++t)[l.length]? = some x:=by simp
 unfold need; rw [decide_eq_true this]; exact hm
theorem col_end {α:Type} {r l:List α}:H1d r l (need (decide (l.length=r.length)) (some ())) (some l):=by
 intro e; cases e
 refine⟨List.prefix_refl _,?_⟩
 unfold need; rw [decide_eq_true rfl]; rfl
theorem col_out {α:Type} {r:List α} {m:Option Unit} {g:Option (List α)} (h:H1d r [] m g) (e:g=some r):m=some ():=(h e).2

def G82 (p1:Gw) (p2:Int):Option (List Slot):=
 each (fun y2 i2 (s2:List Slot) nx2=>
  need (decide ((max y2.Tiers 0)≤9223372036854775807)) <|
  upto (fun i8 (s8:List Slot) nx8=>
   bnd (G06 p2) fun r14=>
   each (fun y29 _ (s29:List Slot) nx29=>nx29 (s29++[Slot.mk (i2:Int) (i8:Int) y29]))
   (fun(s29:List Slot)=>nx8 s29) r14 0 s8)
  (fun(s8:List Slot)=>nx2 s8) (max y2.Tiers 0).toNat 0 s2)
 (fun(s2:List Slot)=>some s2) p1.Columns 0 []
def J04:=PLift.up (J08 G82 (fun s size r h=>col_out (by
 unfold G85
 refine col_each (fun y2 i2 s2 nx nx' hnx=>?_) (fun s=>col_end) _ 0 []
 refine col_need (col_upto (fun i8 s8 nx nx' hnx=>?_) (fun s=>hnx _) _ _ _)
 refine col_bnd (fun v=>?_)
 refine col_each (fun y29 i29 s29 nx nx' hnx=>?_) (fun s=>hnx _) _ _ _
 refine col_yield ?_
 have:=hnx (s29++[Slot.mk (i2:Int) (i8:Int) y29])
 rw [List.length_append] at this
 exact this) h))
end Go.Proofs.YtkcdjcgifgdanaaGreat
set_option linter.unusedVariables false
set_option linter.unusedSimpArgs false
set_option linter.unnecessarySimpa false
set_option maxRecDepth 100000
namespace Go.Proofs.YtkcdjcgifgdanaaGreat
open Go.RowKit

theorem col_each2 {α β σ:Type} {r:List α} {b:β→Nat→σ×Nat→(σ×Nat→Option Unit)→Option Unit} {b':β→Nat→σ×List α→(σ×List α→Option (List α))→Option (List α)} {k:σ×Nat→Option Unit} {k':σ×List α→Option (List α)}
  (hb:∀ x i t l nx nx',(∀ t' l',H1d r l' (nx (t',l'.length)) (nx' (t',l')))→H1d r l (b x i (t,l.length) nx) (b' x i (t,l) nx')) (hk:∀ t l,H1d r l (k (t,l.length)) (k' (t,l))) (xs:List β):∀ (i:Nat) (t:σ) (l:List α),H1d r l (each b k xs i (t,l.length)) (each b' k' xs i (t,l)):=by
 induction xs with
 | nil=>intro i t l; exact hk t l
 | cons x xs ih=>intro i t l; exact hb x i t l _ _ (fun t' l'=>ih (i+1) t' l')

def G39 (p1:G2f):Option (List (List Stowed×List Stowed)):=
 each (fun y23 _ (s23:List Stowed×List (List Stowed×List Stowed)) nx23=>nx23 (y23,s23.2++[(s23.1,y23)]))
 (fun(s23:List Stowed×List (List Stowed×List Stowed))=>some s23.2) p1.States 0 ([],[])
def J05:=PLift.up (J0b G39 (fun p r h=>col_out (by
 unfold G87
 refine col_each2 (fun y i t l nx nx' hnx=>?_) (fun t l=>col_end) _ 0 [] []
 refine col_yield ?_
 have:=hnx y (l++[(t,y)])
 rw [List.length_append] at this
 exact this) h))

end Go.Proofs.YtkcdjcgifgdanaaGreat
