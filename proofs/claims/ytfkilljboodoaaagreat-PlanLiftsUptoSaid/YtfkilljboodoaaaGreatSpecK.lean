/-
 What the functions return that range over maps: the order in which a map is ranged over does not matter. What iterators yield: lists,collected by models of the same shape.
-/
import Derived.Test.YtfkilljboodoaaaGreatXA
set_option maxRecDepth 100000
namespace Go.Proofs.YtfkilljboodoaaaGreat
open Go.RowKit

theorem J0e (s:Hb) (r:Bool):Hcf r (G9b s (fun r_=>r_=r)) (Gdc s):=by
 unfold G9b Gdc
 refine H19 (fun _=>Hdf) (fun _=>?_)
 refine He0 (fun x i s nx nx' hnx=>?_) (fun s=>?_)
 ·refine rel_jp (fun K K' hK=>H19 (fun _=>hK _) (fun _=>hK _)) (fun j=>?_)
  refine H9e (fun v=>rel_chk (fun v=>H9e (fun q=>?_)))
  exact H19 (fun _=>Hdf) (fun _=>hnx _)
 ·refine He0 (fun x i s nx nx' hnx=>?_) (fun s=>?_)
  ·refine H19 (fun _=>Hdf) (fun _=>?_)
   refine He0 (fun x i s nx nx' hnx=>?_) (fun s=>hnx _)
   refine H9e (fun v=>H9e (fun v=>?_))
   exact H19 (fun _=>Hdf) (fun _=>H9e (fun v=>rel_chk (fun v=>hnx _)))
  ·exact rel_any (c:=fun x:Hd×Int=>decide (1 < x.2)) (e:=false) (e':=true)
abbrev G3e:=Gdc
def H8e:=PLift.up (J8c G3e (fun s r h=>J0e s r h))
end Go.Proofs.YtfkilljboodoaaaGreat
set_option maxRecDepth 100000
namespace Go.Proofs.YtfkilljboodoaaaGreat
open Go.RowKit

/-- if the collecting model ends with r, l is a beginning of r, and the checking one accepts -/
def H3e {α:Type} (r l:List α) (m:Option Unit) (g:Option (List α)):Prop:=g=some r→l <+: r∧m=some ()

theorem col_yield {α:Type} [DecidableEq α] {r l:List α} {x:α} {m:Option Unit} {g:Option (List α)} (h:H3e r (l++[x]) m g):H3e r l (need (decide (r[l.length]? = some x)) m) g:=by
 intro e
 obtain⟨hp,hm⟩:=h e
 refine⟨(List.prefix_append l [x]).trans hp,?_⟩
 obtain⟨t,rfl⟩:=hp
 have:((l++[x])++t)[l.length]? = some x:=by simp
 unfold need; rw [decide_eq_true this]; exact hm
theorem col_end {α:Type} {r l:List α}:H3e r l (need (decide (l.length=r.length)) (some ())) (some l):=by
 intro e; cases e
 refine⟨List.prefix_refl _,?_⟩
 unfold need; rw [decide_eq_true rfl]; rfl
theorem col_out {α:Type} {r:List α} {m:Option Unit} {g:Option (List α)} (h:H3e r [] m g) (e:g=some r):m=some ():=(h e).2

theorem col_each2 {α β σ:Type} {r:List α} {b:β→Nat→σ×Nat→(σ×Nat→Option Unit)→Option Unit} {b':β→Nat→σ×List α→(σ×List α→Option (List α))→Option (List α)} {k:σ×Nat→Option Unit} {k':σ×List α→Option (List α)}
  (hb:∀ x i t l nx nx',(∀ t' l',H3e r l' (nx (t',l'.length)) (nx' (t',l')))→H3e r l (b x i (t,l.length) nx) (b' x i (t,l) nx')) (hk:∀ t l,H3e r l (k (t,l.length)) (k' (t,l))) (xs:List β):∀ (i:Nat) (t:σ) (l:List α),H3e r l (each b k xs i (t,l.length)) (each b' k' xs i (t,l)):=by
 induction xs with
 | nil=>intro i t l; exact hk t l
 | cons x xs ih=>intro i t l; exact hb x i t l _ _ (fun t' l'=>ih (i+1) t' l')

def H8f (p1:Gf1):Option (List (List G6×List G6)):=
 each (fun y23 _ (s23:List G6×List (List G6×List G6)) nx23=>nx23 (y23,s23.2++[(s23.1,y23)]))
 (fun(s23:List G6×List (List G6×List G6))=>some s23.2) p1.States 0 ([],[])
def J0a:=PLift.up (J0c H8f (fun p r h=>col_out (by
 unfold G9c
 refine col_each2 (fun y i t l nx nx' hnx=>?_) (fun t l=>col_end) _ 0 [] []
 refine col_yield ?_
 have:=hnx y (l++[(t,y)])
 rw [List.length_append] at this
 exact this) h))

end Go.Proofs.YtfkilljboodoaaaGreat
