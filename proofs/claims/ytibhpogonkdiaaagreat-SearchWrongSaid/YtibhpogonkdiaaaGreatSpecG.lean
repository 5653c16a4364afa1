/-
 What the functions return that range over maps: What iterators yield: What the steps of a plan are: What bound.Groups returns:
-/
import Derived.Test.YtibhpogonkdiaaaGreatXA
set_option linter.unusedVariables false
set_option linter.unusedSimpArgs false
set_option linter.unnecessarySimpa false
set_option maxRecDepth 100000
namespace Go.Proofs.YtibhpogonkdiaaaGreat
open Go.RowKit

theorem J0e (s:Ge) (r:Bool):Rel r (G88 s (fun r_=>r_=r)) (Gd3 s):=by
 unfold G88 Gd3
 refine Ga7 (fun _=>Hcf) (fun _=>?_)
 refine Hd0 (fun x i s nx nx' h0=>?_) (fun s=>?_)
 ·refine R6c (fun K K' hK=>Ga7 (fun _=>hK _) (fun _=>hK _)) (fun j=>?_)
  refine H37 (fun v=>J49 (fun v=>H37 (fun q=>?_)))
  exact Ga7 (fun _=>Hcf) (fun _=>h0 _)
 ·refine Hd0 (fun x i s nx nx' h0=>?_) (fun s=>?_)
  ·refine Ga7 (fun _=>Hcf) (fun _=>?_)
   refine Hd0 (fun x i s nx nx' h0=>?_) (fun s=>h0 _)
   refine H37 (fun v=>H37 (fun v=>?_))
   exact Ga7 (fun _=>Hcf) (fun _=>H37 (fun v=>J49 (fun v=>h0 _)))
  ·exact Ra3 (c:=fun x:H4×Int=>decide (1 < x.2)) (e:=false) (e':=true)
abbrev Jm:=Gd3
def Gee:=PLift.up (J9f Jm (fun s r h=>J0e s r h))

def G65 {α:Type} (r l:List α) (m:Option Unit) (g:Option (List α)):Prop:=g=some r→l <+: r∧m=some ()

theorem Gaa {α β:Type} {r l:List α} {o:Option β} {m:β→Option Unit} {g:β→Option (List α)} (h:∀ v,G65 r l (m v) (g v)):G65 r l (bnd o m) (bnd o g):=by
 cases o with
 | none=>intro e; cases e
 | some v=>exact h v
theorem Q6f {α:Type} {r l:List α} {b:Bool} {m:Option Unit} {g:Option (List α)} (h:G65 r l m g):G65 r l (need b m) (need b g):=by
 cases b with
 | false=>intro e; cases e
 | true=>exact h
theorem H68 {α β:Type} {r:List α} {b:β→Nat→Nat→(Nat→Option Unit)→Option Unit} {b':β→Nat→List α→(List α→Option (List α))→Option (List α)} {k:Nat→Option Unit} {k':List α→Option (List α)}
  (hb:∀ x i l nx nx',(∀ l',G65 r l' (nx l'.length) (nx' l'))→G65 r l (b x i l.length nx) (b' x i l nx')) (hk:∀ l,G65 r l (k l.length) (k' l)) (xs:List β):∀ (i:Nat) (l:List α),G65 r l (each b k xs i l.length) (each b' k' xs i l):=by
 induction xs with
 | nil=>intro i l; exact hk l
 | cons x xs ih=>intro i l; exact hb x i l _ _ (fun l'=>ih (i+1) l')
theorem J01 {α:Type} [DecidableEq α] {r l:List α} {x:α} {m:Option Unit} {g:Option (List α)} (h:G65 r (l++[x]) m g):G65 r l (need (decide (r[l.length]? = some x)) m) g:=by
 intro e
 obtain⟨hp,hm⟩:=h e
 refine⟨(List.prefix_append l [x]).trans hp,?_⟩
 obtain⟨t,rfl⟩:=hp
 have:((l++[x])++t)[l.length]? = some x:=by simp
 unfold need; rw [Kw this]; exact hm
theorem Q1a {α:Type} {r l:List α}:G65 r l (need (decide (l.length=r.length)) (some ())) (some l):=by
 intro e; cases e
 refine⟨List.prefix_refl _,?_⟩
 unfold need; rw [Kw rfl]; rfl
theorem Q19 {α:Type} {r:List α} {m:Option Unit} {g:Option (List α)} (h:G65 r [] m g) (e:g=some r):m=some ():=(h e).2


open Go.RowKit Go.Shelf Go.Sort

end Go.Proofs.YtibhpogonkdiaaaGreat
