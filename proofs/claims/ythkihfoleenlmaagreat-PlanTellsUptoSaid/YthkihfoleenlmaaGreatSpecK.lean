/-
 What the functions return that range over maps: What iterators yield:
-/
import Derived.Test.YthkihfoleenlmaaGreatXA
set_option maxRecDepth 100000
namespace Go.Proofs.YthkihfoleenlmaaGreat
open Go.RowKit

theorem JU (s:Gq) (r:Bool):Rel r (kU s (fun r_=>r_=r)) (oJ s):=by
 unfold kU oJ
 refine rA (fun _=>GK) (fun _=>?_)
 refine GL (fun x i s nx nx' h0=>?_) (fun s=>?_)
 .refine Je1 (fun K K' hK=>rA (fun _=>hK _) (fun _=>hK _)) (fun j=>?_)
  refine xG (fun v=>Hb3 (fun v=>xG (fun q=>?_)))
  exact rA (fun _=>GK) (fun _=>h0 _)
 .refine GL (fun x i s nx nx' h0=>?_) (fun s=>?_)
  .refine rA (fun _=>GK) (fun _=>?_)
   refine GL (fun x i s nx nx' h0=>?_) (fun s=>h0 _)
   refine xG (fun v=>xG (fun v=>?_))
   exact rA (fun _=>GK) (fun _=>xG (fun v=>Hb3 (fun v=>h0 _)))
  .exact J8f (c:=fun x:Hk×Int=>decide (1 < x.2)) (e:=false) (e':=true)
abbrev fI:=oJ
def wX:=PLift.up (G33 fI (fun s r h=>JU s r h))

def tJ {J:Type} (r l:List J) (m:Option Unit) (g:Option (List J)):Prop:=g=some r→l <+: r/\m=some ()

theorem J01 {J:Type} [DecidableEq J] {r l:List J} {x:J} {m:Option Unit} {g:Option (List J)} (h:tJ r (l++[x]) m g):tJ r l (need (decide (r[l.length]? = some x)) m) g:=by
 intro e
 obtain⟨hp,hm⟩:=h e
 refine⟨(List.prefix_append l [x]).trans hp,?_⟩
 obtain⟨t,rfl⟩:=hp
 have:((l++[x])++t)[l.length]? = some x:=by simp
 unfold need; rw [P8 this]; exact hm
theorem Ja0 {J:Type} {r l:List J}:tJ r l (need (decide (l.length=r.length)) (some ())) (some l):=by
 intro e; cases e
 refine⟨List.prefix_refl _,?_⟩
 unfold need; rw [P8 rfl]; rfl
theorem J9f {J:Type} {r:List J} {m:Option Unit} {g:Option (List J)} (h:tJ r [] m g) (e:g=some r):m=some ():=(h e).2

theorem J03 {J β W:Type} {r:List J} {b:β→Nat→W×Nat→(W×Nat→Option Unit)→Option Unit} {b':β→Nat→W×List J→(W×List J→Option (List J))→Option (List J)} {k:W×Nat→Option Unit} {k':W×List J→Option (List J)}
  (hb:∀ x i t l nx nx',(∀ t' l',tJ r l' (nx (t',l'.length)) (nx' (t',l')))→tJ r l (b x i (t,l.length) nx) (b' x i (t,l) nx')) (hk:∀ t l,tJ r l (k (t,l.length)) (k' (t,l))) (xs:List β):∀ (i:Nat) (t:W) (l:List J),tJ r l (each b k xs i (t,l.length)) (each b' k' xs i (t,l)):=by
 induction xs with
 | nil=>intro i t l; exact hk t l
 | cons x xs ih=>intro i t l; exact hb x i t l _ _ (fun t' l'=>ih (i+1) t' l')

def gR (p1:Ya):Option (List (List G2×List G2)):=
 each (fun y23 _ (s23:List G2×List (List G2×List G2)) nx23=>nx23 (y23,s23.2++[(s23.1,y23)]))
 (fun(s23:List G2×List (List G2×List G2))=>some s23.2) p1.States 0 ([],[])
def JP:=PLift.up (JS gR (fun p r h=>J9f (by
 unfold kV
 refine J03 (fun y i t l nx nx' h0=>?_) (fun t l=>Ja0) _ 0 [] []
 refine J01 ?_
 have:=h0 y (l++[(t,y)])
 rw [Pn] at this
 exact this) h))

end Go.Proofs.YthkihfoleenlmaaGreat
