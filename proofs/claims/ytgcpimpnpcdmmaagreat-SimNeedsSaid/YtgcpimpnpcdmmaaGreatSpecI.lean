/-
 What the functions return that range over maps: What iterators yield:
-/
import Derived.Test.YtgcpimpnpcdmmaaGreatXA
set_option maxRecDepth 100000
namespace Go.Proofs.YtgcpimpnpcdmmaaGreat
open Go.RowKit

theorem Q39 (s:Gj) (r:Bool):Rel r (H1d s (fun r_=>r_=r)) (H83 s):=by
 unfold H1d H83
 refine Hc6 (fun _=>Je6) (fun _=>?_)
 refine Je7 (fun x i s nx nx' h0=>?_) (fun s=>?_)
 ·refine Z9d (fun K K' hK=>Hc6 (fun _=>hK _) (fun _=>hK _)) (fun j=>?_)
  refine J78 (fun v=>Y87 (fun v=>J78 (fun q=>?_)))
  exact Hc6 (fun _=>Je6) (fun _=>h0 _)
 ·refine Je7 (fun x i s nx nx' h0=>?_) (fun s=>?_)
  ·refine Hc6 (fun _=>Je6) (fun _=>?_)
   refine Je7 (fun x i s nx nx' h0=>?_) (fun s=>h0 _)
   refine J78 (fun v=>J78 (fun v=>?_))
   exact Hc6 (fun _=>Je6) (fun _=>J78 (fun v=>Y87 (fun v=>h0 _)))
  ·exact Z4f (c:=fun x:Hg×Int=>decide (1 < x.2)) (e:=false) (e':=true)
abbrev Gc5:=H83
def Qfd:=PLift.up (R07 Gc5 (fun s r h=>Q39 s r h))

def J9a {α:Type} (r l:List α) (m:Option Unit) (g:Option (List α)):Prop:=g=some r→l <+: r∧m=some ()

theorem Z65 {α β:Type} {r l:List α} {o:Option β} {m:β→Option Unit} {g:β→Option (List α)} (h:∀ v,J9a r l (m v) (g v)):J9a r l (bnd o m) (bnd o g):=by
 cases o with
 | none=>intro e; cases e
 | some v=>exact h v
theorem Z16 {α:Type} {r l:List α} {b:Bool} {m:Option Unit} {g:Option (List α)} (h:J9a r l m g):J9a r l (need b m) (need b g):=by
 cases b with
 | false=>intro e; cases e
 | true=>exact h
theorem Rea {α β:Type} {r:List α} {b:β→Nat→Nat→(Nat→Option Unit)→Option Unit} {b':β→Nat→List α→(List α→Option (List α))→Option (List α)} {k:Nat→Option Unit} {k':List α→Option (List α)}
  (hb:∀ x i l nx nx',(∀ l',J9a r l' (nx l'.length) (nx' l'))→J9a r l (b x i l.length nx) (b' x i l nx')) (hk:∀ l,J9a r l (k l.length) (k' l)) (xs:List β):∀ (i:Nat) (l:List α),J9a r l (each b k xs i l.length) (each b' k' xs i l):=by
 induction xs with
 | nil=>intro i l; exact hk l
 | cons x xs ih=>intro i l; exact hb x i l _ _ (fun l'=>ih (i+1) l')
theorem Z15 {α:Type} {r:List α} {b:Nat→Nat→(Nat→Option Unit)→Option Unit} {b':Nat→List α→(List α→Option (List α))→Option (List α)} {k:Nat→Option Unit} {k':List α→Option (List α)}
  (hb:∀ i l nx nx',(∀ l',J9a r l' (nx l'.length) (nx' l'))→J9a r l (b i l.length nx) (b' i l nx')) (hk:∀ l,J9a r l (k l.length) (k' l)) (n:Nat):∀ (i:Nat) (l:List α),J9a r l (upto b k n i l.length) (upto b' k' n i l):=by
 induction n with
 | zero=>intro i l; exact hk l
 | succ n ih=>intro i l; exact hb i l _ _ (fun l'=>ih (i+1) l')
theorem Yd1 {α:Type} [DecidableEq α] {r l:List α} {x:α} {m:Option Unit} {g:Option (List α)} (h:J9a r (l++[x]) m g):J9a r l (need (decide (r[l.length]? = some x)) m) g:=by
 intro e
 obtain⟨hp,hm⟩:=h e
 refine⟨(List.prefix_append l [x]).trans hp,?_⟩
 obtain⟨t,rfl⟩:=hp
 have:((l++[x])++t)[l.length]? = some x:=by simp
 unfold need; rw [M4 this]; exact hm
theorem Z64 {α:Type} {r l:List α}:J9a r l (need (decide (l.length=r.length)) (some ())) (some l):=by
 intro e; cases e
 refine⟨List.prefix_refl _,?_⟩
 unfold need; rw [M4 rfl]; rfl
theorem Z63 {α:Type} {r:List α} {m:Option Unit} {g:Option (List α)} (h:J9a r [] m g) (e:g=some r):m=some ():=(h e).2

def H18 (p1:Gj) (p2:Int):Option (List Slot):=
 each (fun y2 i2 (s2:List Slot) nx2=>
  need (decide ((max y2.Tiers 0)≤9223372036854775807)) <|
  upto (fun i8 (s8:List Slot) nx8=>
   bnd (G5d p2) fun r14=>
   each (fun y29 _ (s29:List Slot) nx29=>nx29 (s29++[Slot.mk (i2:Int) (i8:Int) y29]))
   (fun(s29:List Slot)=>nx8 s29) r14 0 s8)
  (fun(s8:List Slot)=>nx2 s8) (max y2.Tiers 0).toNat 0 s2)
 (fun(s2:List Slot)=>some s2) p1.Columns 0 []
def Q2d:=PLift.up (Q30 H18 (fun s size r h=>Z63 (by
 unfold H1a
 refine Rea (fun y2 i2 s2 nx nx' h0=>?_) (fun s=>Z64) _ 0 []
 refine Z16 (Z15 (fun i8 s8 nx nx' h0=>?_) (fun s=>h0 _) _ _ _)
 refine Z65 (fun v=>?_)
 refine Rea (fun y29 i29 s29 nx nx' h0=>?_) (fun s=>h0 _) _ _ _
 refine Yd1 ?_
 have:=h0 (s29++[Slot.mk (i2:Int) (i8:Int) y29])
 rw [Mi] at this
 exact this) h))
end Go.Proofs.YtgcpimpnpcdmmaaGreat
