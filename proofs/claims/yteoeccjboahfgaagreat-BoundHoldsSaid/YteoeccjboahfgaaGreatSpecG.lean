/-
 What the functions return that range over maps: the order in which a map is ranged over does not matter. What iterators yield: lists,collected by models of the same shape. What the steps of a plan are: an iterator that yields pairs of lists. What bound.Groups returns: the counts of the groups,in order.
-/
import Derived.Test.YteoeccjboahfgaaGreatXA
set_option maxRecDepth 100000
namespace Go.Proofs.YteoeccjboahfgaaGreat
open Go.RowKit

theorem J0f (s:Hc) (r:Bool):H50 r (G89 s (fun r_=>r_=r)) (Gd1 s):=by
 unfold G89 Gd1
 refine G60 (fun _=>H1e) (fun _=>?_)
 refine H1f (fun x i s nx nx' hnx=>?_) (fun s=>?_)
 ·refine rel_jp (fun K K' hK=>G60 (fun _=>hK _) (fun _=>hK _)) (fun j=>?_)
  refine G5f (fun v=>H81 (fun v=>G5f (fun q=>?_)))
  exact G60 (fun _=>H1e) (fun _=>hnx _)
 ·refine H1f (fun x i s nx nx' hnx=>?_) (fun s=>?_)
  ·refine G60 (fun _=>H1e) (fun _=>?_)
   refine H1f (fun x i s nx nx' hnx=>?_) (fun s=>hnx _)
   refine G5f (fun v=>G5f (fun v=>?_))
   exact G60 (fun _=>H1e) (fun _=>G5f (fun v=>H81 (fun v=>hnx _)))
  ·exact rel_any (c:=fun x:H8×Int=>decide (1 < x.2)) (e:=false) (e':=true)
abbrev Ya:=Gd1
def G84:=PLift.up (J9a Ya (fun s r h=>J0f s r h))
end Go.Proofs.YteoeccjboahfgaaGreat
set_option maxRecDepth 100000
namespace Go.Proofs.YteoeccjboahfgaaGreat
open Go.RowKit

/-- if the collecting model ends with r, l is a beginning of r, and the checking one accepts -/
def H2a {α:Type} (r l:List α) (m:Option Unit) (g:Option (List α)):Prop:=g=some r→l <+: r∧m=some ()

theorem col_bnd {α β:Type} {r l:List α} {o:Option β} {m:β→Option Unit} {g:β→Option (List α)} (h:∀ v,H2a r l (m v) (g v)):H2a r l (bnd o m) (bnd o g):=by
 cases o with
 | none=>intro e; cases e
 | some v=>exact h v
theorem col_need {α:Type} {r l:List α} {b:Bool} {m:Option Unit} {g:Option (List α)} (h:H2a r l m g):H2a r l (need b m) (need b g):=by
 cases b with
 | false=>intro e; cases e
 | true=>exact h
theorem col_each {α β:Type} {r:List α} {b:β→Nat→Nat→(Nat→Option Unit)→Option Unit} {b':β→Nat→List α→(List α→Option (List α))→Option (List α)} {k:Nat→Option Unit} {k':List α→Option (List α)}
  (hb:∀ x i l nx nx',(∀ l',H2a r l' (nx l'.length) (nx' l'))→H2a r l (b x i l.length nx) (b' x i l nx')) (hk:∀ l,H2a r l (k l.length) (k' l)) (xs:List β):∀ (i:Nat) (l:List α),H2a r l (each b k xs i l.length) (each b' k' xs i l):=by
 induction xs with
 | nil=>intro i l; exact hk l
 | cons x xs ih=>intro i l; exact hb x i l _ _ (fun l'=>ih (i+1) l')
theorem col_upto {α:Type} {r:List α} {b:Nat→Nat→(Nat→Option Unit)→Option Unit} {b':Nat→List α→(List α→Option (List α))→Option (List α)} {k:Nat→Option Unit} {k':List α→Option (List α)}
  (hb:∀ i l nx nx',(∀ l',H2a r l' (nx l'.length) (nx' l'))→H2a r l (b i l.length nx) (b' i l nx')) (hk:∀ l,H2a r l (k l.length) (k' l)) (n:Nat):∀ (i:Nat) (l:List α),H2a r l (upto b k n i l.length) (upto b' k' n i l):=by
 induction n with
 | zero=>intro i l; exact hk l
 | succ n ih=>intro i l; exact hb i l _ _ (fun l'=>ih (i+1) l')
theorem col_yield {α:Type} [DecidableEq α] {r l:List α} {x:α} {m:Option Unit} {g:Option (List α)} (h:H2a r (l++[x]) m g):H2a r l (need (decide (r[l.length]? = some x)) m) g:=by
 intro e
 obtain⟨hp,hm⟩:=h e
 refine⟨(List.prefix_append l [x]).trans hp,?_⟩
 obtain⟨t,rfl⟩:=hp
 have:((l++[x])++t)[l.length]? = some x:=by simp
 unfold need; rw [decide_eq_true this]; exact hm
theorem col_end {α:Type} {r l:List α}:H2a r l (need (decide (l.length=r.length)) (some ())) (some l):=by
 intro e; cases e
 refine⟨List.prefix_refl _,?_⟩
 unfold need; rw [decide_eq_true rfl]; rfl
theorem col_out {α:Type} {r:List α} {m:Option Unit} {g:Option (List α)} (h:H2a r [] m g) (e:g=some r):m=some ():=(h e).2

def G83 (p1:Hc) (p2:Int):Option (List Slot):=
 each (fun y2 i2 (s2:List Slot) nx2=>
  need (decide ((max y2.Tiers 0)≤9223372036854775807)) <|
  upto (fun i8 (s8:List Slot) nx8=>
   bnd (G11 p2) fun r14=>
   each (fun y29 _ (s29:List Slot) nx29=>nx29 (s29++[Slot.mk (i2:Int) (i8:Int) y29]))
   (fun(s29:List Slot)=>nx8 s29) r14 0 s8)
  (fun(s8:List Slot)=>nx2 s8) (max y2.Tiers 0).toNat 0 s2)
 (fun(s2:List Slot)=>some s2) p1.Columns 0 []
def J02:=PLift.up (J06 G83 (fun s size r h=>col_out (by
 unfold G86
 refine col_each (fun y2 i2 s2 nx nx' hnx=>?_) (fun s=>col_end) _ 0 []
 refine col_need (col_upto (fun i8 s8 nx nx' hnx=>?_) (fun s=>hnx _) _ _ _)
 refine col_bnd (fun v=>?_)
 refine col_each (fun y29 i29 s29 nx nx' hnx=>?_) (fun s=>hnx _) _ _ _
 refine col_yield ?_
 have:=hnx (s29++[Slot.mk (i2:Int) (i8:Int) y29])
 rw [List.length_append] at this
 exact this) h))
end Go.Proofs.YteoeccjboahfgaaGreat
set_option maxRecDepth 100000
namespace Go.Proofs.YteoeccjboahfgaaGreat
open Go.RowKit

theorem col_each2 {α β σ:Type} {r:List α} {b:β→Nat→σ×Nat→(σ×Nat→Option Unit)→Option Unit} {b':β→Nat→σ×List α→(σ×List α→Option (List α))→Option (List α)} {k:σ×Nat→Option Unit} {k':σ×List α→Option (List α)}
  (hb:∀ x i t l nx nx',(∀ t' l',H2a r l' (nx (t',l'.length)) (nx' (t',l')))→H2a r l (b x i (t,l.length) nx) (b' x i (t,l) nx')) (hk:∀ t l,H2a r l (k (t,l.length)) (k' (t,l))) (xs:List β):∀ (i:Nat) (t:σ) (l:List α),H2a r l (each b k xs i (t,l.length)) (each b' k' xs i (t,l)):=by
 induction xs with
 | nil=>intro i t l; exact hk t l
 | cons x xs ih=>intro i t l; exact hb x i t l _ _ (fun t' l'=>ih (i+1) t' l')

def G3d (p1:G6a):Option (List (List G7×List G7)):=
 each (fun y23 _ (s23:List G7×List (List G7×List G7)) nx23=>nx23 (y23,s23.2++[(s23.1,y23)]))
 (fun(s23:List G7×List (List G7×List G7))=>some s23.2) p1.States 0 ([],[])
def J03:=PLift.up (J08 G3d (fun p r h=>col_out (by
 unfold G8a
 refine col_each2 (fun y i t l nx nx' hnx=>?_) (fun t l=>col_end) _ 0 [] []
 refine col_yield ?_
 have:=hnx y (l++[(t,y)])
 rw [List.length_append] at this
 exact this) h))

end Go.Proofs.YteoeccjboahfgaaGreat
set_option maxRecDepth 100000
namespace Go.Proofs.YteoeccjboahfgaaGreat
open Go.RowKit Go.Shelf Go.Sort

def Hfd (a b:G2):Int:=
 bif decide (a.Ga.Load < b.Ga.Load) then -1 else bif decide (b.Ga.Load < a.Ga.Load) then 1 else
 bif decide (a.Ga.Discharge < b.Ga.Discharge) then -1 else bif decide (b.Ga.Discharge < a.Ga.Discharge) then 1 else 0
theorem gcmp_model (a b:G2):Y1 a b=some (Hfd a b):=by
 have h1:decide (a.Ga.Load≠a.Ga.Load)=false:=by simp
 have h2:decide (b.Ga.Load≠b.Ga.Load)=false:=by simp
 have h3:decide (a.Ga.Discharge≠a.Ga.Discharge)=false:=by simp
 have h4:decide (b.Ga.Discharge≠b.Ga.Discharge)=false:=by simp
 simp only [Y1,G61,G0a,G2f,bnd,h1,h2,h3,h4,cond_false]
 unfold Hfd
 cases decide (a.Ga.Load < b.Ga.Load) <;> cases decide (b.Ga.Load < a.Ga.Load) <;> cases decide (a.Ga.Discharge < b.Ga.Discharge) <;> cases decide (b.Ga.Discharge < a.Ga.Discharge) <;> rfl
theorem G80 (a b:G2):ltOf Hfd a b=decide (a.Ga.Load < b.Ga.Load∨(a.Ga.Load=b.Ga.Load∧a.Ga.Discharge < b.Ga.Discharge)):=by
 unfold ltOf Hfd
 by_cases h1:a.Ga.Load < b.Ga.Load
 ·simp [h1]
 ·by_cases h2:b.Ga.Load < a.Ga.Load
  ·simp [h1,h2]; omega
  ·have:a.Ga.Load=b.Ga.Load:=by omega
   by_cases h3:a.Ga.Discharge < b.Ga.Discharge
   ·simp [this,h3]
   ·by_cases h4:b.Ga.Discharge < a.Ga.Discharge <;> simp [this,h3,h4]
theorem Hb9:SWO (ltOf Hfd) where
 irrefl x:=by rw [G80]; simp
 trans x y z:=by rw [G80,G80,G80]; simp only [decide_eq_true_eq]; omega
 ntrans x y z:=by rw [G80,G80,G80]; simp only [decide_eq_false_iff_not]; omega

def gins (x:G2):List G2→List G2
 | []=>[x]
 | y::r=>bif ltOf Hfd y x then y::gins x r else x::y::r
def H65:List G2→List G2
 | []=>[]
 | x::r=>gins x (H65 r)
theorem Hfc (x:G2):∀ l,(gins x l).Perm (x::l)
 | []=>.refl _
 | y::r=>by
  unfold gins
  cases ltOf Hfd y x with
  | true=>exact(List.Perm.cons y (Hfc x r)).trans (List.Perm.swap x y r)
  | false=>exact .refl _
theorem H42:∀ l,(H65 l).Perm l
 | []=>.refl _
 | x::r=>(Hfc x _).trans ((H42 r).cons x)
def gle (a b:G2):Prop:=ltOf Hfd b a=false
theorem J2a (x:G2):∀ {l},l.Pairwise gle→(gins x l).Pairwise gle
 | [],_=>by simp [gins]
 | y::r,h=>by
  unfold gins
  cases hc:ltOf Hfd y x with
  | true=>
   refine List.pairwise_cons.2 ⟨fun z hz=>?_,J2a x (List.pairwise_cons.1 h).2⟩
   rcases List.mem_cons.1 ((Hfc x r).mem_iff.1 hz) with rfl | hz
   ·unfold gle
    rw [G80] at hc ⊢
    simp only [decide_eq_true_eq,decide_eq_false_iff_not] at hc ⊢
    omega
   ·exact(List.pairwise_cons.1 h).1 z hz
  | false=>
   refine List.pairwise_cons.2 ⟨fun z hz=>?_,h⟩
   rcases List.mem_cons.1 hz with rfl | hz
   ·exact hc
   ·exact Hb9.ntrans _ _ _ ((List.pairwise_cons.1 h).1 z hz) hc
theorem H41:∀ l,(H65 l).Pairwise gle
 | []=>.nil
 | x::r=>J2a x (H41 r)
theorem gsort_unique {l q:List G2} (hu:∀ a∈l,∀ b∈l,a.Ga=b.Ga→a=b) (hq:q.Perm l):Z5 Hfd q=H65 l:=by
 obtain⟨h1,h2,h3⟩:=J20 Hfd Hb9 q
 refine List.Perm.eq_of_pairwise (le:=gle) (fun a b ha hb hab hba=>?_) ?_ (H41 l) ((h1.trans hq).trans (H42 l).symm)
 ·refine hu a (hq.mem_iff.1 (h1.mem_iff.1 ha)) b ((H42 l).mem_iff.1 hb) ?_
  unfold gle at hab hba
  rw [G80] at hab hba
  simp only [decide_eq_false_iff_not] at hab hba
  obtain⟨⟨al,ad⟩,_,_⟩:=a
  obtain⟨⟨bl,bd⟩,_,_⟩:=b
  simp only at hab hba ⊢
  have e1:al=bl:=by omega
  have e2:ad=bd:=by omega
  rw [e1,e2]
 ·rw [List.pairwise_iff_getElem]
  intro i j hi hj hij
  exact h3 i j hij hj

theorem need_tt {β:Type} {k:Option β}:need true k=k:=rfl
theorem Hd2 {κ ν β:Type} {kx:List ν→Option β}:∀ (q:List (κ×ν)) (s:List ν),((s.length+q.length)*32≤140737488355328∧s.length+q.length≤maxLen) →
  Hb3 (fun(x:κ×ν) (s:List ν) nx=>need (decide ((s.length+[x.2].length)*32≤140737488355328∧s.length+[x.2].length≤maxLen)) <| nx (s++[x.2])) kx q s=kx (s++q.map (·.2))
 | [],s,_=>by simp [Hb3]
 | x::q,s,h=>by
  rw [List.length_cons] at h
  have hd:decide ((s.length+[x.2].length)*32≤140737488355328∧s.length+[x.2].length≤maxLen)=true:=by
   rw [decide_eq_true_eq,List.length_singleton]; omega
  rw [Hb3,hd]
  simp only [need_tt]
  rw [Hd2 q (s++[x.2]) (by rw [List.length_append,List.length_singleton]; omega)]
  simp

theorem rel_eachI {α σ R:Type} {r:R} (I:σ→Prop) {b:α→Nat→σ→(σ→Option Prop)→Option Prop} {b':α→Nat→σ→(σ→Option R)→Option R} {kx:σ→Option Prop} {kx':σ→Option R}
  (h:∀ x i s nx nx',I s→(∀ s,I s→H50 r (nx s) (nx' s))→H50 r (b x i s nx) (b' x i s nx')) (hk:∀ s,I s→H50 r (kx s) (kx' s)):∀ {xs:List α} {i:Nat} {s:σ},I s→H50 r (each b kx xs i s) (each b' kx' xs i s)
 | [],_,s,hs=>hk s hs
 | x::_,i,s,hs=>h x i s _ _ hs (fun _ h2=>rel_eachI I h hk h2)

/-- The counts of the groups of boxes, in order. -/
def Jo (boxes:List Gr):Option (List G2):=
 each (fun y i (s:Gu Ga G2) nx=>
  jp (fun kj=>
   bnd (some (Gu.get s (Ga.mk y.Load y.Discharge) (G2.mk (Ga.mk 0 0) 0 0))) fun v=>
   jp (fun kj2=>
    bif decide (y.Size=40) then (Rn (v.Whole+1) fun w=>kj2 (w,v.Half))
    else (bif decide (y.Size=20) then (Rn (v.Half+1) fun w=>kj2 (v.Whole,w)) else (kj (s,v.Whole,v.Half)))) fun(j:Int×Int)=>
   kj ((Gu.put s (Ga.mk y.Load y.Discharge) (G2.mk (Ga.mk y.Load y.Discharge) j.1 j.2)),j.1,j.2)) fun(j:(Gu Ga G2)×Int×Int)=>
  nx j.1)
 (fun(s:Gu Ga G2)=>need (decide ((Gu.l s).length*32≤140737488355328∧(Gu.l s).length≤maxLen)) <| some (H65 ((Gu.l s).map (·.2)))) boxes 0 (Gu.empty:Gu Ga G2)

/-- The value of each entry bears its key. -/
def GInv (s:Gu Ga G2):Prop:=∀ e∈Gu.l s,e.2.Ga=e.1
theorem mput_mem {κ ν:Type} [DecidableEq κ] {a:κ} {v:ν} {l:List (κ×ν)} {e:κ×ν} (h:e∈G4c l a v):e=(a,v)∨e∈l:=by
 unfold G4c at h
 split at h
 ·obtain⟨p,hp,rfl⟩:=List.mem_map.1 h
  by_cases hpa:p.1=a
  ·rw [if_pos hpa]; exact .inl rfl
  ·rw [if_neg hpa]; exact .inr hp
 ·rcases List.mem_append.1 h with h | h
  ·exact .inr h
  ·exact .inl (List.mem_singleton.1 h)
theorem GInv.put {s:Gu Ga G2} (h:GInv s) (g:Ga) (x y:Int):GInv (Gu.put s g (G2.mk g x y)):=fun e he=>by
 rcases mput_mem (l:=Gu.l s) he with rfl | he
 ·rfl
 ·exact h e he
theorem GInv.unique {s:Gu Ga G2} (h:GInv s):∀ a∈(Gu.l s).map (·.2),∀ b∈(Gu.l s).map (·.2),a.Ga=b.Ga→a=b:=by
 intro a ha b hb hab
 obtain⟨e,he,rfl⟩:=List.mem_map.1 ha
 obtain⟨f,hf,rfl⟩:=List.mem_map.1 hb
 have hk:e.1=f.1:=by rw [← h e he,← h f hf]; exact hab
 have hn:=s.nd
 have:∀ (l:List (Ga×G2)),(l.map (·.1)).Nodup→e∈l→f∈l→e=f:=by
  intro l
  induction l with
  | nil=>intro _ h; simp at h
  | cons x r ih=>
   intro hn he hf
   rw [List.map_cons,List.nodup_cons] at hn
   rcases List.mem_cons.1 he with he1 | he1
   ·rcases List.mem_cons.1 hf with hf1 | hf1
    ·rw [he1,hf1]
    ·exact absurd (List.mem_map.2 ⟨f,hf1,by rw [← hk,he1]⟩) hn.1
   ·rcases List.mem_cons.1 hf with hf1 | hf1
    ·exact absurd (List.mem_map.2 ⟨e,he1,by rw [hk,hf1]⟩) hn.1
    ·exact ih hn.2 he1 hf1
 rw [this _ hn he hf]

theorem Ge6 (boxes:List Gr) (r:List G2):H50 r (Yw boxes (fun r_=>r_=r)) (Jo boxes):=by
 unfold Yw Jo
 refine rel_eachI GInv (fun y i s nx nx' hs hnx=>?_) (fun s hs=>?_) (fun e he=>by cases he)
 ·have hput:∀ K K':(Gu Ga G2)×Int×Int→_,(∀ a,GInv a.1→H50 r (K a) (K' a))→H50 r
    (bnd (some (Gu.get s (Ga.mk y.Load y.Discharge) (G2.mk (Ga.mk 0 0) 0 0))) fun v=>jp (fun kj2=>bif decide (y.Size=40) then (Rn (v.Whole+1) fun w=>kj2 (w,v.Half)) else (bif decide (y.Size=20) then (Rn (v.Half+1) fun w=>kj2 (v.Whole,w)) else (K (s,v.Whole,v.Half)))) fun(j:Int×Int)=>K ((Gu.put s (Ga.mk y.Load y.Discharge) (G2.mk (Ga.mk y.Load y.Discharge) j.1 j.2)),j.1,j.2))
    (bnd (some (Gu.get s (Ga.mk y.Load y.Discharge) (G2.mk (Ga.mk 0 0) 0 0))) fun v=>jp (fun kj2=>bif decide (y.Size=40) then (Rn (v.Whole+1) fun w=>kj2 (w,v.Half)) else (bif decide (y.Size=20) then (Rn (v.Half+1) fun w=>kj2 (v.Whole,w)) else (K' (s,v.Whole,v.Half)))) fun(j:Int×Int)=>K' ((Gu.put s (Ga.mk y.Load y.Discharge) (G2.mk (Ga.mk y.Load y.Discharge) j.1 j.2)),j.1,j.2)):=fun K K' hK=>by
   refine G5f (fun v=>rel_jp (fun J J' hJ=>?_) (fun j=>hK _ (hs.put _ _ _)))
   exact G60 (fun _=>H81 (fun _=>hJ _)) (fun _=>G60 (fun _=>H81 (fun _=>hJ _)) (fun _=>hK _ hs))
  exact hput _ _ (fun a ha=>hnx _ ha)
 ·intro h
  obtain⟨hd,h⟩:=Hz h
  have hd:=of_decide_eq_true hd
  refine⟨_,rfl,fun q hq=>?_⟩
  have hl:=hq.length_eq
  rw [Hd2 q [] (by simp only [List.length_nil,Nat.zero_add,hl]; exact hd)]
  rw [List.nil_append,sortM_eq Hfd gcmp_model Hb9 (by rw [List.length_map,hl]; omega)]
  exact⟨_,rfl,(gsort_unique hs.unique (hq.map _)).trans (Option.some.inj h)⟩
def G44:=PLift.up (J0c Jo (fun b r h=>Ge6 b r h))
def J04:=PLift.up (He3 Jo (fun b r h=>Ge6 b r h))
end Go.Proofs.YteoeccjboahfgaaGreat
