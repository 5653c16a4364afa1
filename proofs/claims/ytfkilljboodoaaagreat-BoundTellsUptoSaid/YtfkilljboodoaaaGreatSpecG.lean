/-
 What the functions return that range over maps: the order in which a map is ranged over does not matter. What bound.Groups returns: the counts of the groups,in order.
-/
import Derived.Test.YtfkilljboodoaaaGreatXA
set_option maxRecDepth 100000
namespace Go.Proofs.YtfkilljboodoaaaGreat
open Go.RowKit

theorem J19 (s:J0) (r:Bool):H80 r (Gb3 s (fun r_=>r_=r)) (Gf2 s):=by
 unfold Gb3 Gf2
 refine G8d (fun _=>H4b) (fun _=>?_)
 refine H4c (fun x i s nx nx' hnx=>?_) (fun s=>?_)
 ·refine rel_jp (fun K K' hK=>G8d (fun _=>hK _) (fun _=>hK _)) (fun j=>?_)
  refine G8c (fun v=>Hb3 (fun v=>G8c (fun q=>?_)))
  exact G8d (fun _=>H4b) (fun _=>hnx _)
 ·refine H4c (fun x i s nx nx' hnx=>?_) (fun s=>?_)
  ·refine G8d (fun _=>H4b) (fun _=>?_)
   refine H4c (fun x i s nx nx' hnx=>?_) (fun s=>hnx _)
   refine G8c (fun v=>G8c (fun v=>?_))
   exact G8d (fun _=>H4b) (fun _=>G8c (fun v=>Hb3 (fun v=>hnx _)))
  ·exact rel_any (c:=fun x:He×Int=>decide (1 < x.2)) (e:=false) (e':=true)
abbrev G6d:=Gf2
def Haa:=PLift.up (J9e G6d (fun s r h=>J19 s r h))
end Go.Proofs.YtfkilljboodoaaaGreat
set_option maxRecDepth 100000
namespace Go.Proofs.YtfkilljboodoaaaGreat
open Go.RowKit Go.Shelf Go.Sort

def J0c (a b:G2):Int:=
 bif decide (a.G6.Load < b.G6.Load) then -1 else bif decide (b.G6.Load < a.G6.Load) then 1 else
 bif decide (a.G6.Discharge < b.G6.Discharge) then -1 else bif decide (b.G6.Discharge < a.G6.Discharge) then 1 else 0
theorem gcmp_model (a b:G2):Z4 a b=some (J0c a b):=by
 have h1:decide (a.G6.Load≠a.G6.Load)=false:=by simp
 have h2:decide (b.G6.Load≠b.G6.Load)=false:=by simp
 have h3:decide (a.G6.Discharge≠a.G6.Discharge)=false:=by simp
 have h4:decide (b.G6.Discharge≠b.G6.Discharge)=false:=by simp
 simp only [Z4,G8f,G34,G52,bnd,h1,h2,h3,h4,cond_false]
 unfold J0c
 cases decide (a.G6.Load < b.G6.Load) <;> cases decide (b.G6.Load < a.G6.Load) <;> cases decide (a.G6.Discharge < b.G6.Discharge) <;> cases decide (b.G6.Discharge < a.G6.Discharge) <;> rfl
theorem Gaf (a b:G2):ltOf J0c a b=decide (a.G6.Load < b.G6.Load∨(a.G6.Load=b.G6.Load∧a.G6.Discharge < b.G6.Discharge)):=by
 unfold ltOf J0c
 by_cases h1:a.G6.Load < b.G6.Load
 ·simp [h1]
 ·by_cases h2:b.G6.Load < a.G6.Load
  ·simp [h1,h2]; omega
  ·have:a.G6.Load=b.G6.Load:=by omega
   by_cases h3:a.G6.Discharge < b.G6.Discharge
   ·simp [this,h3]
   ·by_cases h4:b.G6.Discharge < a.G6.Discharge <;> simp [this,h3,h4]
theorem Hd2:SWO (ltOf J0c) where
 irrefl x:=by rw [Gaf]; simp
 trans x y z:=by rw [Gaf,Gaf,Gaf]; simp only [decide_eq_true_eq]; omega
 ntrans x y z:=by rw [Gaf,Gaf,Gaf]; simp only [decide_eq_false_iff_not]; omega

def gins (x:G2):List G2→List G2
 | []=>[x]
 | y::r=>bif ltOf J0c y x then y::gins x r else x::y::r
def Ha3:List G2→List G2
 | []=>[]
 | x::r=>gins x (Ha3 r)
theorem J0b (x:G2):∀ l,(gins x l).Perm (x::l)
 | []=>.refl _
 | y::r=>by
  unfold gins
  cases ltOf J0c y x with
  | true=>exact(List.Perm.cons y (J0b x r)).trans (List.Perm.swap x y r)
  | false=>exact .refl _
theorem H0a:∀ l,(Ha3 l).Perm l
 | []=>.refl _
 | x::r=>(J0b x _).trans ((H0a r).cons x)
def gle (a b:G2):Prop:=ltOf J0c b a=false
theorem J44 (x:G2):∀ {l},l.Pairwise gle→(gins x l).Pairwise gle
 | [],_=>by simp [gins]
 | y::r,h=>by
  unfold gins
  cases hc:ltOf J0c y x with
  | true=>
   refine List.pairwise_cons.2 ⟨fun z hz=>?_,J44 x (List.pairwise_cons.1 h).2⟩
   rcases List.mem_cons.1 ((J0b x r).mem_iff.1 hz) with rfl | hz
   ·unfold gle
    rw [Gaf] at hc ⊢
    simp only [decide_eq_true_eq,decide_eq_false_iff_not] at hc ⊢
    omega
   ·exact(List.pairwise_cons.1 h).1 z hz
  | false=>
   refine List.pairwise_cons.2 ⟨fun z hz=>?_,h⟩
   rcases List.mem_cons.1 hz with rfl | hz
   ·exact hc
   ·exact Hd2.ntrans _ _ _ ((List.pairwise_cons.1 h).1 z hz) hc
theorem H73:∀ l,(Ha3 l).Pairwise gle
 | []=>.nil
 | x::r=>J44 x (H73 r)
theorem gsort_unique {l q:List G2} (hu:∀ a∈l,∀ b∈l,a.G6=b.G6→a=b) (hq:q.Perm l):G0d J0c q=Ha3 l:=by
 obtain⟨h1,h2,h3⟩:=J38 J0c Hd2 q
 refine List.Perm.eq_of_pairwise (le:=gle) (fun a b ha hb hab hba=>?_) ?_ (H73 l) ((h1.trans hq).trans (H0a l).symm)
 ·refine hu a (hq.mem_iff.1 (h1.mem_iff.1 ha)) b ((H0a l).mem_iff.1 hb) ?_
  unfold gle at hab hba
  rw [Gaf] at hab hba
  simp only [decide_eq_false_iff_not] at hab hba
  obtain⟨⟨al,ad⟩,_,_⟩:=a
  obtain⟨⟨bl,bd⟩,_,_⟩:=b
  simp only at hab hba ⊢
  have e1:al=bl:=by omega
  have e2:ad=bd:=by omega
  rw [e1,e2]
 ·rw [List.pairwise_iff_getElem]
  intro i j hi hj hij
  exact h3 i j hij hj

theorem need_tt {β:Type} {k:Option β}:need true k=k:=rfl
theorem He2 {κ ν β:Type} {kx:List ν→Option β}:∀ (q:List (κ×ν)) (s:List ν),((s.length+q.length)*32≤140737488355328∧s.length+q.length≤maxLen) →
  Hcc (fun(x:κ×ν) (s:List ν) nx=>need (decide ((s.length+[x.2].length)*32≤140737488355328∧s.length+[x.2].length≤maxLen)) <| nx (s++[x.2])) kx q s=kx (s++q.map (·.2))
 | [],s,_=>by simp [Hcc]
 | x::q,s,h=>by
  rw [List.length_cons] at h
  have hd:decide ((s.length+[x.2].length)*32≤140737488355328∧s.length+[x.2].length≤maxLen)=true:=by
   rw [decide_eq_true_eq,List.length_singleton]; omega
  rw [Hcc,hd]
  simp only [need_tt]
  rw [He2 q (s++[x.2]) (by rw [List.length_append,List.length_singleton]; omega)]
  simp

theorem rel_eachI {α σ R:Type} {r:R} (I:σ→Prop) {b:α→Nat→σ→(σ→Option Prop)→Option Prop} {b':α→Nat→σ→(σ→Option R)→Option R} {kx:σ→Option Prop} {kx':σ→Option R}
  (h:∀ x i s nx nx',I s→(∀ s,I s→H80 r (nx s) (nx' s))→H80 r (b x i s nx) (b' x i s nx')) (hk:∀ s,I s→H80 r (kx s) (kx' s)):∀ {xs:List α} {i:Nat} {s:σ},I s→H80 r (each b kx xs i s) (each b' kx' xs i s)
 | [],_,s,hs=>hk s hs
 | x::_,i,s,hs=>h x i s _ _ hs (fun _ h2=>rel_eachI I h hk h2)

/-- The counts of the groups of boxes, in order. -/
def Qp (boxes:List H4):Option (List G2):=
 each (fun y i (s:Hh G6 G2) nx=>
  jp (fun kj=>
   bnd (some (Hh.get s (G6.mk y.Load y.Discharge) (G2.mk (G6.mk 0 0) 0 0))) fun v=>
   jp (fun kj2=>
    bif decide (y.Size=40) then (Rm (v.Whole+1) fun w=>kj2 (w,v.Half))
    else (bif decide (y.Size=20) then (Rm (v.Half+1) fun w=>kj2 (v.Whole,w)) else (kj (s,v.Whole,v.Half)))) fun(j:Int×Int)=>
   kj ((Hh.put s (G6.mk y.Load y.Discharge) (G2.mk (G6.mk y.Load y.Discharge) j.1 j.2)),j.1,j.2)) fun(j:(Hh G6 G2)×Int×Int)=>
  nx j.1)
 (fun(s:Hh G6 G2)=>need (decide ((Hh.l s).length*32≤140737488355328∧(Hh.l s).length≤maxLen)) <| some (Ha3 ((Hh.l s).map (·.2)))) boxes 0 (Hh.empty:Hh G6 G2)

/-- The value of each entry bears its key. -/
def GInv (s:Hh G6 G2):Prop:=∀ e∈Hh.l s,e.2.G6=e.1
theorem mput_mem {κ ν:Type} [DecidableEq κ] {a:κ} {v:ν} {l:List (κ×ν)} {e:κ×ν} (h:e∈G97 l a v):e=(a,v)∨e∈l:=by
 unfold G97 at h
 split at h
 ·obtain⟨p,hp,rfl⟩:=List.mem_map.1 h
  by_cases hpa:p.1=a
  ·rw [if_pos hpa]; exact .inl rfl
  ·rw [if_neg hpa]; exact .inr hp
 ·rcases List.mem_append.1 h with h | h
  ·exact .inr h
  ·exact .inl (List.mem_singleton.1 h)
theorem GInv.put {s:Hh G6 G2} (h:GInv s) (g:G6) (x y:Int):GInv (Hh.put s g (G2.mk g x y)):=fun e he=>by
 rcases mput_mem (l:=Hh.l s) he with rfl | he
 ·rfl
 ·exact h e he
theorem GInv.unique {s:Hh G6 G2} (h:GInv s):∀ a∈(Hh.l s).map (·.2),∀ b∈(Hh.l s).map (·.2),a.G6=b.G6→a=b:=by
 intro a ha b hb hab
 obtain⟨e,he,rfl⟩:=List.mem_map.1 ha
 obtain⟨f,hf,rfl⟩:=List.mem_map.1 hb
 have hk:e.1=f.1:=by rw [← h e he,← h f hf]; exact hab
 have hn:=s.nd
 have:∀ (l:List (G6×G2)),(l.map (·.1)).Nodup→e∈l→f∈l→e=f:=by
  intro l
  induction l with
  | nil=>intro _ h; simp at h
  | cons x r ih=>
   intro hn he hf
   rw [List.map_cons,List.nodup_cons] at hn
   rcases List.mem_cons.1 he with he1 | he1
   ·rcases List.mem_cons.1 hf with hf1 | hf1
    ·rw [he1,hf1]
    ·exact absurd (List.mem_map.2 ⟨f,hf1,by rw [← hk,he1]⟩) hn.1
   ·rcases List.mem_cons.1 hf with hf1 | hf1
    ·exact absurd (List.mem_map.2 ⟨e,he1,by rw [hk,hf1]⟩) hn.1
    ·exact ih hn.2 he1 hf1
 rw [this _ hn he hf]

theorem H0f (boxes:List H4) (r:List G2):H80 r (G04 boxes (fun r_=>r_=r)) (Qp boxes):=by
 unfold G04 Qp
 refine rel_eachI GInv (fun y i s nx nx' hs hnx=>?_) (fun s hs=>?_) (fun e he=>by cases he)
 ·have hput:∀ K K':(Hh G6 G2)×Int×Int→_,(∀ a,GInv a.1→H80 r (K a) (K' a))→H80 r
    (bnd (some (Hh.get s (G6.mk y.Load y.Discharge) (G2.mk (G6.mk 0 0) 0 0))) fun v=>jp (fun kj2=>bif decide (y.Size=40) then (Rm (v.Whole+1) fun w=>kj2 (w,v.Half)) else (bif decide (y.Size=20) then (Rm (v.Half+1) fun w=>kj2 (v.Whole,w)) else (K (s,v.Whole,v.Half)))) fun(j:Int×Int)=>K ((Hh.put s (G6.mk y.Load y.Discharge) (G2.mk (G6.mk y.Load y.Discharge) j.1 j.2)),j.1,j.2))
    (bnd (some (Hh.get s (G6.mk y.Load y.Discharge) (G2.mk (G6.mk 0 0) 0 0))) fun v=>jp (fun kj2=>bif decide (y.Size=40) then (Rm (v.Whole+1) fun w=>kj2 (w,v.Half)) else (bif decide (y.Size=20) then (Rm (v.Half+1) fun w=>kj2 (v.Whole,w)) else (K' (s,v.Whole,v.Half)))) fun(j:Int×Int)=>K' ((Hh.put s (G6.mk y.Load y.Discharge) (G2.mk (G6.mk y.Load y.Discharge) j.1 j.2)),j.1,j.2)):=fun K K' hK=>by
   refine G8c (fun v=>rel_jp (fun J J' hJ=>?_) (fun j=>hK _ (hs.put _ _ _)))
   exact G8d (fun _=>Hb3 (fun _=>hJ _)) (fun _=>G8d (fun _=>Hb3 (fun _=>hJ _)) (fun _=>hK _ hs))
  exact hput _ _ (fun a ha=>hnx _ ha)
 ·intro h
  obtain⟨hd,h⟩:=Hr h
  have hd:=of_decide_eq_true hd
  refine⟨_,rfl,fun q hq=>?_⟩
  have hl:=hq.length_eq
  rw [He2 q [] (by simp only [List.length_nil,Nat.zero_add,hl]; exact hd)]
  rw [List.nil_append,sortM_eq J0c gcmp_model Hd2 (by rw [List.length_map,hl]; omega)]
  exact⟨_,rfl,(gsort_unique hs.unique (hq.map _)).trans (Option.some.inj h)⟩
def G6e:=PLift.up (J15 Qp (fun b r h=>H0f b r h))
def J13:=PLift.up (Hf0 Qp (fun b r h=>H0f b r h))
end Go.Proofs.YtfkilljboodoaaaGreat
