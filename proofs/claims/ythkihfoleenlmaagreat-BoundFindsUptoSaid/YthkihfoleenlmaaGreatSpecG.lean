/-
 What the functions return that range over maps: What bound.Groups returns:
-/
import Derived.Test.YthkihfoleenlmaaGreatXA
set_option maxRecDepth 100000
namespace Go.Proofs.YthkihfoleenlmaaGreat
open Go.RowKit

theorem GQ (s:H2) (r:Bool):Rel r (jP s (fun r_=>r_=r)) (mV s):=by
 unfold jP mV
 refine gV (fun _=>qO) (fun _=>?_)
 refine qP (fun x i s nx nx' h0=>?_) (fun s=>?_)
 ·refine Hb2 (fun K K' hK=>gV (fun _=>hK _) (fun _=>hK _)) (fun j=>?_)
  refine gU (fun v=>uV (fun v=>gU (fun q=>?_)))
  exact gV (fun _=>qO) (fun _=>h0 _)
 ·refine qP (fun x i s nx nx' h0=>?_) (fun s=>?_)
  ·refine gV (fun _=>qO) (fun _=>?_)
   refine qP (fun x i s nx nx' h0=>?_) (fun s=>h0 _)
   refine gU (fun v=>gU (fun v=>?_))
   exact gV (fun _=>qO) (fun _=>gU (fun v=>uV (fun v=>h0 _)))
  ·exact H53 (c:=fun x:Hc×Int=>decide (1 < x.2)) (e:=false) (e':=true)
abbrev jM:=mV
def uN:=PLift.up (ZD jM (fun s r h=>GQ s r h))
open Go.RowKit Go.Shelf Go.Sort

def GB (a b:G1):Int:=
 bif decide (a.G5.Load < b.G5.Load) then -1 else bif decide (b.G5.Load < a.G5.Load) then 1 else
 bif decide (a.G5.Discharge < b.G5.Discharge) then -1 else bif decide (b.G5.Discharge < a.G5.Discharge) then 1 else 0
theorem H37 (a b:G1):Ze a b=some (GB a b):=by
 have h1:decide (a.G5.Load≠a.G5.Load)=false:=by simp
 have h2:decide (b.G5.Load≠b.G5.Load)=false:=by simp
 have h3:decide (a.G5.Discharge≠a.G5.Discharge)=false:=by simp
 have h4:decide (b.G5.Discharge≠b.G5.Discharge)=false:=by simp
 simp only [Ze,gX,cQ,eM,bnd,h1,h2,h3,h4,cond_false]
 unfold GB
 cases decide (a.G5.Load < b.G5.Load) <;> cases decide (b.G5.Load < a.G5.Load) <;> cases decide (a.G5.Discharge < b.G5.Discharge) <;> cases decide (b.G5.Discharge < a.G5.Discharge) <;> rfl
theorem jK (a b:G1):ltOf GB a b=decide (a.G5.Load < b.G5.Load∨(a.G5.Load=b.G5.Load∧a.G5.Discharge < b.G5.Discharge)):=by
 unfold ltOf GB
 by_cases h1:a.G5.Load < b.G5.Load
 ·simp [h1]
 ·by_cases h2:b.G5.Load < a.G5.Load
  ·simp [h1,h2]; omega
  ·have:a.G5.Load=b.G5.Load:=by omega
   by_cases h3:a.G5.Discharge < b.G5.Discharge
   ·simp [this,h3]
   ·by_cases h4:b.G5.Discharge < a.G5.Discharge <;> simp [this,h3,h4]
theorem wX:SWO (ltOf GB) where
 irrefl x:=by rw [jK]; simp
 trans x y z:=by rw [jK,jK,jK]; simp only [P8]; omega
 ntrans x y z:=by rw [jK,jK,jK]; simp only [decide_eq_false_iff_not]; omega

def H36 (x:G1):List G1→List G1
 | []=>[x]
 | y::r=>bif ltOf GB y x then y::H36 x r else x::y::r
def uD:List G1→List G1
 | []=>[]
 | x::r=>H36 x (uD r)
theorem GA (x:G1):∀ l,(H36 x l).Perm (x::l)
 | []=>.refl _
 | y::r=>by
  unfold H36
  cases ltOf GB y x with
  | true=>exact(List.Perm.cons y (GA x r)).trans (List.Perm.swap x y r)
  | false=>exact .refl _
theorem nW:∀ l,(uD l).Perm l
 | []=>.refl _
 | x::r=>(GA x _).trans ((nW r).cons x)
def gle (a b:G1):Prop:=ltOf GB b a=false
theorem JQ (x:G1):∀ {l},l.Pairwise gle→(H36 x l).Pairwise gle
 | [],_=>by simp [H36]
 | y::r,h=>by
  unfold H36
  cases hc:ltOf GB y x with
  | true=>
   refine List.pairwise_cons.2 ⟨fun z hz=>?_,JQ x (List.pairwise_cons.1 h).2⟩
   rcases Pd.1 ((GA x r).mem_iff.1 hz) with rfl | hz
   ·unfold gle
    rw [jK] at hc ⊢
    simp only [P8,decide_eq_false_iff_not] at hc ⊢
    omega
   ·exact(List.pairwise_cons.1 h).1 z hz
  | false=>
   refine List.pairwise_cons.2 ⟨fun z hz=>?_,h⟩
   rcases Pd.1 hz with rfl | hz
   ·exact hc
   ·exact wX.ntrans _ _ _ ((List.pairwise_cons.1 h).1 z hz) hc
theorem sJ:∀ l,(uD l).Pairwise gle
 | []=>.nil
 | x::r=>JQ x (sJ r)
theorem G57 {l q:List G1} (hu:∀ a∈l,∀ b∈l,a.G5=b.G5→a=b) (hq:q.Perm l):bA GB q=uD l:=by
 obtain⟨h1,h2,h3⟩:=HV GB wX q
 refine List.Perm.eq_of_pairwise (le:=gle) (fun a b ha hb h0 h4=>?_) ?_ (sJ l) ((h1.trans hq).trans (nW l).symm)
 ·refine hu a (hq.mem_iff.1 (h1.mem_iff.1 ha)) b ((nW l).mem_iff.1 hb) ?_
  unfold gle at h0 h4
  rw [jK] at h0 h4
  simp only [decide_eq_false_iff_not] at h0 h4
  obtain⟨⟨al,ad⟩,_,_⟩:=a
  obtain⟨⟨bl,bd⟩,_,_⟩:=b
  simp only at h0 h4 ⊢
  have e1:al=bl:=by omega
  have e2:ad=bd:=by omega
  rw [e1,e2]
 ·rw [List.pairwise_iff_getElem]
  intro i j hi hj h5
  exact h3 i j h5 hj

theorem H5b {β:Type} {k:Option β}:need true k=k:=rfl
theorem xS {κ ν β:Type} {kx:List ν→Option β}:∀ (q:List (κ×ν)) (s:List ν),((s.length+q.length)*32≤140737488355328∧s.length+q.length≤maxLen) →
  wP (fun(x:κ×ν) (s:List ν) nx=>need (decide ((s.length+[x.2].length)*32≤140737488355328∧s.length+[x.2].length≤maxLen)) <| nx (s++[x.2])) kx q s=kx (s++q.map (·.2))
 | [],s,_=>by simp [wP]
 | x::q,s,h=>by
  rw [P1] at h
  have hd:decide ((s.length+[x.2].length)*32≤140737488355328∧s.length+[x.2].length≤maxLen)=true:=by
   rw [P8,P6]; omega
  rw [wP,hd]
  simp only [H5b]
  rw [xS q (s++[x.2]) (by rw [P5,P6]; omega)]
  simp

theorem G2a {α σ R:Type} {r:R} (I:σ→Prop) {b:α→Nat→σ→(σ→Option Prop)→Option Prop} {b':α→Nat→σ→(σ→Option R)→Option R} {kx:σ→Option Prop} {kx':σ→Option R}
  (h:∀ x i s nx nx',I s→(∀ s,I s→Rel r (nx s) (nx' s))→Rel r (b x i s nx) (b' x i s nx')) (hk:∀ s,I s→Rel r (kx s) (kx' s)):∀ {xs:List α} {i:Nat} {s:σ},I s→Rel r (each b kx xs i s) (each b' kx' xs i s)
 | [],_,s,hs=>hk s hs
 | x::_,i,s,hs=>h x i s _ _ hs (fun _ h2=>G2a I h hk h2)

def R8 (bx:List Box):Option (List G1):=
 each (fun y i (s:Hj G5 G1) nx=>
  jp (fun kj=>
   bnd (some (Hj.get s (G5.mk y.Load y.Discharge) (G1.mk (G5.mk 0 0) 0 0))) fun v=>
   jp (fun kj2=>
    bif decide (y.Size=40) then (chk (v.Whole+1) fun w=>kj2 (w,v.Half))
    else (bif decide (y.Size=20) then (chk (v.Half+1) fun w=>kj2 (v.Whole,w)) else (kj (s,v.Whole,v.Half)))) fun(j:Int×Int)=>
   kj ((Hj.put s (G5.mk y.Load y.Discharge) (G1.mk (G5.mk y.Load y.Discharge) j.1 j.2)),j.1,j.2)) fun(j:(Hj G5 G1)×Int×Int)=>
  nx j.1)
 (fun(s:Hj G5 G1)=>need (decide ((Hj.l s).length*32≤140737488355328∧(Hj.l s).length≤maxLen)) <| some (uD ((Hj.l s).map (·.2)))) bx 0 (Hj.empty:Hj G5 G1)

def GInv (s:Hj G5 G1):Prop:=∀ e∈Hj.l s,e.2.G5=e.1
theorem Hbf {κ ν:Type} [DecidableEq κ] {a:κ} {v:ν} {l:List (κ×ν)} {e:κ×ν} (h:e∈iE l a v):e=(a,v)∨e∈l:=by
 unfold iE at h
 split at h
 ·obtain⟨p,hp,rfl⟩:=Pb.1 h
  by_cases h0:p.1=a
  ·rw [if_pos h0]; exact .inl rfl
  ·rw [if_neg h0]; exact .inr hp
 ·rcases Pa.1 h with h | h
  ·exact .inr h
  ·exact .inl (Pc.1 h)
theorem GInv.put {s:Hj G5 G1} (h:GInv s) (g:G5) (x y:Int):GInv (Hj.put s g (G1.mk g x y)):=fun e he=>by
 rcases Hbf (l:=Hj.l s) he with rfl | he
 ·rfl
 ·exact h e he
theorem GInv.unique {s:Hj G5 G1} (h:GInv s):∀ a∈(Hj.l s).map (·.2),∀ b∈(Hj.l s).map (·.2),a.G5=b.G5→a=b:=by
 intro a ha b hb h2
 obtain⟨e,he,rfl⟩:=Pb.1 ha
 obtain⟨f,hf,rfl⟩:=Pb.1 hb
 have hk:e.1=f.1:=by rw [← h e he,← h f hf]; exact h2
 have hn:=s.nd
 have:∀ (l:List (G5×G1)),(l.map (·.1)).Nodup→e∈l→f∈l→e=f:=by
  intro l
  induction l with
  | nil=>intro _ h; simp at h
  | cons x r ih=>
   intro hn he hf
   rw [List.map_cons,List.nodup_cons] at hn
   rcases Pd.1 he with h1 | h1
   ·rcases Pd.1 hf with h0 | h0
    ·rw [h1,h0]
    ·exact absurd (Pb.2 ⟨f,h0,by rw [← hk,h1]⟩) hn.1
   ·rcases Pd.1 hf with h0 | h0
    ·exact absurd (Pb.2 ⟨e,h1,by rw [hk,h0]⟩) hn.1
    ·exact ih hn.2 h1 h0
 rw [this _ hn he hf]

theorem oC (bx:List Box) (r:List G1):Rel r (aS bx (fun r_=>r_=r)) (R8 bx):=by
 unfold aS R8
 refine G2a GInv (fun y i s nx nx' hs h1=>?_) (fun s hs=>?_) (fun e he=>by cases he)
 ·have h0:∀ K K':(Hj G5 G1)×Int×Int→_,(∀ a,GInv a.1→Rel r (K a) (K' a))→Rel r
    (bnd (some (Hj.get s (G5.mk y.Load y.Discharge) (G1.mk (G5.mk 0 0) 0 0))) fun v=>jp (fun kj2=>bif decide (y.Size=40) then (chk (v.Whole+1) fun w=>kj2 (w,v.Half)) else (bif decide (y.Size=20) then (chk (v.Half+1) fun w=>kj2 (v.Whole,w)) else (K (s,v.Whole,v.Half)))) fun(j:Int×Int)=>K ((Hj.put s (G5.mk y.Load y.Discharge) (G1.mk (G5.mk y.Load y.Discharge) j.1 j.2)),j.1,j.2))
    (bnd (some (Hj.get s (G5.mk y.Load y.Discharge) (G1.mk (G5.mk 0 0) 0 0))) fun v=>jp (fun kj2=>bif decide (y.Size=40) then (chk (v.Whole+1) fun w=>kj2 (w,v.Half)) else (bif decide (y.Size=20) then (chk (v.Half+1) fun w=>kj2 (v.Whole,w)) else (K' (s,v.Whole,v.Half)))) fun(j:Int×Int)=>K' ((Hj.put s (G5.mk y.Load y.Discharge) (G1.mk (G5.mk y.Load y.Discharge) j.1 j.2)),j.1,j.2)):=fun K K' hK=>by
   refine gU (fun v=>Hb2 (fun J J' hJ=>?_) (fun j=>hK _ (hs.put _ _ _)))
   exact gV (fun _=>uV (fun _=>hJ _)) (fun _=>gV (fun _=>uV (fun _=>hJ _)) (fun _=>hK _ hs))
  exact h0 _ _ (fun a ha=>h1 _ ha)
 ·intro h
  obtain⟨hd,h⟩:=J2 h
  have hd:=Np hd
  refine⟨_,rfl,fun q hq=>?_⟩
  have hl:=hq.length_eq
  rw [xS q [] (by simp only [List.length_nil,Nat.zero_add,hl]; exact hd)]
  rw [List.nil_append,Hae GB H37 wX (by rw [P9,hl]; omega)]
  exact⟨_,rfl,(G57 hs.unique (hq.map _)).trans (Nv h)⟩
def kJ:=PLift.up (GM R8 (fun b r h=>oC b r h))
def GK:=PLift.up (yT R8 (fun b r h=>oC b r h))
end Go.Proofs.YthkihfoleenlmaaGreat
