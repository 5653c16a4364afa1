/-
 SearchWrong: SearchWrong. What is lf between two states (LiftT behind the search's tex The restows between two states: Restows between right states. Restows aQ a total function;
-/
import Derived.Test.YtibhpogonkdiaaaGreatSeaO
import Derived.Test.YtibhpogonkdiaaaGreatXX
set_option linter.unusedVariables false
set_option linter.unusedSimpArgs false
set_option linter.unnecessarySimpa false
set_option maxRecDepth 100000
namespace Go.Proofs.YtibhpogonkdiaaaGreat
open Go.RowKit

def two:List Box:=[(Box.mk 2 ByteArray.empty 40 false 0 0 1 0 false),(Box.mk 4 ByteArray.empty 20 false 0 0 1 0 false)]

theorem wp_loop {β σ:Type} {Q:β→Prop} (I:σ→Prop) (μ:σ→Nat) {b:(σ→Option β)→σ→Option β} {F:Nat} {s:σ} (h0:I s) (hF:μ s < F)
  (hb:∀ s nx,I s→(∀ s',I s'→μ s' < μ s→Wp (nx s') Q)→Wp (b nx s) Q):Wp (loop b F s) Q:=by
 induction F generalizing s with
 | zero=>omega
 | succ F ih=>
  rw [loop]
  exact hb s _ h0 (fun s' h1 h2=>ih h1 (by omega))
def one:List Box:=[(Box.mk 2 ByteArray.empty 40 false 0 0 1 0 false)]
theorem G89.small {s:Gb} (h:G89 s):Ge9 s:=⟨h.right,h.few,fun c hc=>by have:=h.low c hc; omega⟩
theorem G89.flat {s:Gb} (h:G89 s):∀ c∈s.Columns,c.Height≤0:=fun c hc=>by have:=(h.built.cols.each c hc).height; omega

section maps
variable {κ ν:Type} [DecidableEq κ]
theorem Jdd (a:κ):Gt.has (Gt.empty:Gt κ ν) a=false:=rfl
theorem Q6c (m:Gt κ ν) (a b:κ) (v:ν):Gt.has (Gt.put m a v) b=(decide (a=b)||Gt.has m b):=by
 unfold Gt.has Gt.put
 have h:=G93 (l:=Ge7 m.l a v) (a:=b)
 have h2:=G93 (l:=m.l) (a:=b)
 rw [← h,H01]
 by_cases e:a=b
 ·simp [e]
 ·simp [e,h2]
end maps
theorem J6e {α:Type} {l:List α} {wanted:α→Option Bool} {p:α→Bool} (hw:∀ x∈l,wanted x=some (p x)) (hl:l.length≤1000000) :
  each (fun y i (s:List Int) nx=>jp (fun kj=>bnd (wanted y) fun r=>bif r then (need (decide ((s.length+[(i:Int)].length)*8≤140737488355328∧s.length+[(i:Int)].length≤maxLen)) <| kj (s++[(i:Int)])) else (kj s)) fun(j:List Int)=>nx j)
   (fun s=>some s) l 0 []=some (Gc4 p l):=by
 refine G6f ?_
 refine Jb (fun pre s=>s=Gc4 p pre) rfl (fun pre x post s nx e hs h0=>?_) (fun s hs=>Gy hs)
 subst hs
 have h1:pre.length+1≤l.length:=by rw [e]; simp
 refine Yf (fun j=>j=Gc4 p (pre++[x])) (fun K hK=>?_) (fun j hj=>h0 _ hj)
 refine Gw (hw x (by rw [e]; simp)) (Hy (fun h=>Jq ?_ (hK _ ?_)) (fun h=>hK _ ?_))
 ·have:=J6c p pre
  exact Rf (by rw [M9]; omega) (by omega)
 ·rw [Hb4,h]; rfl
 ·rw [Hb4,h]; simp
theorem R9c {α:Type} (p:α→Bool) (x:α) (l:List α):Gc4 p (x::l)=(if p x then [0] else [])++(Gc4 p l).map (·+1):=by
 unfold Gc4
 rw [List.zipIdx_cons',List.filter_cons]
 have h:(((l.zipIdx.map (Prod.map id (fun n:Nat=>n+1))).filter (fun y:α×Nat=>p y.1)).map (fun y:α×Nat=>(y.2:Int)))=((l.zipIdx.filter (fun y:α×Nat=>p y.1)).map (fun y:α×Nat=>(y.2:Int))).map (·+1):=by
  rw [List.filter_map,List.map_map,List.map_map]
  rfl
 by_cases hx:p x=true
 ·rw [if_pos (show p (x,0).fst=true from hx),if_pos hx,List.map_cons]
  exact congrArg (List.cons _) h
 ·rw [if_neg (show ¬ p (x,0).fst=true from hx),if_neg hx,List.nil_append]
  exact h
theorem R9b {α:Type} (p:α→Bool) (l:List α):(Gc4 p l).head? = match l.findIdx? p with
  | some j=>some (j:Int)
  | none=>none:=by
 induction l with
 | nil=>rfl
 | cons x l ih=>
  rw [R9c,List.findIdx?_cons]
  by_cases hx:p x
  ·simp [hx]
  ·simp only [hx,if_false,Bool.false_eq_true,List.nil_append,List.head?_map,ih]
   cases l.findIdx? p <;> simp
theorem Rda {α:Type} (p:α→Bool) (l:List α):decide (0 < ((Gc4 p l).length:Int))=l.any p:=by
 by_cases h:∀ x∈l,p x=false
 ·rw [J11.2 h]
  refine Eq.symm (List.any_eq_false.2 fun x hx=>?_)
  rw [h x hx]; exact Bool.false_ne_true
 ·have h1:Gc4 p l≠[]:=fun e=>h (J11.1 e)
  have h2:=List.length_pos_iff.2 h1
  rw [Ku (by omega)]
  refine Eq.symm (List.any_eq_true.2 ?_)
  refine Classical.byContradiction fun hn=>h fun x hx=>?_
  cases hc:p x with
  | false=>rfl
  | true=>exact(hn ⟨x,hx,hc⟩).elim
def Qc2 (x:Gs) (c:G4):Bool:=decide (x.Bay=c.Bay)&&x.Rows.any (fun r=>decide (r=c.Row))
theorem Qac (x:Gs) (c:G4) (hl:x.Rows.length≤1000000):G7b x c=some (Qc2 x c):=by
 unfold G7b Qc2
 by_cases h:x.Bay=c.Bay
 ·have hc:G19 x.Rows (fun z0=>G43 z0 c)=some (Gc4 (fun r=>decide (r=c.Row)) x.Rows):=by
   unfold G19
   exact J6e (fun x _=>rfl) hl
  rw [Ku h]
  simp only [cond_true,Bool.true_and]
  rw [hc,G42,Rda]
 ·rw [Kv h]
  rfl
def H2d (s:Gb) (c:G4):Int:=J12 (fun x=>Qc2 x c) s.Covers
theorem H60 {s:Gb} {m:Nat} {c:G4} (hc:s.Columns[m]? = some c) (hr:∀ x∈s.Covers,x.Rows.length≤1000000) (hl:s.Covers.length≤1000000):G07 s (m:Int)=some (H2d s c):=by
 have hm:=(Kw hc).1
 refine G6f ?_
 unfold G07
 refine Hy (fun h=>?_) (fun _=>?_)
 ·simp only [Mi,Mb] at h
  omega
 have h1:Yq s.Covers (fun z0=>G01 z0 s (m:Int))=some (Gc4 (fun x=>Qc2 x c) s.Covers):=by
  unfold Yq
  refine J6e (fun x hx=>G6f ?_) hl
  unfold G01
  exact Qs rfl hc (Gw (Qac x c (hr x hx)) (Gy rfl))
 refine Gw h1 ?_
 have hh:=R9b (fun x=>Qc2 x c) s.Covers
 unfold H2d J12
 cases hf:s.Covers.findIdx? (fun x=>Qc2 x c) with
 | none=>
  rw [hf] at hh
  have h0:Gc4 (fun x=>Qc2 x c) s.Covers=[]:=List.head?_eq_none_iff.1 hh
  rw [h0]
  exact Gy rfl
 | some j=>
  rw [hf] at hh
  cases hi:Gc4 (fun x=>Qc2 x c) s.Covers with
  | nil=>rw [hi] at hh; cases hh
  | cons z r=>
   rw [hi] at hh
   simp only [List.head?_cons,Option.some.injEq] at hh
   subst hh
   refine Hy (fun h=>?_) (fun _=>Qs (m:=0) rfl rfl (Gy rfl))
   have:=Ks h
   simp only [M4] at this
   omega
def Yy (l:List G1) (id:Int):Slot×Bool:=match Q61 l id with
 | some x=>(x.Slot,true)
 | none=>(⟨0,0,0⟩,false)
theorem Gff (l:List G1) (id:Int):G5e l id=some (Yy l id):=by
 unfold G5e
 have h:Qh l (fun z0=>G7c z0 id)=some (J12 (fun x:G1=>decide (x.Box=id)) l):=H19 (fun x _=>rfl)
 rw [h]
 simp only [G42]
 unfold Yy Q61
 rcases He7 (fun x:G1=>decide (x.Box=id)) l with ⟨h1,_,h3⟩ | ⟨m,x,h1,h2,_,h4⟩
 ·rw [h1,h3]; rfl
 ·rw [h1,h4,Kv (by omega),cond_false]
  unfold Q4
  rw [Ku (by omega),cond_true,show (m:Int).toNat=m by omega,h2]
  rfl
theorem R3e {l:List G1} {id:Int}:(Yy l id).2=true ↔ id∈l.map (·.Box):=by
 unfold Yy
 cases h:Q61 l id with
 | none=>
  refine⟨fun e=>(by cases e),fun e=>?_⟩
  obtain⟨x,hx,he⟩:=Me.1 e
  have:=List.find?_eq_none.1 h x hx
  simp [he] at this
 | some x=>
  refine⟨fun _=>?_,fun _=>rfl⟩
  have h1:=List.mem_of_find?_eq_some h
  have h2:=Ks (List.find?_some (p:=fun x:G1=>decide (x.Box=id)) h)
  exact Me.2 ⟨x,h1,h2⟩
theorem J3b {l:List G1} {id:Int} (h:(Yy l id).2=true):∃ x∈l,x.Box=id∧(Yy l id).1=x.Slot:=by
 unfold Yy at h ⊢
 cases hf:Q61 l id with
 | none=>rw [hf] at h; cases h
 | some x=>exact⟨x,List.mem_of_find?_eq_some hf,Ks (List.find?_some (p:=fun x:G1=>decide (x.Box=id)) hf),rfl⟩
structure Small (s:Gb):Prop where
 right:Jg s=some true
 cols:1≤s.Columns.length∧s.Columns.length≤40
 tiers:∀ c∈s.Columns,c.Tiers≤100
 covs:s.Covers.length≤1000
 rows:∀ x∈s.Covers,x.Rows.length≤1000
def Y4a (s:Gb) (x:Slot):Prop:=∃ (m:Nat) (c:G4),x.G4=(m:Int)∧s.Columns[m]? = some c
structure G8b (U:List Int) (m:Gt Int Unit) (l:List Int):Prop where
 nodup:l.Nodup
 sub:∀ a∈l,a∈U
 has:∀ a,Gt.has m a=decide (a∈l)
theorem G8b.le {U:List Int} {m:Gt Int Unit} {l:List Int} (h:G8b U m l):l.length≤U.length:=h.nodup.length_le_of_subset (fun a ha=>h.sub a ha)
theorem G8b.start {U:List Int}:G8b U (Gt.empty:Gt Int Unit) []:=⟨List.nodup_nil,fun a ha=>(M0 ha).elim,fun a=>by simp [Jdd]⟩
theorem G8b.snoc {U:List Int} {m:Gt Int Unit} {l:List Int} (h:G8b U m l) {id:Int} (h1:id ∉ l) (h2:id∈U):G8b U (Gt.put m id ()) (l++[id]):=by
 refine⟨?_,fun a ha=>?_,fun a=>?_⟩
 ·rw [List.nodup_append]
  refine⟨h.nodup,by simp,fun a ha b hb=>?_⟩
  rw [Mf] at hb; subst hb
  intro e; subst e; exact h1 ha
 ·rcases Md.1 ha with ha | ha
  ·exact h.sub a ha
  ·rw [Mf] at ha; subst ha; exact h2
 ·rw [Q6c,h.has,Bool.eq_iff_iff]
  simp only [Mi,Mb,Md,Mf]
  exact⟨fun h=>h.elim (fun e=>.inr e.symm) .inl,fun h=>h.elim .inr (fun e=>.inl e.symm)⟩
theorem R53 (m:Gt Int Unit) (k:Int):G09 m k=some (if Gt.has m k then (false,m) else (true,Gt.put m k ())):=by
 unfold G09
 cases Gt.has m k <;> rfl
structure H9f (s:Gb) (U:List Int) (states:List (List G1)):Prop where
 small:Small s
 each:∀ st∈states,∀ x∈st,x.Box∈U∧Y4a s x.Slot
 len:U.length≤1000
structure Y98 (calls:Int) (b:Box):Prop where
 id:5≤b.ID∧b.ID≤999999
 size:b.Size=40∨(b.Size=20∧b.High=false)
 load:0≤b.Load
 stay:b.Load < b.Discharge
 out:b.Discharge < calls
structure Y0 (calls:Int) (boxes:List Box):Prop where
 num:1≤calls∧calls≤20
 len:boxes.length≤8
 each:∀ b∈boxes,Y98 calls b
 sorted:boxes.Pairwise (fun a b=>a.ID < b.ID)
theorem Ga3 {l:List Int} (h:l.Pairwise (· < ·)):l.Nodup:=h.imp (fun h=>by omega)
theorem Y0.ids {calls:Int} {boxes:List Box} (h:Y0 calls boxes):(boxes.map (·.ID)).Pairwise (· < ·):=List.pairwise_map.2 h.sorted
structure Gab (s:Gb) (boxes:List Box) (k:Int) (l:List G1):Prop where
 right:Zj s boxes l
 ids:l.map (·.Box)=Zt boxes k
theorem Gab.len {s:Gb} {boxes:List Box} {k:Int} {l:List G1} (h:Gab s boxes k l):l.length≤boxes.length:=by
 have:=congrArg List.length h.ids
 rw [Mc] at this
 rw [this]
 exact G88 boxes k
theorem Small.tier {s:Gb} (h:Small s):∀ c∈s.Columns,c.Tiers≤1000000:=fun c hc=>by have:=h.tiers c hc; omega
theorem Jb5 {s:Gb} {x:Slot} {size:Int} (h:H3d s x size):Y4a s x:=by
 obtain⟨m,c,h1,h2,_⟩:=h.col
 exact⟨m,c,h1,h2⟩
theorem R82 {s:Gb} {boxes:List Box} {bf af:List G1} (hs:Small s) (h1:Zj s boxes bf) (h2:Zj s boxes af) (l1:bf.length≤100) (l2:af.length≤100) :
  H9f s (bf.map (·.Box)++af.map (·.Box)) [bf,af]:=by
 refine⟨hs,fun st h0 x hx=>?_,by simp only [M8,Mc]; omega⟩
 simp only [Mg,M0,or_false] at h0
 rcases h0 with rfl | rfl
 ·obtain⟨b,_,hb,_⟩:=h1.each x hx
  exact⟨Md.2 (.inl (Me.2 ⟨x,hx,rfl⟩)),Jb5 hb⟩
 ·obtain⟨b,_,hb,_⟩:=h2.each x hx
  exact⟨Md.2 (.inr (Me.2 ⟨x,hx,rfl⟩)),Jb5 hb⟩
theorem He1 {s:Gb} {boxes:List Box}:Zj s boxes []:=⟨fun x hx=>(M0 hx).elim,List.Pairwise.nil,List.Pairwise.nil,fun m c _=>by
 unfold Qd4 Hb5
 simp only [List.foldl_nil]
 omega⟩
theorem Q63 {a b:List Int} (ha:a.Pairwise (· < ·)) (hb:b.Pairwise (· < ·)) (h:∀ x,x∈a ↔ x∈b):a=b:=
 List.Perm.eq_of_pairwise (le:=fun x y:Int=>x < y) (fun x y _ _ h1 h2=>by omega) ha hb ((List.perm_ext_iff_of_nodup (Ga3 ha) (Ga3 hb)).2 h)
structure H9e (s:Gb) (boxes:List Box) (k:Int) (l:List G1):Prop where
 right:Zj s boxes l
 mem:∀ x∈l,∃ b∈boxes,b.ID=x.Box∧abB k b=true
theorem H9e.nil {s:Gb} {boxes:List Box} {k:Int}:H9e s boxes k []:=⟨He1,fun x hx=>(M0 hx).elim⟩
theorem H9e.len {s:Gb} {boxes:List Box} {k:Int} {l:List G1} (h:H9e s boxes k l):l.length≤boxes.length:=by
 have h1:(l.map (·.Box)).Pairwise (· < ·):=List.pairwise_map.2 h.right.sorted
 have:=(Ga3 h1).length_le_of_subset (l₂:=boxes.map (·.ID)) (fun a ha=>by
  obtain⟨x,hx,rfl⟩:=Me.1 ha
  obtain⟨b,hb,e,_⟩:=h.mem x hx
  exact Me.2 ⟨b,hb,e⟩)
 rw [Mc,Mc] at this
 exact this
def upon (s:Gb) (x y:Slot):Prop:=∃ (m:Nat) (c:G4) (m1:Nat) (c1:G4),x.G4=(m:Int)∧s.Columns[m]? = some c∧y.G4=(m1:Int)∧s.Columns[m1]? = some c1∧c.Deck=false∧c1.Deck=true∧0≤H2d s c∧H2d s c1=H2d s c
def Q70 (s:Gb) (states:List (List G1)) (st:List G1) (a b:Int):Prop:=
 (Yy st a).2=true∧((∃ y∈st,y.Box=b∧Qce y.Slot (Yy st a).1)∨∃ st2∈states,∃ y∈st2,y.Box=b∧upon s (Yy st a).1 y.Slot)
def G78 (s:Gb) (states:List (List G1)) (a b:Int):Prop:=∃ st∈states,Q70 s states st a b
structure Grown (s:Gb) (U:List Int) (states:List (List G1)) (l:List Int) (id:Int) (m:Gt Int Unit) (l':List Int):Prop where
 inv:G8b U m l'
 sub:∀ a∈l,a∈l'
 has:id∈l'
 closed:∀ a∈l',a ∉ l→∀ b,G78 s states a b→b∈l'
 least:∀ C:Int→Prop,(∀ a b,C a→G78 s states a b→C b)→(∀ a∈l,C a)→C id→∀ a∈l',C a
structure Rch (s:Gb) (U:List Int) (states:List (List G1)) (l:List Int) (id:Int) (m:Gt Int Unit) (l':List Int):Prop where
 inv:G8b U m l'
 sub:∀ a∈l++[id],a∈l'
 closed:∀ a∈l',a ∉ l→a≠id→∀ b,G78 s states a b→b∈l'
 least:∀ C:Int→Prop,(∀ a b,C a→G78 s states a b→C b)→(∀ a∈l,C a)→C id→∀ a∈l',C a
section
variable {s:Gb} {U:List Int} {states:List (List G1)} {l l' l2:List Int} {id y:Int} {m m2:Gt Int Unit}
theorem Rch.start (h:G8b U m (l++[id])):Rch s U states l id m (l++[id]):=
 ⟨h,fun a ha=>ha,fun a ha h1 h2=>by
  rcases Md.1 ha with ha | ha
  ·exact(h1 ha).elim
  ·exact(h2 (Mf.1 ha)).elim,fun C _ hl hid a ha=>by
  rcases Md.1 ha with ha | ha
  ·exact hl a ha
  ·exact Mf.1 ha ▸ hid⟩
theorem Rch.step (h:Rch s U states l id m l') (hp:G78 s states id y) (g:Grown s U states l' y m2 l2):Rch s U states l id m2 l2∧(∀ a∈l',a∈l2)∧y∈l2:=
 ⟨⟨g.inv,fun a ha=>g.sub a (h.sub a ha),fun a ha h1 h2 b hb=>by
  by_cases h0:a∈l'
  ·exact g.sub b (h.closed a h0 h1 h2 b hb)
  ·exact g.closed a ha h0 b hb,fun C hc hl hid=>g.least C hc (h.least C hc hl hid) (hc id y hid hp)⟩,g.sub,g.has⟩
end
theorem H48 {α:Type} {P:α→Prop} {l:List α} {x:α} (h1:∀ y∈l,P y) (h2:P x):∀ y∈l++[x],P y:=fun y hy=>by
 rcases Md.1 hy with hy | hy
 ·exact h1 y hy
 ·exact Mf.1 hy ▸ h2
theorem Re0 {s:Gb} {U:List Int} {states:List (List G1)} (hs:H9f s U states):∀ (F:Nat) (id:Int) (m:Gt Int Unit) (l:List Int),G8b U m l→id∈U→U.length+1≤F+l.length →
  Wp (Rg F id m l states s) (fun r=>Grown s U states l id r.1 r.2):=by
 intro F
 induction F with
 | zero=>intro id m l hi _ hF; have:=hi.le; omega
 | succ F ih=>
  intro id m l hi hid hF
  show Wp (Zk (Rg F) F id m l states s) _
  unfold Zk
  refine Gw (R53 m id) ?_
  rw [hi.has]
  by_cases h7:id∈l
  ·rw [if_pos (Ku h7)]
   exact Hy (fun _=>Gy ⟨hi,fun a ha=>ha,h7,fun a ha hn=>(hn ha).elim,fun C _ hl _ a ha=>hl a ha⟩) (fun h=>by cases h)
  rw [if_neg (by rw [Kv h7]; exact Bool.false_ne_true)]
  refine Hy (fun h=>by cases h) (fun _=>?_)
  have b3:=hi.le
  have b1:=hs.len
  have h1:=hi.snoc h7 hid
  have b2:=h1.le
  have b4:(l++[id]).length=l.length+1:=by simp
  refine Jq (Rf (by rw [M9]; omega) (by omega)) ?_
  have again:∀ (y:G1) (st:List G1) (m':Gt Int Unit) (l':List Int),st∈states→y∈st→Rch s U states l id m' l'→G78 s states id y.Box →
    Wp (Rg F y.Box m' l' states s) (fun r=>Rch s U states l id r.1 r.2∧(∀ a∈l',a∈r.2)∧y.Box∈r.2):=
   fun y st m' l' h2 h3 h4 h5=>wp_mono (ih y.Box m' l' h4.inv (hs.each st h2 y h3).1 (by
    have:=h1.nodup.length_le_of_subset (fun a ha=>h4.sub a ha)
    omega)) (fun r hr=>h4.step h5 hr)
  have a5:∀ {k:Nat} {c:G4},s.Columns[k]? = some c→G07 s (k:Int)=some (H2d s c):=fun hc=>H60 hc (fun x hx=>by have:=hs.small.rows x hx; omega) (by have:=hs.small.covs; omega)
  refine Jb (fun pre s7=>Rch s U states l id s7.1 s7.2∧∀ st∈pre,∀ b,Q70 s states st id b→b∈s7.2) ⟨.start h1,fun st h=>(M0 h).elim⟩ (fun pre st post s7 nx e hI h8=>?_) (fun s7 hI=>Gy ?_)
  ·have h6:st∈states:=by rw [e]; simp
   obtain⟨hR,hD⟩:=hI
   refine Yf (fun j=>Rch s U states l id j.1 j.2∧(∀ a∈s7.2,a∈j.2)∧∀ b,Q70 s states st id b→b∈j.2) (fun K hK=>?_) (fun j hj=>h8 _ ⟨hj.1,H48 (fun st' h' b hb=>hj.2.1 _ (hD st' h' b hb)) hj.2.2⟩)
   refine Gw (Gff st id) (Hy (fun hf=>hK _ ⟨hR,fun a ha=>ha,fun b hb=>?_⟩) (fun hf=>?_))
   ·rw [hb.1] at hf; cases hf
   have a6:(Yy st id).2=true:=by simpa using hf
   obtain⟨x,hx,_,h9⟩:=J3b a6
   obtain⟨m0,c0,a7,a1⟩:=(hs.each st h6 x hx).2
   rw [h9]
   refine Yf (fun j17=>j17=if c0.Deck=true then -1 else H2d s c0) (fun K' h0=>Qs a7 a1 (Hy (fun hd=>?_) (fun hd=>h0 _ (by
    rw [if_pos (by simpa using hd)])))) (fun j17 a2=>?_)
   ·rw [a7]
    exact Gw (a5 a1) (h0 _ (by rw [if_neg (by simpa using hd)]))
   refine Jb (fun pre s56=>Rch s U states l id s56.1 s56.2∧(∀ a∈s7.2,a∈s56.2)∧∀ y∈pre,Qce y.Slot x.Slot→y.Box∈s56.2) ⟨hR,fun a ha=>ha,fun y h=>(M0 h).elim⟩ (fun pre y post s56 nx e hI h8=>?_) (fun s56 hI=>?_)
   ·have hy:y∈st:=by rw [e]; simp
    obtain⟨i1,i2,i3⟩:=hI
    refine Yf (fun j=>Rch s U states l id j.1 j.2∧(∀ a∈s56.2,a∈j.2)∧(Qce y.Slot x.Slot→y.Box∈j.2)) (fun K' h0=>?_) (fun j hj=>h8 _ ⟨hj.1,fun a ha=>hj.2.1 a (i2 a ha),H48 (fun y' h' ho=>hj.2.1 _ (i3 y' h' ho)) hj.2.2⟩)
    refine H8 (wp_mono (Q22 y.Slot x.Slot) (fun r62 a9=>Hy (fun hr=>?_) (fun hr=>h0 _ ⟨i1,fun a ha=>ha,fun ho=>?_⟩)))
    ·exact H8 (wp_mono (again y st _ _ h6 hy i1 ⟨st,h6,a6,.inl ⟨y,hy,rfl,by rw [h9]; exact a9.1 hr⟩⟩) (fun r hr=>h0 _ ⟨hr.1,hr.2.1,fun _=>hr.2.2⟩))
    ·rw [a9.2 ho] at hr; cases hr
   ·obtain⟨i1,i2,i3⟩:=hI
    refine Jb (fun pre s65=>Rch s U states l id s65.1 s65.2∧(∀ a∈s56.2,a∈s65.2)∧∀ st2∈pre,∀ y∈st2,upon s x.Slot y.Slot→y.Box∈s65.2) ⟨i1,fun a ha=>ha,fun st2 h=>(M0 h).elim⟩ (fun pre st2 post s65 nx e hI h8=>?_) (fun s65 hI=>hK _ ⟨hI.1,fun a ha=>hI.2.1 a (i2 a ha),fun b hb=>?_⟩)
    ·obtain⟨j1,j2,j3⟩:=hI
     have a0:st2∈states:=by rw [e]; simp
     refine Jb (fun pre s107=>Rch s U states l id s107.1 s107.2∧(∀ a∈s65.2,a∈s107.2)∧∀ y∈pre,upon s x.Slot y.Slot→y.Box∈s107.2) ⟨j1,fun a ha=>ha,fun y h=>(M0 h).elim⟩ (fun pre y post s107 nx2 e hI b0=>?_) (fun s107 hI=>h8 _ ⟨hI.1,fun a ha=>hI.2.1 a (j2 a ha),H48 (fun st' h' y hy hu=>hI.2.1 _ (j3 st' h' y hy hu)) hI.2.2⟩)
     obtain⟨k1,k2,k3⟩:=hI
     have hy:y∈st2:=by rw [e]; simp
     obtain⟨m1,c1,a8,a3⟩:=(hs.each st2 a0 y hy).2
     have a4:upon s x.Slot y.Slot ↔ (0≤j17∧c1.Deck=true∧H2d s c1=j17):=by
      constructor
      ·rintro⟨n0,d0,n1,d1,e1,e2,e3,e4,q1,q2,q3,q4⟩
       have e5:n0=m0:=by omega
       have e6:n1=m1:=by omega
       subst e5 e6
       rw [a1] at e2; cases e2
       rw [a3] at e4; cases e4
       rw [if_neg (by rw [q1]; exact Bool.false_ne_true)] at a2
       rw [a2]
       exact⟨q3,q2,q4⟩
      ·rintro⟨q1,q2,q3⟩
       by_cases hd:c0.Deck=true
       ·rw [if_pos hd] at a2; omega
       ·rw [if_neg hd] at a2
        exact⟨m0,c0,m1,c1,a7,a1,a8,a3,by simpa using hd,q2,by omega,by omega⟩
     refine Yf (fun j=>Rch s U states l id j.1 j.2∧(∀ a∈s107.2,a∈j.2)∧(upon s x.Slot y.Slot→y.Box∈j.2)) (fun K' h0=>?_) (fun j hj=>b0 _ ⟨hj.1,fun a ha=>hj.2.1 a (k2 a ha),H48 (fun y' h' ho=>hj.2.1 _ (k3 y' h' ho)) hj.2.2⟩)
     by_cases hj:0≤j17
     ·rw [Ku hj]
      simp only [cond_true,Bool.true_and]
      refine H8 (Qs a8 a3 (Gy ?_))
      cases hd:c1.Deck with
      | true=>
       simp only [cond_true,Bool.true_and]
       rw [a8]
       refine Gw (a5 a3) (Hy (fun hc=>?_) (fun hc=>h0 _ ⟨k1,fun a ha=>ha,fun hu=>?_⟩))
       ·exact H8 (wp_mono (again y st2 _ _ a0 hy k1 ⟨st,h6,a6,.inr ⟨st2,a0,y,hy,rfl,by rw [h9]; exact a4.2 ⟨hj,hd,Ks hc⟩⟩⟩) (fun r hr=>h0 _ ⟨hr.1,hr.2.1,fun _=>hr.2.2⟩))
       ·exact(Kt hc (a4.1 hu).2.2).elim
      | false=>
       simp only [cond_false,Bool.false_and]
       exact H8 (Gy (h0 _ ⟨k1,fun a ha=>ha,fun hu=>by have:=(a4.1 hu).2.1; rw [hd] at this; cases this⟩))
     ·rw [Kv hj]
      simp only [cond_false,Bool.false_and]
      exact H8 (Gy (H8 (Gy (h0 _ ⟨k1,fun a ha=>ha,fun hu=>(hj (a4.1 hu).1).elim⟩))))
    ·rcases hb.2 with ⟨y,hy,rfl,ho⟩ | ⟨st2,h2,y,hy,rfl,hu⟩
     ·exact hI.2.1 _ (i3 y hy (by rw [← h9]; exact ho))
     ·exact hI.2.2 st2 h2 y hy (by rw [← h9]; exact hu)
  ·obtain⟨hR,hD⟩:=hI
   refine⟨hR.inv,fun a ha=>hR.sub a (Md.2 (.inl ha)),hR.sub id (by simp),fun a ha hn b hb=>?_,hR.least⟩
   by_cases e:a=id
   ·subst e
    obtain⟨st,h6,hp⟩:=hb
    exact hD st h6 b hp
   ·exact hR.closed a ha hn e b hb
structure Gf0 (s:Gb) (bf af:List G1) (l:List Int):Prop where
 seeds:∀ st∈[bf,af],∀ y∈st,Yy bf y.Box≠Yy af y.Box→y.Box∈l
 closed:∀ a∈l,∀ b,G78 s [bf,af] a b→b∈l
 least:∀ C:Int→Prop,(∀ a b,C a→G78 s [bf,af] a b→C b)→(∀ st∈[bf,af],∀ y∈st,Yy bf y.Box≠Yy af y.Box→C y.Box)→∀ a∈l,C a
theorem Gf0.perm {s:Gb} {bf af:List G1} {l l':List Int} (h:Gf0 s bf af l) (hp:∀ a,a∈l' ↔ a∈l):Gf0 s bf af l':=
 ⟨fun st h0 y hy h1=>(hp _).2 (h.seeds st h0 y hy h1),fun a ha b hb=>(hp b).2 (h.closed a ((hp a).1 ha) b hb),fun C hc hl a ha=>h.least C hc hl a ((hp a).1 ha)⟩
theorem differ {p q:Slot×Bool}:((!(p.2==q.2))||(!decide (p.1=q.1)))=true ↔ p≠q:=by
 obtain⟨p1,p2⟩:=p
 obtain⟨q1,q2⟩:=q
 simp only [Mi,Bool.not_eq_true',beq_eq_false_iff_ne,decide_eq_false_iff_not,ne_eq,Prod.mk.injEq,not_and]
 constructor
 ·rintro(h | h) h1 h2
  ·exact h h2
  ·exact h h1
 ·intro h
  by_cases e:p1=q1
  ·exact .inl (h e)
  ·exact .inr e
theorem Qb7 {s:Gb} {U:List Int} {bf af:List G1} (hs:H9f s U [bf,af]) {F:Nat} (hF:U.length+1≤F) :
  Wp (G26 F s bf af) (fun r=>r.Pairwise (· < ·)∧(∀ a∈r,a∈U)∧Gf0 s bf af r):=by
 unfold G26
 have go:∀ {m:Gt Int Unit} {l:List Int} {y:G1} {st:List G1} {m2:Gt Int Unit} {l2:List Int},st∈[bf,af]→y∈st→Yy bf y.Box≠Yy af y.Box →
   (G8b U m l∧(∀ a∈l,∀ b,G78 s [bf,af] a b→b∈l)∧∀ C:Int→Prop,(∀ a b,C a→G78 s [bf,af] a b→C b)→(∀ st∈[bf,af],∀ y∈st,Yy bf y.Box≠Yy af y.Box→C y.Box)→∀ a∈l,C a) →
   Grown s U [bf,af] l y.Box m2 l2 →
   (G8b U m2 l2∧(∀ a∈l2,∀ b,G78 s [bf,af] a b→b∈l2)∧∀ C:Int→Prop,(∀ a b,C a→G78 s [bf,af] a b→C b)→(∀ st∈[bf,af],∀ y∈st,Yy bf y.Box≠Yy af y.Box→C y.Box)→∀ a∈l2,C a):=
  fun {m l y st m2 l2} h3 hy h0 hI g=>⟨g.inv,fun a ha b hb=>by
   by_cases h4:a∈l
   ·exact g.sub b (hI.2.1 a h4 b hb)
   ·exact g.closed a ha h4 b hb,fun C hc hl=>g.least C hc (hI.2.2 C hc hl) (hl st h3 y hy h0)⟩
 refine Jb (fun pre s9=>(G8b U s9.1 s9.2∧(∀ a∈s9.2,∀ b,G78 s [bf,af] a b→b∈s9.2)∧∀ C:Int→Prop,(∀ a b,C a→G78 s [bf,af] a b→C b)→(∀ st∈[bf,af],∀ y∈st,Yy bf y.Box≠Yy af y.Box→C y.Box)→∀ a∈s9.2,C a) ∧
   ∀ st∈pre,∀ y∈st,Yy bf y.Box≠Yy af y.Box→y.Box∈s9.2)
  ⟨⟨.start,fun a h=>(M0 h).elim,fun C _ _ a h=>(M0 h).elim⟩,fun st h=>(M0 h).elim⟩ (fun pre st post s9 nx e hI h6=>?_) (fun s9 hI=>?_)
 ·have h3:st∈[bf,af]:=by rw [e]; simp
  obtain⟨hA,hB⟩:=hI
  refine Jb (fun pre s59=>(G8b U s59.1 s59.2∧(∀ a∈s59.2,∀ b,G78 s [bf,af] a b→b∈s59.2)∧∀ C:Int→Prop,(∀ a b,C a→G78 s [bf,af] a b→C b)→(∀ st∈[bf,af],∀ y∈st,Yy bf y.Box≠Yy af y.Box→C y.Box)→∀ a∈s59.2,C a) ∧
    (∀ a∈s9.2,a∈s59.2)∧∀ y∈pre,Yy bf y.Box≠Yy af y.Box→y.Box∈s59.2)
   ⟨hA,fun a ha=>ha,fun y h=>(M0 h).elim⟩ (fun pre y post s59 nx2 e hI h5=>?_) (fun s59 hI=>h6 _ ⟨hI.1,H48 (fun st' h' y hy h0=>hI.2.1 _ (hB st' h' y hy h0)) hI.2.2⟩)
  have hy:y∈st:=by rw [e]; simp
  obtain⟨j1,j2,j3⟩:=hI
  refine Yf (fun j=>(G8b U j.1 j.2∧(∀ a∈j.2,∀ b,G78 s [bf,af] a b→b∈j.2)∧∀ C:Int→Prop,(∀ a b,C a→G78 s [bf,af] a b→C b)→(∀ st∈[bf,af],∀ y∈st,Yy bf y.Box≠Yy af y.Box→C y.Box)→∀ a∈j.2,C a) ∧
    (∀ a∈s59.2,a∈j.2)∧(Yy bf y.Box≠Yy af y.Box→y.Box∈j.2)) (fun K hK=>?_) (fun j hj=>h5 _ ⟨hj.1,fun a ha=>hj.2.1 a (j2 a ha),H48 (fun y' h' ho=>hj.2.1 _ (j3 y' h' ho)) hj.2.2⟩)
  refine Gw (Gff bf y.Box) (Gw (Gff af y.Box) (Hy (fun hd=>?_) (fun hd=>hK _ ⟨j1,fun a ha=>ha,fun h0=>?_⟩)))
  ·have h0:=differ.1 hd
   exact H8 (wp_mono (Re0 hs F y.Box _ _ j1.1 (hs.each st h3 y hy).1 (by omega)) (fun r hr=>hK _ ⟨go h3 hy h0 j1 hr,hr.sub,fun _=>hr.has⟩))
  ·rw [differ.2 h0] at hd; cases hd
 ·obtain⟨⟨hA,hB,hC⟩,hD⟩:=hI
  have h1:=hA.le
  have h2:=hs.len
  have h7:H86 s9.2=some (Ga4 s9.2):=by
   unfold H86
   rw [Ku (show s9.2.length < 4611686018427387904 by omega)]
   rfl
  have hp:=H0f s9.2
  refine Gw h7 (Gy ⟨?_,fun a ha=>hA.sub a (hp.mem_iff.1 ha),Gf0.perm ⟨hD,hB,hC⟩ (fun a=>hp.mem_iff)⟩)
  have hn:(Ga4 s9.2).Nodup:=hp.nodup_iff.2 hA.nodup
  exact(List.pairwise_and_iff.2 ⟨H5f s9.2,hn⟩).imp (fun {a b} h=>by have h1:=h.1; have h2:=h.2; omega)
theorem Jc1 {α:Type} {a b x:α} (h:x∈[a,b]):x∈[b,a]:=by
 simp only [Mg,M0,or_false] at h ⊢
 exact h.symm
theorem G78.swap {s:Gb} {a b:List G1} {x y:Int} (h:G78 s [a,b] x y):G78 s [b,a] x y:=by
 obtain⟨st,h0,h1,h2⟩:=h
 exact⟨st,Jc1 h0,h1,h2.imp _root_.id (fun⟨st2,h3,h4⟩=>⟨st2,Jc1 h3,h4⟩)⟩
theorem Gf0.le {s:Gb} {bf af:List G1} {l l':List Int} (h:Gf0 s bf af l) (h':Gf0 s af bf l'):∀ a∈l,a∈l':=
 h.least (·∈l') (fun a b ha hb=>h'.closed a ha b hb.swap) (fun st h0 y hy h1=>h'.seeds st (Jc1 h0) y hy (fun e=>h1 e.symm))

def inP (st:List G1) (id:Int):Bool:=st.any fun x=>decide (x.Box=id)
theorem J16 (st:List G1) (id:Int):Qq st (fun z0=>Z4 z0 id)=some (inP st id):=by
 unfold Qq
 have h:Qh st (fun z0=>Z4 z0 id)=some (J12 (fun x:G1=>decide (x.Box=id)) st):=H19 (fun x _=>rfl)
 rw [h,G42,Gd9]
 rfl
def Gec (l:List Int) (a b:List G1):Int:=((l.filter fun id=>inP a id&&inP b id).length:Int)
theorem R2c {F:Nat} {s:Gb} {boxes:List Box} {a b:List G1} {l:List Int} (h:G4f F s boxes a b=some (l,0)) (hl:l.length≤1000000):J2 F a b s boxes=some (Gec l a b):=by
 refine G6f ?_
 unfold J2
 refine Gw h ?_
 refine Jb (fun pre st=>st=Gec pre a b) rfl (fun pre y post st nx e hI h1=>?_) (fun st hI=>Gy hI)
 subst hI
 have e:l=pre++y::post:=e
 have h4:pre.length < l.length:=by rw [e]; simp
 have hb:0≤Gec pre a b∧Gec pre a b≤(pre.length:Int):=by
  unfold Gec
  have:=Kp (fun id=>inP a id&&inP b id) pre
  omega
 have h0:Gec (pre++[y]) a b=Gec pre a b+(bif inP a y&&inP b y then 1 else 0):=by
  unfold Gec
  rw [List.filter_append,M8]
  cases hc:(inP a y&&inP b y) <;> simp [hc]
 rw [each]
 refine Yf (fun j:Int=>j=bif inP a y then 1 else 0) (fun K hK=>Gw (J16 a y) (Hy (fun hc=>Jd ⟨by omega,by omega⟩ (hK _ (by rw [hc]; rfl))) (fun hc=>hK _ (by rw [hc]; rfl)))) (fun j hj=>?_)
 rw [each]
 refine Yf (fun j2:Int=>j2=j+bif inP b y then 1 else 0) (fun K hK=>Gw (J16 b y) (Hy (fun hc=>Jd ⟨by subst hj; cases inP a y <;> simp,by subst hj; cases inP a y <;> simp⟩ (hK _ (by rw [hc]; rfl))) (fun hc=>hK _ (by rw [hc]; simp)))) (fun j2 h2=>?_)
 rw [each]
 subst h2
 subst hj
 cases ha:inP a y <;> cases h3:inP b y <;> rw [ha,h3] at h0
 ·exact Gw (x:=0) rfl (Jd ⟨by omega,by omega⟩ (h1 _ (by rw [h0]; rfl)))
 ·exact Gw (x:=0) rfl (Jd ⟨by omega,by omega⟩ (h1 _ (by rw [h0]; rfl)))
 ·exact Gw (x:=0) rfl (Jd ⟨by omega,by omega⟩ (h1 _ (by rw [h0]; rfl)))
 ·exact Gw (x:=1) rfl (Jd ⟨by omega,by omega⟩ (h1 _ (by rw [h0]; rfl)))

theorem G89.sm {s:Gb} (h:G89 s):Small s:=
 ⟨h.right,⟨h.built.some,by have:=h.few; omega⟩,fun c hc=>by have:=(h.low c hc).2; omega,by have:=h.built.covs.len; omega,fun x hx=>by
  rcases (h.built.covs.each x hx).rows with e | e <;> rw [e] <;> simp⟩
theorem R8d {F:Nat} {s:Gb} {boxes:List Box} {a b:List G1} (hs:Small s) (ha:Zj s boxes a) (hb:Zj s boxes b) (la:a.length≤20) (lb:b.length≤20) (hF:41≤F) :
  ∃ l:List Int,l.Pairwise (· < ·)∧(∀ x∈l,x∈a.map (·.Box)++b.map (·.Box))∧Gf0 s a b l∧J2 F a b s boxes=some (Gec l a b):=by
 have h0:=R82 hs ha hb (by omega) (by omega)
 obtain⟨l,hl,h1,h2,h3⟩:=Qb7 h0 (F:=F) (by simp only [M8,Mc]; omega)
 refine⟨l,h1,h2,h3,R2c (F:=F) ?_ ?_⟩
 ·have ra:Q9 s boxes a=some true:=by
   obtain⟨r,hr,hi⟩:=G58 (boxes:=boxes) (l:=a) hs.right hs.tier (by omega)
   rw [hr,hi.2 ha]
  have rb:Q9 s boxes b=some true:=by
   obtain⟨r,hr,hi⟩:=G58 (boxes:=boxes) (l:=b) hs.right hs.tier (by omega)
   rw [hr,hi.2 hb]
  unfold G4f
  rw [ra,rb,hl]
  rfl
 ·have:=(Ga3 h1).length_le_of_subset h2
  simp only [M8,Mc] at this
  omega
theorem Rc9 {l:List Int} {a b:List G1} (h:l.Pairwise (· < ·)):0≤Gec l a b∧Gec l a b≤(a.length:Int):=by
 unfold Gec
 have h1:(l.filter fun id=>inP a id&&inP b id).Nodup:=(Ga3 h).filter _
 have h2:=h1.length_le_of_subset (l₂:=a.map (·.Box)) (fun x hx=>by
  have:=(Mh.1 hx).2
  obtain⟨y,hy,h0⟩:=List.any_eq_true.1 ((Bool.and_eq_true_iff.1 this).1)
  exact Me.2 ⟨y,hy,Ks h0⟩)
 rw [Mc] at h2
 omega

def H28 (F:Nat) (s:Gb) (boxes:List Box) (a b:List G1):Int:=max 0 (min 1000 ((J2 F a b s boxes).getD 0))
theorem J61 {F:Nat} {s:Gb} {boxes:List Box} (a b:List G1):0≤H28 F s boxes a b∧H28 F s boxes a b≤1000:=by
 unfold H28
 omega
theorem Jb9 {F:Nat} {s:Gb} {boxes:List Box} {a b:List G1} (hs:Small s) (ha:Zj s boxes a) (hb:Zj s boxes b) (la:a.length≤20) (lb:b.length≤20) (hF:41≤F) :
  ∃ l:List Int,l.Pairwise (· < ·)∧Gf0 s a b l∧H28 F s boxes a b=Gec l a b∧J2 F a b s boxes=some (H28 F s boxes a b):=by
 obtain⟨l,h1,_,h3,h4⟩:=R8d hs ha hb la lb hF
 have h5:=Rc9 (a:=a) (b:=b) h1
 have h6:H28 F s boxes a b=Gec l a b:=by
  unfold H28
  rw [h4,Option.getD_some]
  omega
 exact⟨l,h1,h3,h6,by rw [h6,h4]⟩
end Go.Proofs.YtibhpogonkdiaaaGreat
