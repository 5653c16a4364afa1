/-
 Slices of typed elements that the call may write in place. Maps of typed keys and elements: made,looked into,written,ranged over. A statement whose order is open,in which more than one operation turns the local memory without an order between them (two variables that are made).
-/
import Derived.Test.YtidpfkmbfgihlaaGreatLend
namespace Go.Proofs.YtidpfkmbfgihlaaGreat
open Go.RowKit

section ops
variable {P:Program} {N:Cfg} {Q:Post} {o:Oper} {ops:Array Oper} {rest:List Oper} {l:Fr} {L L':Loc} {u:AV} {α:Type}

theorem G6b {s x:Operand} {T E k by_ i ver ver1 n kx:Nat} {f:α→AV} {xs ys:List α} (ho:o.op=.call { callee:=.builtin .append,args:=#[s,x],argTypes:=#[T,T] }) (hs:ev l s=.vec i ver k n) (hi:lk L i=some (.vec E k ver (xs.map f))) (hx:Qg (ev l x)=some (kx,ys.map f))
  (hT:sliceB P T E k=true) (hE:Z3 P E k by_=true) (hb:decide ((xs.length+ys.length)*by_≤140737488355328∧xs.length+ys.length≤maxLen)=true) (hcell:∀ y,(f y).flatOk=true) (hk:kx=k∨ys=[]) (hv:ver < ver1) :
  H1 P o l L (Is (.vec i ver1 k (xs++ys).length) ((i,.vec E k ver1 ((xs++ys).map f))::L)):=by
 have hb':=of_decide_eq_true hb
 have h:=Y62 (xs:=xs.map f) (ys:=ys.map f) ho hs hi hx hT hE (by simpa using hb'.1) (by simpa using hb'.2) (fun y hy=>by
  obtain⟨z,_,rfl⟩:=List.mem_map.1 hy
  exact hcell z) (hk.imp id (fun e=>by rw [e]; rfl)) hv
 simpa only [List.map_append,List.length_append,List.length_map] using h
theorem Y31 {x ix:Operand} {T E k i ver n m:Nat} {kd:IntKind} {z:Int} {f:α→AV} {xs:List α} {y:α} (ho:o.op=.indexAddr T x ix) (hx:ev l x=.vec i ver k n) (hix:ev l ix=.sc (.int kd z)) (hi:lk L i=some (.vec E k ver (xs.map f))) (hT:sliceB P T E k=true) (hy:xs[m]? = some y) (hz:z=(m:Int)) :
  H1 P o l L (Is (.vptr i ver m 0) L):=Z16 ho hx hix hi hT (by rw [List.length_map]; exact(List.getElem?_eq_some_iff.1 hy).1) hz
end ops
end Go.Proofs.YtidpfkmbfgihlaaGreat
namespace Go.Proofs.YtidpfkmbfgihlaaGreat
open Go.RowKit

structure Ju (κ ν:Type) where
 l:List (κ×ν)
 nd:(l.map (·.1)).Nodup
namespace Ju
variable {κ ν:Type} [DecidableEq κ]
def empty:Ju κ ν:=⟨[],List.nodup_nil⟩
def put (m:Ju κ ν) (a:κ) (v:ν):Ju κ ν:=⟨Gfd m.l a v,Hdb m.nd a v⟩
def get (m:Ju κ ν) (a:κ) (z:ν):ν:=(G2b m.l a).getD z
def has (m:Ju κ ν) (a:κ):Bool:=G36 m.l a
def size (m:Ju κ ν):Nat:=m.l.length
end Ju
def MP {κ ν:Type} (T:Nat) (kv:κ→Value) (av:ν→AV) (m:Ju κ ν):Jh:=.map T (mapOf kv av m.l)
def MI {κ ν:Type} [DecidableEq κ] (T:Nat) (kv:κ→Value) (av:ν→AV) (m:Ju κ ν) (a:κ) (z:ν):Jh:=.map T (mapOf kv av (H25 m.l a z))

section ops
variable {P:Program} {N:Cfg} {o:Oper} {l:Fr} {L L':Loc} {u:AV} {κ ν:Type} {kv:κ→Value} {av:ν→AV}

theorem Y02 (i:Nat) {T:Nat} (kv:κ→Value) (av:ν→AV) (ho:o.op=.makeMap T none) (hi:lk L i=none) (hcl:Nat.blt T 1000000=true:=by rfl):H1 P o l L (Is (.mp i) ((i,MP T kv av Ju.empty)::L)):=Y66 i ho hi hcl
theorem R15 [DecidableEq κ] {x y:Operand} {T K E i:Nat} {ok:Bool} {m:Ju κ ν} {a:κ} (z0:ν) (zv:Value) (ho:o.op=.lookup T x y ok) (hm:ev l x=.mp i) (hi:lk L i=some (MP T kv av m))
  (hx:ev l y=Ru (kv a)) (hk:Gd4 P K kv) (hT:Zi P T K E=true) (hz:(P.info? E).bind (·.zero)=some zv) (hzv:av z0=Ru zv) :
  H1 P o l L (Is (bif ok then .tup [av (m.get a z0),BL (m.has a)] else av (m.get a z0)) L):=Qc5 z0 zv ho hm hi m.nd hx hk hT hz hzv
theorem Qc4 [DecidableEq κ] {x y:Operand} {T K E i:Nat} {m:Ju κ ν} {a:κ} (z0:ν) (zv:Value) (ho:o.op=.lookup T x y false) (hm:ev l x=.mp i) (hi:lk L i=some (MP T kv av m))
  (hx:ev l y=Ru (kv a)) (hk:Gd4 P K kv) (hT:Zi P T K E=true) (hz:(P.info? E).bind (·.zero)=some zv) (hzv:av z0=Ru zv) :
  H1 P o l L (Is (av (m.get a z0)) L):=R15 (ok:=false) z0 zv ho hm hi hx hk hT hz hzv
theorem Qc3 [DecidableEq κ] {x y:Operand} {T K E i:Nat} {m:Ju κ ν} {a:κ} (z0:ν) (zv:Value) (ho:o.op=.lookup T x y false) (hm:ev l x=.mp i) (hi:lk L i=some (MI T kv av m a z0))
  (hx:ev l y=Ru (kv a)) (hk:Gd4 P K kv) (hT:Zi P T K E=true) (hz:(P.info? E).bind (·.zero)=some zv) (hzv:av z0=Ru zv) :
  H1 P o l L (Is (av (m.get a z0)) L):=R9c z0 zv ho hm hi m.nd hx hk hT hz hzv
theorem Q27 [DecidableEq κ] {x y:Operand} {T K E i:Nat} {m:Ju κ ν} {a:κ} (z0:ν) (zv:Value) (ho:o.op=.mapEntry T x y) (hm:ev l x=.mp i) (hi:lk L i=some (MP T kv av m))
  (hx:ev l y=Ru (kv a)) (hk:Gd4 P K kv) (hT:Zi P T K E=true) (hz:(P.info? E).bind (·.zero)=some zv) (hzv:av z0=Ru zv) :
  H1 P o l L (Is (.tup [.junk,I64 (G35 m.l a)]) ((i,MI T kv av m a z0)::L)):=Y01 z0 zv ho hm hi m.nd hx hk hT hz hzv
theorem J60 [DecidableEq κ] {x s y:Operand} {T i:Nat} {m:Ju κ ν} {a:κ} {v:ν} (z0:ν) (ho:o.op=.entryStore T x s y) (hm:ev l x=.mp i) (hi:lk L i=some (MI T kv av m a z0))
  (hs:ev l s=I64 (G35 m.l a)) (hy:(ev l y).plain=av v) (hyd:(av v).isData=true) (hcl:Nat.blt T 1000000=true:=by rfl) :
  H1 P o l L (Is .junk ((i,MP T kv av (m.put a v))::L)):=R3c z0 ho hm hi m.nd hs hy hyd hcl
theorem Ya8 (i:Nat) {x:Operand} {T K E j:Nat} {m:Ju κ ν} (ho:o.op=.range T x) (hx:ev l x=.mp j) (hm:lk L j=some (MP T kv av m)) (hi:lk L i=none) (hT:Zi P T K E=true) :
  H1 P o l L (Is (.it i) ((i,.iter (.mp j) m.size [])::L)):=by
 have h:=Ye3 (P:=P) i ho hx hm hi hT (Zi.both hT).2
 simpa only [mapOf,List.length_map,Ju.size] using h
end ops

section ops
variable {P:Program} {N:Cfg} {Q:Post} {o:Oper} {l:Fr} {L L':Loc} {u:AV} {κ ν:Type} {kv:κ→Value} {av:ν→AV}
def Z3a (i j:Nat) (L:Loc) (kv:κ→Value) (av:ν→AV) (m:Ju κ ν) (seen:List Nat):AV→Loc→Prop:=fun u L'=>
 (∃ q e,m.l[q]? = some e∧q ∉ seen∧u=.tup [BL true,Ru (kv e.1),av e.2]∧L'=(i,.iter (.mp j) m.size (seen++[q]))::L)∨((∀ q,q < m.l.length→q∈seen)∧u=.tup [BL false]∧L'=L)
theorem H1.weaken {R R':AV→Loc→Prop} (h:H1 P o l L R) (hR:∀ u L',R u L'→R' u L'):H1 P o l L R':=fun a w β K Q h1 h2 h3=>h a w β K Q h1 h2 (fun u L' v w' β' hr=>h3 u L' v w' β' (hR u L' hr))
theorem Y84 {m:Ju κ ν} {q:Nat} {k:Value} {v:AV} (h:(mapOf kv av m.l)[q]? = some (k,v)):∃ e:κ×ν,m.l[q]? = some e∧k=kv e.1∧v=av e.2:=by
 rw [mapOf,List.getElem?_map] at h
 cases hl:m.l[q]? with
 | none=>rw [hl] at h; cases h
 | some e=>rw [hl] at h; cases h; exact⟨e,rfl,rfl,rfl⟩
theorem Ye4 {x:Operand} {i j T:Nat} {m:Ju κ ν} {seen:List Nat} (ho:o.op=.next x false) (hx:ev l x=.it i) (hi:lk L i=some (.iter (.mp j) m.size seen)) (hm:lk L j=some (MP T kv av m)) (hcl:Nat.blt T 1000000=true:=by rfl):H1 P o l L (Z3a i j L kv av m seen):=by
 have hi':lk L i=some (.iter (.mp j) (mapOf kv av m.l).length seen):=by rw [hi]; simp [mapOf,Ju.size]
 refine(Z1a ho hx hi' hm hcl).weaken (fun u L' h=>?_)
 rcases h with ⟨q,k,v,h1,h2,h3,h4⟩ | ⟨h1,h2,h3⟩
 ·obtain⟨e,he,rfl,rfl⟩:=Y84 h1
  exact .inl ⟨q,e,he,h2,h3,by rw [h4]; simp [mapOf,Ju.size]⟩
 ·exact .inr ⟨fun q hq=>h1 q (by simpa [mapOf] using hq),h2,h3⟩
theorem Yb1 {x:Operand} {i j T q:Nat} {m:Ju κ ν} {seen:List Nat} {e:κ×ν} (ho:o.op=.entry x) (hx:ev l x=.it i) (hi:lk L i=some (.iter (.mp j) m.size (seen++[q]))) (hm:lk L j=some (MP T kv av m)) (he:m.l[q]? = some e) (hcl:Nat.blt T 1000000=true:=by rfl) :
  H1 P o l L (Is (.tup [Ru (kv e.1),av e.2]) L):=by
 have hi':lk L i=some (.iter (.mp j) (mapOf kv av m.l).length (seen++[q])):=by rw [hi]; simp [mapOf,Ju.size]
 exact Yea ho hx hi' hm (by rw [mapOf,List.getElem?_map,he]; rfl) hcl
theorem J2e {body:Code} {σ:Type} (n:Nat) (I:List Nat→σ→Prop) (F:List Nat→σ→Fr) (M:List Nat→σ→Loc) (s0:σ) (h0:I [] s0) (hf:Fits N.base l L (F [] s0) (M [] s0))
  (hr:∀ i s,I i s→∀ K:Fr→Loc→Prop,(∀ l L i' s',I i' s'→unseen n i' < unseen n i→Fits N.base l L (F i' s') (M i' s')→K l L)→JC P N body (Q.seq K) (F i s) (M i s)):JC P N (.loop body) Q l L:=
 Y2b (fun x:List Nat×σ=>I x.1 x.2) (fun x=>F x.1 x.2) (fun x=>M x.1 x.2) (fun x=>unseen n x.1) ([],s0) h0 hf
  (fun x hi K hK=>hr x.1 x.2 hi K (fun l L i' s' h1 h2 h3=>hK l L (i',s') h1 h2 h3))
end ops

/-! ### Ranging over a map: every order of its entries -/
section range
variable {α β σ:Type}
def H23 (b:α→σ→(σ→Option (σ ⊕ β))→Option (σ ⊕ β)) (kx:σ→Option β):List α→σ→Option β
 | [],s=>kx s
 | x::xs,s=>match b x s (fun s'=>some (.inl s')) with
  | some (.inl s')=>H23 b kx xs s'
  | some (.inr r)=>some r
  | none=>none
def lft (x:Option β):Option (σ ⊕ β):=x.map .inr
def Hf5 (b:α→σ→(σ→Option (σ ⊕ Prop))→Option (σ ⊕ Prop)) (kx:σ→Option Prop) (l:List α) (s:σ):Option Prop:=
 some (∀ q:List α,q.Perm l→∃ p,H23 b kx q s=some p∧p)
theorem Y1b {x:Option β} {r:σ ⊕ β} (h:lft x=some r):∃ y,r=.inr y∧x=some y:=by
 cases x with
 | none=>cases h
 | some y=>cases h; exact⟨y,rfl,rfl⟩
theorem Qef {b:α→σ→(σ→Option (σ ⊕ Prop))→Option (σ ⊕ Prop)} {kx:σ→Option Prop} {x:α} {xs:List α} {s:σ} (h:∃ p,H23 b kx (x::xs) s=some p∧p) :
  ∃ o,b x s (fun s'=>some (.inl s'))=some o∧(∀ r,o=.inr r→r)∧∀ s',o=.inl s'→∃ p,H23 b kx xs s'=some p∧p:=by
 obtain⟨p,h,hp⟩:=h
 rw [H23] at h
 cases hb:b x s (fun s'=>some (.inl s')) with
 | none=>rw [hb] at h; cases h
 | some o=>
  rw [hb] at h
  cases o with
  | inl s'=>exact⟨_,rfl,(fun r e=>by cases e),(fun s2 e=>by cases e; exact⟨p,h,hp⟩)⟩
  | inr r=>cases h; exact⟨_,rfl,(fun r2 e=>by cases e; exact hp),(fun s2 e=>by cases e)⟩
def MInv (b:α→σ→(σ→Option (σ ⊕ Prop))→Option (σ ⊕ Prop)) (kx:σ→Option Prop) (l:List α) (seen:List Nat) (s:σ):Prop:=
 (seen.Nodup∧∀ j∈seen,j < l.length)∧∀ q:List α,(seen.filterMap (fun j=>l[j]?)++q).Perm l→∃ p,H23 b kx q s=some p∧p
theorem MInv.start {b:α→σ→(σ→Option (σ ⊕ Prop))→Option (σ ⊕ Prop)} {kx:σ→Option Prop} {l:List α} {s:σ} {p:Prop} (h:Hf5 b kx l s=some p) (hp:p):MInv b kx l [] s:=by
 cases h
 exact⟨⟨List.nodup_nil,by simp⟩,by simpa using hp⟩
theorem H27 {b:α→σ→(σ→Option (σ ⊕ Prop))→Option (σ ⊕ Prop)} {kx:σ→Option Prop} {l:List α} {s:σ} {r:Option Prop} (h:Hf5 b kx l s=r):∃ b' kx',b=b'∧kx=kx'∧Hf5 b' kx' l s=r:=⟨b,kx,rfl,rfl,h⟩
theorem Q81 {l:List α} {seen:List Nat} (hn:seen.Nodup) (hb:∀ j∈seen,j < l.length):∃ q,(seen.filterMap (fun j=>l[j]?)++q).Perm l:=by
 have h1:∃ r,(seen++r).Perm (List.range l.length):=by
  refine⟨(List.range l.length).filter (fun j=>!seen.contains j),?_⟩
  refine(List.perm_ext_iff_of_nodup ?_ List.nodup_range).2 (fun j=>?_)
  ·refine List.nodup_append.2 ⟨hn,List.nodup_range.filter _,fun a ha b hb'=>?_⟩
   have:=(List.mem_filter.1 hb').2
   intro e; subst e; simp [ha] at this
  ·simp only [List.mem_append,List.mem_filter,List.mem_range,Bool.not_eq_true',List.contains_eq_mem,decide_eq_false_iff_not]
   constructor
   ·rintro(h | h)
    ·exact hb j h
    ·exact h.1
   ·intro h
    by_cases hs:j∈seen
    ·exact .inl hs
    ·exact .inr ⟨h,hs⟩
 obtain⟨r,hr⟩:=h1
 have h2:=hr.filterMap (fun j=>l[j]?)
 have h3:(List.range l.length).filterMap (fun j=>l[j]?)=l:=by
  have key:∀ (l m:List α),(List.range' m.length l.length).filterMap (fun j=>(m++l)[j]?)=l:=by
   intro l
   induction l with
   | nil=>intro m; rfl
   | cons a r ih=>
    intro m
    have h1:=ih (m++[a])
    rw [List.length_cons,List.range'_succ,List.filterMap_cons_some (b:=a) (by simp)]
    congr 1
    simpa using h1
  have:=key l []
  simpa [List.range_eq_range'] using this
 rw [List.filterMap_append,h3] at h2
 exact⟨_,h2⟩
theorem MInv.step {b:α→σ→(σ→Option (σ ⊕ Prop))→Option (σ ⊕ Prop)} {kx:σ→Option Prop} {l:List α} {seen:List Nat} {s:σ} {j:Nat} {e:α} (h:MInv b kx l seen s) (hj:l[j]? = some e) (hs:j ∉ seen) :
  ∃ o,b e s (fun s'=>some (.inl s'))=some o∧(∀ r,o=.inr r→r)∧∀ s',o=.inl s'→MInv b kx l (seen++[j]) s':=by
 obtain⟨⟨h1,h2⟩,h3⟩:=h
 have hn:(seen++[j]).Nodup:=List.nodup_append.2 ⟨h1,by simp,fun a ha b hb=>by simp at hb; subst hb; intro e; subst e; exact hs ha⟩
 have hb:∀ i∈seen++[j],i < l.length:=fun i hi=>by
  rcases List.mem_append.1 hi with hi | hi
  ·exact h2 i hi
  ·simp at hi; subst hi; exact(List.getElem?_eq_some_iff.1 hj).1
 have hfm:(seen++[j]).filterMap (fun j=>l[j]?)=seen.filterMap (fun j=>l[j]?)++[e]:=by
  rw [List.filterMap_append]; simp [hj]
 obtain⟨q,hq⟩:=Q81 (l:=l) hn hb
 rw [hfm,List.append_assoc] at hq
 obtain⟨o,o1,o2,_⟩:=Qef (h3 (e::q) hq)
 refine⟨o,o1,o2,fun s' ho=>⟨⟨hn,hb⟩,fun q' hq'=>?_⟩⟩
 rw [hfm,List.append_assoc] at hq'
 obtain⟨o',p1,_,p3⟩:=Qef (h3 (e::q') hq')
 rw [o1] at p1; cases p1
 exact p3 s' ho
theorem MInv.done {b:α→σ→(σ→Option (σ ⊕ Prop))→Option (σ ⊕ Prop)} {kx:σ→Option Prop} {l:List α} {seen:List Nat} {s:σ} (h:MInv b kx l seen s) (ha:∀ j,j < l.length→j∈seen):∃ p,kx s=some p∧p:=by
 obtain⟨⟨h1,h2⟩,h3⟩:=h
 obtain⟨q,hq⟩:=Q81 (l:=l) h1 h2
 have hl:(seen.filterMap (fun j=>l[j]?)).length=l.length:=by
  have hp:seen.Perm (List.range l.length):=(List.perm_ext_iff_of_nodup h1 List.nodup_range).2 (fun j=>by
   rw [List.mem_range]; exact⟨h2 j,ha j⟩)
  have h5:(seen.filterMap (fun j=>l[j]?)).length=seen.length:=by
   have:∀ s:List Nat,(∀ j∈s,j < l.length)→(s.filterMap (fun j=>l[j]?)).length=s.length:=by
    intro s
    induction s with
    | nil=>intro _; rfl
    | cons a r ih=>
     intro hs
     have ha:=hs a (by simp)
     rw [List.filterMap_cons_some (by simp [ha]; rfl),List.length_cons,ih (fun j hj=>hs j (by simp [hj])),List.length_cons]
   exact this seen h2
  rw [h5,hp.length_eq,List.length_range]
 have hq0:q=[]:=by
  have:=hq.length_eq
  rw [List.length_append,hl] at this
  exact List.eq_nil_of_length_eq_zero (by omega)
 subst hq0
 exact h3 [] hq
end range
end Go.Proofs.YtidpfkmbfgihlaaGreat
namespace Go.Proofs.YtidpfkmbfgihlaaGreat
open Go.RowKit

def H9a (L L':Loc):Prop:=∀ id,lk L id=lk L' id
theorem Sat.locEq {w:World} {β:H4} {L L':Loc} (h:Sat w β L) (e:H9a L L'):Sat w β L':=by
 have hS:∀ b i,Jp w β L b i→Jp w β L' b i:=fun b i hs=>⟨hs.lt,hs.seen,fun id o ho=>hs.kept id o (by rw [e]; exact ho)⟩
 exact⟨h.hid,fun id b h1=>h.bnd id b (by rw [e]; exact h1),fun id b j h1=>h.apart id b j (by rw [e]; exact h1),fun id id' b h1 h2=>h.inj id id' b (by rw [e]; exact h1) (by rw [e]; exact h2),
  fun id o ho=>(h.obj id o (by rw [e]; exact ho)).up hS (fun id o ho=>⟨by rw [← e]; exact ho,rfl⟩)⟩
theorem Step.locEq {w w':World} {β β':H4} {L L1 L':Loc} (h:Step w β L w' β' L1) (e:H9a L1 L'):Step w β L w' β' L' where
 os:=h.os
 tape:=h.tape
 output:=h.output
 size:=h.size
 hid:=h.hid
 stab:=fun b i hs=>by
  obtain⟨h1,h2⟩:=h.stab b i hs
  exact⟨⟨h1.lt,h1.seen,fun id o ho=>h1.kept id o (by rw [e]; exact ho)⟩,h2⟩
 far:=fun b hb hf=>by
  obtain⟨h1,h2⟩:=h.far b hb hf
  exact⟨h1,fun id hid=>h2 id (by rw [e]; exact hid)⟩
 box:=fun id t cs hi=>by obtain⟨h1,cs',h2⟩:=h.box id t cs hi; exact⟨h1,cs',by rw [← e]; exact h2⟩
 map:=fun id t cs hi=>by obtain⟨h1,cs',h2⟩:=h.map id t cs hi; exact⟨h1,cs',by rw [← e]; exact h2⟩
 iter:=fun id m n cs hi=>by obtain⟨h1,n',cs',h2⟩:=h.iter id m n cs hi; exact⟨h1,n',cs',by rw [← e]; exact h2⟩
 vec:=fun id t k ver xs hi=>by obtain⟨v,xs',h1,h2,h3⟩:=h.vec id t k ver xs hi; exact⟨v,xs',by rw [← e]; exact h1,h2,h3⟩
 spare:=fun id t k ver xs hi=>by obtain⟨v,xs',h1,h2,h3⟩:=h.spare id t k ver xs hi; exact⟨v,xs',by rw [← e]; exact h1,h2,h3⟩
theorem V.locEq {w:World} {β:H4} {L L':Loc} {u:AV} {v:Value} (h:V w β L u v) (e:H9a L L'):V w β L' u v:=
 h.up (fun b i hs=>⟨hs.lt,hs.seen,fun id o ho=>hs.kept id o (by rw [e]; exact ho)⟩) (fun id o ho=>⟨by rw [← e]; exact ho,rfl⟩)
theorem Gc1.locEq {P:Program} {N:Cfg} {ops:Array Oper} {o:Oper} {l:Fr} {L L1 L':Loc} {u:AV} (h:Gc1 P N ops o l L u L1) (e:H9a L1 L'):Gc1 P N ops o l L u L':=
 fun a w β K Q h1 h2 h3 h4=>h a w β K Q h1 h2 h3 (fun v w' β' k1 k2 k3=>h4 v w' β' (k1.locEq e) (k2.locEq e) (k3.locEq e))
def J75 (ks:List Nat):Loc→Bool
 | []=>true
 | (i,_)::r=>ks.contains i&&J75 ks r
def Z0a (L L':Loc):List Nat→Prop
 | []=>True
 | k::r=>lk L k=lk L' k∧Z0a L L' r
theorem J73 {ks:List Nat} {id:Nat} (h:id ∉ ks):∀ {L:Loc},J75 ks L=true→lk L id=none
 | [],_=>rfl
 | (i,o)::r,hk=>by
  simp only [J75,Bool.and_eq_true] at hk
  rw [Gh,if_neg (fun e=>h (by subst e; simpa using hk.1))]
  exact J73 h hk.2
theorem H9a.of {L L':Loc} (ks:List Nat) (h1:J75 ks L=true) (h2:J75 ks L'=true) (h3:Z0a L L' ks):H9a L L':=fun id=>by
 by_cases h:id∈ks
 ·clear h1 h2
  induction ks with
  | nil=>cases h
  | cons k r ih=>
   rcases List.mem_cons.1 h with e | h
   ·rw [e]; exact h3.1
   ·exact ih h3.2 h
 ·rw [J73 h h1,J73 h h2]

/-! ### The stages: which of the turning operations are done -/
def Q35 (ws:List Nat) (s:List Bool) (i:Nat):List Bool:=(ws.zip s).map fun p=>p.2||p.1==i
def Q2a (tb:List (List Bool×Loc)) (s:List Bool):Option Loc:=(tb.find? fun p=>p.1==s).map (·.2)
def H4c (P:Program) (N:Cfg) (ops:Array Oper) (ws:List Nat) (tb:List (List Bool×Loc)) (i:Nat) (o:Oper) (l:Fr) (u:AV) (s:List Bool):Prop:=
 ∃ L L1 L',Q2a tb s=some L∧Q2a tb (Q35 ws s i)=some L'∧Gc1 P N ops o l L u L1∧H9a L1 L'
theorem H4c.ro {P:Program} {N:Cfg} {ops:Array Oper} {ws:List Nat} {tb:List (List Bool×Loc)} {i:Nat} {o:Oper} {l:Fr} {u:AV} {s:List Bool} {L:Loc} (h1:Q2a tb s=some L) (h2:Q2a tb (Q35 ws s i)=some L) (h:Gc1 P N ops o l L u L):H4c P N ops ws tb i o l u s:=⟨L,L,L,h1,h2,h,fun _=>rfl⟩
theorem H4c.w {P:Program} {N:Cfg} {ops:Array Oper} {ws:List Nat} {tb:List (List Bool×Loc)} {i:Nat} {o:Oper} {l:Fr} {u:AV} {s:List Bool} {L L1 L':Loc} (ks:List Nat) (h1:Q2a tb s=some L) (h2:Q2a tb (Q35 ws s i)=some L') (h:Gc1 P N ops o l L u L1) (k1:J75 ks L1=true) (k2:J75 ks L'=true) (k3:Z0a L1 L' ks):H4c P N ops ws tb i o l u s:=⟨L,L1,L',h1,h2,h,H9a.of ks k1 k2 k3⟩

section pre
variable {P:Program} {N:Cfg} {ops:Array Oper} {ws:List Nat} {sts:List (List (List Bool))} {tb:List (List Bool×Loc)} {i:Nat} {o:Oper} {r:List Oper} {l:Fr} {K:Fr→Prop} {u:AV}
end pre

end Go.Proofs.YtidpfkmbfgihlaaGreat
