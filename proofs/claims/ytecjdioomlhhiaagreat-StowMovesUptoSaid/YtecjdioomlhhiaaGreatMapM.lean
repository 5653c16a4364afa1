/-
 Slices of typed elements that the call may write in place. Maps of typed keys and elements: made,looked into,written,ranged over.
-/
import Derived.Test.YtecjdioomlhhiaaGreatLend
namespace Go.Proofs.YtecjdioomlhhiaaGreat
open Go.RowKit

section ops
variable {P:Program} {N:Cfg} {Q:Post} {o:Oper} {ops:Array Oper} {rest:List Oper} {l:Fr} {L L':Loc} {u:AV} {α:Type}

theorem G68 {s x:Operand} {T E k by_ i ver ver1 n kx:Nat} {f:α→AV} {xs ys:List α} (ho:o.op=.call { callee:=.builtin .append,args:=#[s,x],argTypes:=#[T,T] }) (hs:ev l s=.vec i ver k n) (hi:lk L i=some (.vec E k ver (xs.map f))) (hx:Qd (ev l x)=some (kx,ys.map f))
  (hT:sliceB P T E k=true) (hE:Zi P E k by_=true) (hb:decide ((xs.length+ys.length)*by_≤140737488355328∧xs.length+ys.length≤maxLen)=true) (hcell:∀ y,(f y).flatOk=true) (hk:kx=k∨ys=[]) (hv:ver < ver1) :
  H1 P o l L (Is (.vec i ver1 k (xs++ys).length) ((i,.vec E k ver1 ((xs++ys).map f))::L)):=by
 have hb':=of_decide_eq_true hb
 have h:=Rb6 (xs:=xs.map f) (ys:=ys.map f) ho hs hi hx hT hE (by simpa using hb'.1) (by simpa using hb'.2) (fun y hy=>by
  obtain⟨z,_,rfl⟩:=List.mem_map.1 hy
  exact hcell z) (hk.imp id (fun e=>by rw [e]; rfl)) hv
 simpa only [List.map_append,List.length_append,List.length_map] using h
theorem R7a {x ix:Operand} {T E k i ver n m:Nat} {kd:IntKind} {z:Int} {f:α→AV} {xs:List α} {y:α} (ho:o.op=.indexAddr T x ix) (hx:ev l x=.vec i ver k n) (hix:ev l ix=.sc (.int kd z)) (hi:lk L i=some (.vec E k ver (xs.map f))) (hT:sliceB P T E k=true) (hy:xs[m]? = some y) (hz:z=(m:Int)) :
  H1 P o l L (Is (.vptr i ver m 0) L):=Y40 ho hx hix hi hT (by rw [List.length_map]; exact(List.getElem?_eq_some_iff.1 hy).1) hz
theorem R35 {us cs:List AV} (h:us.length=cs.length):J04 0 us cs=some us:=by
 have key:∀ (us cs:List AV),us.length=cs.length→J04 0 us cs=some us:=by
  intro us
  induction us with
  | nil=>intro cs h; cases cs with
   | nil=>rfl
   | cons c r=>simp at h
  | cons a r ih=>intro cs h; cases cs with
   | nil=>simp at h
   | cons c s=>simp [J04,ih s (by simpa using h)]
 exact key us cs h
theorem Q6a {x y:Operand} {T i ver m t k:Nat} {f:α→AV} {xs:List α} {z:α} (hT:Zh P T k=true) (ho:o.op=.store T x y) (hu:ev l y=f z) (hx:ev l x=.vptr i ver m 0) (hi:lk L i=some (.vec t k ver (xs.map f))) (hm:m < xs.length)
  (hc:(f z).flatOk=true) (hd:(f z).isData=true) (hk:(f z).cells.length=k) (hpos:Nat.blt 0 k=true) :
  H1 P o l L (Is .junk ((i,.vec t k ver ((xs.set m z).map f))::L)):=by
 intro a w β K Q hsat hf hK
 obtain⟨o1,_⟩:=hsat.obj i _ hi
 have he:(xs.map f)[m]? = some (f xs[m]):=by simp [hm]
 have hel:(f xs[m]).cells.length=k:=o1 _ (List.mem_of_getElem? he)
 have h:=Qf4 (P:=P) (e:=f xs[m]) (z:=f z) (ds:=(f z).cells) hT ho hu hx hi he hc hd (R35 (hk.trans hel.symm)) rfl hk hpos
 rw [← List.map_set] at h
 exact h a w β K Q hsat hf hK
def H60 (z:Int):Option Nat:=bif decide (0≤z) then some z.toNat else none
theorem G72 {z:Int} {n:Nat} (h:H60 z=some n):z=(n:Int):=by
 unfold H60 at h
 cases hb:decide (0≤z) with
 | true=>rw [hb] at h; cases h; have:=of_decide_eq_true hb; omega
 | false=>rw [hb] at h; cases h
end ops
end Go.Proofs.YtecjdioomlhhiaaGreat
namespace Go.Proofs.YtecjdioomlhhiaaGreat
open Go.RowKit

structure J1 (κ ν:Type) where
 l:List (κ×ν)
 nd:(l.map (·.1)).Nodup
namespace J1
variable {κ ν:Type} [DecidableEq κ]
def empty:J1 κ ν:=⟨[],List.nodup_nil⟩
def put (m:J1 κ ν) (a:κ) (v:ν):J1 κ ν:=⟨H4c m.l a v,Jf5 m.nd a v⟩
def get (m:J1 κ ν) (a:κ) (z:ν):ν:=(G7c m.l a).getD z
def has (m:J1 κ ν) (a:κ):Bool:=Gd0 m.l a
def size (m:J1 κ ν):Nat:=m.l.length
end J1
def MP {κ ν:Type} (T:Nat) (kv:κ→Value) (av:ν→AV) (m:J1 κ ν):Jg:=.map T (mapOf kv av m.l)
def MI {κ ν:Type} [DecidableEq κ] (T:Nat) (kv:κ→Value) (av:ν→AV) (m:J1 κ ν) (a:κ) (z:ν):Jg:=.map T (mapOf kv av (Gfe m.l a z))

section ops
variable {P:Program} {N:Cfg} {o:Oper} {l:Fr} {L L':Loc} {u:AV} {κ ν:Type} {kv:κ→Value} {av:ν→AV}

theorem Q21 (i:Nat) {T:Nat} (kv:κ→Value) (av:ν→AV) (ho:o.op=.makeMap T none) (hi:lk L i=none):H1 P o l L (Is (.mp i) ((i,MP T kv av J1.empty)::L)):=Rba i ho hi
theorem Q6d [DecidableEq κ] {x y:Operand} {T K E i:Nat} {ok:Bool} {m:J1 κ ν} {a:κ} (z0:ν) (zv:Value) (ho:o.op=.lookup T x y ok) (hm:ev l x=.mp i) (hi:lk L i=some (MP T kv av m))
  (hx:ev l y=G1d (kv a)) (hk:H5a P K kv) (hT:Ge3 P T K E=true) (hz:(P.info? E).bind (·.zero)=some zv) (hzv:av z0=G1d zv) :
  H1 P o l L (Is (bif ok then .tup [av (m.get a z0),BL (m.has a)] else av (m.get a z0)) L):=Q24 z0 zv ho hm hi m.nd hx hk hT hz hzv
theorem Q23 [DecidableEq κ] {x y:Operand} {T K E i:Nat} {m:J1 κ ν} {a:κ} (z0:ν) (zv:Value) (ho:o.op=.lookup T x y false) (hm:ev l x=.mp i) (hi:lk L i=some (MP T kv av m))
  (hx:ev l y=G1d (kv a)) (hk:H5a P K kv) (hT:Ge3 P T K E=true) (hz:(P.info? E).bind (·.zero)=some zv) (hzv:av z0=G1d zv) :
  H1 P o l L (Is (av (m.get a z0)) L):=Q6d (ok:=false) z0 zv ho hm hi hx hk hT hz hzv
theorem R50 [DecidableEq κ] {x y:Operand} {T K E i:Nat} {m:J1 κ ν} {a:κ} (z0:ν) (zv:Value) (ho:o.op=.lookup T x y true) (hm:ev l x=.mp i) (hi:lk L i=some (MP T kv av m))
  (hx:ev l y=G1d (kv a)) (hk:H5a P K kv) (hT:Ge3 P T K E=true) (hz:(P.info? E).bind (·.zero)=some zv) (hzv:av z0=G1d zv) :
  H1 P o l L (Is (.tup [av (m.get a z0),BL (m.has a)]) L):=Q6d (ok:=true) z0 zv ho hm hi hx hk hT hz hzv
theorem Q22 [DecidableEq κ] {x y:Operand} {T K E i:Nat} {m:J1 κ ν} {a:κ} (z0:ν) (zv:Value) (ho:o.op=.lookup T x y false) (hm:ev l x=.mp i) (hi:lk L i=some (MI T kv av m a z0))
  (hx:ev l y=G1d (kv a)) (hk:H5a P K kv) (hT:Ge3 P T K E=true) (hz:(P.info? E).bind (·.zero)=some zv) (hzv:av z0=G1d zv) :
  H1 P o l L (Is (av (m.get a z0)) L):=Qfb z0 zv ho hm hi m.nd hx hk hT hz hzv
theorem Q92 [DecidableEq κ] {x y z:Operand} {T K E i:Nat} {m:J1 κ ν} {a:κ} {v:ν} (ho:o.op=.mapUpdate T x y z) (hm:ev l x=.mp i) (hi:lk L i=some (MP T kv av m))
  (hx:ev l y=G1d (kv a)) (hy:(ev l z).plain=av v) (hyd:(av v).isData=true) (hk:H5a P K kv) (hT:Ge3 P T K E=true) :
  H1 P o l L (Is .junk ((i,MP T kv av (m.put a v))::L)):=Qfa ho hm hi m.nd hx hy hyd hk hT
theorem Ja1 [DecidableEq κ] {x y:Operand} {T K E i:Nat} {m:J1 κ ν} {a:κ} (z0:ν) (zv:Value) (ho:o.op=.mapEntry T x y) (hm:ev l x=.mp i) (hi:lk L i=some (MP T kv av m))
  (hx:ev l y=G1d (kv a)) (hk:H5a P K kv) (hT:Ge3 P T K E=true) (hz:(P.info? E).bind (·.zero)=some zv) (hzv:av z0=G1d zv) :
  H1 P o l L (Is (.tup [.junk,I64 (G50 m.l a)]) ((i,MI T kv av m a z0)::L)):=R4f z0 zv ho hm hi m.nd hx hk hT hz hzv
theorem J13 [DecidableEq κ] {x s y:Operand} {T i:Nat} {m:J1 κ ν} {a:κ} {v:ν} (z0:ν) (ho:o.op=.entryStore T x s y) (hm:ev l x=.mp i) (hi:lk L i=some (MI T kv av m a z0))
  (hs:ev l s=I64 (G50 m.l a)) (hy:(ev l y).plain=av v) (hyd:(av v).isData=true) :
  H1 P o l L (Is .junk ((i,MP T kv av (m.put a v))::L)):=Q93 z0 ho hm hi m.nd hs hy hyd
theorem Qf8 (i:Nat) {x:Operand} {T K E j:Nat} {m:J1 κ ν} (ho:o.op=.range T x) (hx:ev l x=.mp j) (hm:lk L j=some (MP T kv av m)) (hi:lk L i=none) (hT:Ge3 P T K E=true) :
  H1 P o l L (Is (.it i) ((i,.iter j m.size [])::L)):=by
 have h:=Y14 (P:=P) i ho hx hm hi hT
 simpa only [mapOf,List.length_map,J1.size] using h
end ops

section ops
variable {P:Program} {N:Cfg} {Q:Post} {o:Oper} {l:Fr} {L L':Loc} {u:AV} {κ ν:Type} {kv:κ→Value} {av:ν→AV}
def Y67 (i j:Nat) (L:Loc) (kv:κ→Value) (av:ν→AV) (m:J1 κ ν) (seen:List Nat):AV→Loc→Prop:=fun u L'=>
 (∃ q e,m.l[q]? = some e∧q ∉ seen∧u=.tup [BL true,G1d (kv e.1),av e.2]∧L'=(i,.iter j m.size (seen++[q]))::L)∨((∀ q,q < m.l.length→q∈seen)∧u=.tup [BL false]∧L'=L)
theorem H1.weaken {R R':AV→Loc→Prop} (h:H1 P o l L R) (hR:∀ u L',R u L'→R' u L'):H1 P o l L R':=fun a w β K Q h1 h2 h3=>h a w β K Q h1 h2 (fun u L' v w' β' hr=>h3 u L' v w' β' (hR u L' hr))
theorem Rd6 {m:J1 κ ν} {q:Nat} {k:Value} {v:AV} (h:(mapOf kv av m.l)[q]? = some (k,v)):∃ e:κ×ν,m.l[q]? = some e∧k=kv e.1∧v=av e.2:=by
 rw [mapOf,List.getElem?_map] at h
 cases hl:m.l[q]? with
 | none=>rw [hl] at h; cases h
 | some e=>rw [hl] at h; cases h; exact⟨e,rfl,rfl,rfl⟩
theorem R7c {x:Operand} {i j T:Nat} {m:J1 κ ν} {seen:List Nat} (ho:o.op=.next x false) (hx:ev l x=.it i) (hi:lk L i=some (.iter j m.size seen)) (hm:lk L j=some (MP T kv av m)):H1 P o l L (Y67 i j L kv av m seen):=by
 have hi':lk L i=some (.iter j (mapOf kv av m.l).length seen):=by rw [hi]; simp [mapOf,J1.size]
 refine(Y45 ho hx hi' hm).weaken (fun u L' h=>?_)
 rcases h with ⟨q,k,v,h1,h2,h3,h4⟩ | ⟨h1,h2,h3⟩
 ·obtain⟨e,he,rfl,rfl⟩:=Rd6 h1
  exact .inl ⟨q,e,he,h2,h3,by rw [h4]; simp [mapOf,J1.size]⟩
 ·exact .inr ⟨fun q hq=>h1 q (by simpa [mapOf] using hq),h2,h3⟩
theorem Qfc {x:Operand} {i j T q:Nat} {m:J1 κ ν} {seen:List Nat} {e:κ×ν} (ho:o.op=.entry x) (hx:ev l x=.it i) (hi:lk L i=some (.iter j m.size (seen++[q]))) (hm:lk L j=some (MP T kv av m)) (he:m.l[q]? = some e) :
  H1 P o l L (Is (.tup [G1d (kv e.1),av e.2]) L):=by
 have hi':lk L i=some (.iter j (mapOf kv av m.l).length (seen++[q])):=by rw [hi]; simp [mapOf,J1.size]
 exact Y18 ho hx hi' hm (by rw [mapOf,List.getElem?_map,he]; rfl)
theorem Qf0 {body:Code} {σ:Type} (n:Nat) (I:List Nat→σ→Prop) (F:List Nat→σ→Fr) (M:List Nat→σ→Loc) (s0:σ) (h0:I [] s0) (hf:Fits N.base l L (F [] s0) (M [] s0))
  (hr:∀ i s,I i s→∀ K:Fr→Loc→Prop,(∀ l L i' s',I i' s'→unseen n i' < unseen n i→Fits N.base l L (F i' s') (M i' s')→K l L)→JC P N body (Q.seq K) (F i s) (M i s)):JC P N (.loop body) Q l L:=
 R75 (fun x:List Nat×σ=>I x.1 x.2) (fun x=>F x.1 x.2) (fun x=>M x.1 x.2) (fun x=>unseen n x.1) ([],s0) h0 hf
  (fun x hi K hK=>hr x.1 x.2 hi K (fun l L i' s' h1 h2 h3=>hK l L (i',s') h1 h2 h3))
end ops

/-! ### Ranging over a map: every order of its entries -/
section range
variable {α β σ:Type}
def J45 (b:α→σ→(σ→Option (σ ⊕ β))→Option (σ ⊕ β)) (kx:σ→Option β):List α→σ→Option β
 | [],s=>kx s
 | x::xs,s=>match b x s (fun s'=>some (.inl s')) with
  | some (.inl s')=>J45 b kx xs s'
  | some (.inr r)=>some r
  | none=>none
def lft (x:Option β):Option (σ ⊕ β):=x.map .inr
def Q61 (b:α→σ→(σ→Option (σ ⊕ Prop))→Option (σ ⊕ Prop)) (kx:σ→Option Prop) (l:List α) (s:σ):Option Prop:=
 some (∀ q:List α,q.Perm l→∃ p,J45 b kx q s=some p∧p)
theorem Rff {x:Option β} {r:σ ⊕ β} (h:lft x=some r):∃ y,r=.inr y∧x=some y:=by
 cases x with
 | none=>cases h
 | some y=>cases h; exact⟨y,rfl,rfl⟩
theorem Q4f {b:α→σ→(σ→Option (σ ⊕ Prop))→Option (σ ⊕ Prop)} {kx:σ→Option Prop} {x:α} {xs:List α} {s:σ} (h:∃ p,J45 b kx (x::xs) s=some p∧p) :
  ∃ o,b x s (fun s'=>some (.inl s'))=some o∧(∀ r,o=.inr r→r)∧∀ s',o=.inl s'→∃ p,J45 b kx xs s'=some p∧p:=by
 obtain⟨p,h,hp⟩:=h
 rw [J45] at h
 cases hb:b x s (fun s'=>some (.inl s')) with
 | none=>rw [hb] at h; cases h
 | some o=>
  rw [hb] at h
  cases o with
  | inl s'=>exact⟨_,rfl,(fun r e=>by cases e),(fun s2 e=>by cases e; exact⟨p,h,hp⟩)⟩
  | inr r=>cases h; exact⟨_,rfl,(fun r2 e=>by cases e; exact hp),(fun s2 e=>by cases e)⟩
def MInv (b:α→σ→(σ→Option (σ ⊕ Prop))→Option (σ ⊕ Prop)) (kx:σ→Option Prop) (l:List α) (seen:List Nat) (s:σ):Prop:=
 (seen.Nodup∧∀ j∈seen,j < l.length)∧∀ q:List α,(seen.filterMap (fun j=>l[j]?)++q).Perm l→∃ p,J45 b kx q s=some p∧p
theorem MInv.start {b:α→σ→(σ→Option (σ ⊕ Prop))→Option (σ ⊕ Prop)} {kx:σ→Option Prop} {l:List α} {s:σ} {p:Prop} (h:Q61 b kx l s=some p) (hp:p):MInv b kx l [] s:=by
 cases h
 exact⟨⟨List.nodup_nil,by simp⟩,by simpa using hp⟩
theorem Qe2 {b:α→σ→(σ→Option (σ ⊕ Prop))→Option (σ ⊕ Prop)} {kx:σ→Option Prop} {l:List α} {s:σ} {r:Option Prop} (h:Q61 b kx l s=r):∃ b' kx',b=b'∧kx=kx'∧Q61 b' kx' l s=r:=⟨b,kx,rfl,rfl,h⟩
theorem Jf2 {l:List α} {seen:List Nat} (hn:seen.Nodup) (hb:∀ j∈seen,j < l.length):∃ q,(seen.filterMap (fun j=>l[j]?)++q).Perm l:=by
 have h1:∃ r,(seen++r).Perm (List.range l.length):=by
  refine⟨(List.range l.length).filter (fun j=>!seen.contains j),?_⟩
  refine(List.perm_ext_iff_of_nodup ?_ List.nodup_range).2 (fun j=>?_)
  ·refine List.nodup_append.2 ⟨hn,List.nodup_range.filter _,fun a ha b hb'=>?_⟩
   have:=(List.mem_filter.1 hb').2
   intro e; subst e; simp [ha] at this
  ·simp only [List.mem_append,List.mem_filter,List.mem_range,Bool.not_eq_true',List.contains_eq_mem,decide_eq_false_iff_not]
   constructor
   ·rintro(h | h)
    ·exact hb j h
    ·exact h.1
   ·intro h
    by_cases hs:j∈seen
    ·exact .inl hs
    ·exact .inr ⟨h,hs⟩
 obtain⟨r,hr⟩:=h1
 have h2:=hr.filterMap (fun j=>l[j]?)
 have h3:(List.range l.length).filterMap (fun j=>l[j]?)=l:=by
  have key:∀ (l m:List α),(List.range' m.length l.length).filterMap (fun j=>(m++l)[j]?)=l:=by
   intro l
   induction l with
   | nil=>intro m; rfl
   | cons a r ih=>
    intro m
    have h1:=ih (m++[a])
    rw [List.length_cons,List.range'_succ,List.filterMap_cons_some (b:=a) (by simp)]
    congr 1
    simpa using h1
  have:=key l []
  simpa [List.range_eq_range'] using this
 rw [List.filterMap_append,h3] at h2
 exact⟨_,h2⟩
theorem MInv.step {b:α→σ→(σ→Option (σ ⊕ Prop))→Option (σ ⊕ Prop)} {kx:σ→Option Prop} {l:List α} {seen:List Nat} {s:σ} {j:Nat} {e:α} (h:MInv b kx l seen s) (hj:l[j]? = some e) (hs:j ∉ seen) :
  ∃ o,b e s (fun s'=>some (.inl s'))=some o∧(∀ r,o=.inr r→r)∧∀ s',o=.inl s'→MInv b kx l (seen++[j]) s':=by
 obtain⟨⟨h1,h2⟩,h3⟩:=h
 have hn:(seen++[j]).Nodup:=List.nodup_append.2 ⟨h1,by simp,fun a ha b hb=>by simp at hb; subst hb; intro e; subst e; exact hs ha⟩
 have hb:∀ i∈seen++[j],i < l.length:=fun i hi=>by
  rcases List.mem_append.1 hi with hi | hi
  ·exact h2 i hi
  ·simp at hi; subst hi; exact(List.getElem?_eq_some_iff.1 hj).1
 have hfm:(seen++[j]).filterMap (fun j=>l[j]?)=seen.filterMap (fun j=>l[j]?)++[e]:=by
  rw [List.filterMap_append]; simp [hj]
 obtain⟨q,hq⟩:=Jf2 (l:=l) hn hb
 rw [hfm,List.append_assoc] at hq
 obtain⟨o,o1,o2,_⟩:=Q4f (h3 (e::q) hq)
 refine⟨o,o1,o2,fun s' ho=>⟨⟨hn,hb⟩,fun q' hq'=>?_⟩⟩
 rw [hfm,List.append_assoc] at hq'
 obtain⟨o',p1,_,p3⟩:=Q4f (h3 (e::q') hq')
 rw [o1] at p1; cases p1
 exact p3 s' ho
theorem MInv.done {b:α→σ→(σ→Option (σ ⊕ Prop))→Option (σ ⊕ Prop)} {kx:σ→Option Prop} {l:List α} {seen:List Nat} {s:σ} (h:MInv b kx l seen s) (ha:∀ j,j < l.length→j∈seen):∃ p,kx s=some p∧p:=by
 obtain⟨⟨h1,h2⟩,h3⟩:=h
 obtain⟨q,hq⟩:=Jf2 (l:=l) h1 h2
 have hl:(seen.filterMap (fun j=>l[j]?)).length=l.length:=by
  have hp:seen.Perm (List.range l.length):=(List.perm_ext_iff_of_nodup h1 List.nodup_range).2 (fun j=>by
   rw [List.mem_range]; exact⟨h2 j,ha j⟩)
  have h5:(seen.filterMap (fun j=>l[j]?)).length=seen.length:=by
   have:∀ s:List Nat,(∀ j∈s,j < l.length)→(s.filterMap (fun j=>l[j]?)).length=s.length:=by
    intro s
    induction s with
    | nil=>intro _; rfl
    | cons a r ih=>
     intro hs
     have ha:=hs a (by simp)
     rw [List.filterMap_cons_some (by simp [ha]; rfl),List.length_cons,ih (fun j hj=>hs j (by simp [hj])),List.length_cons]
   exact this seen h2
  rw [h5,hp.length_eq,List.length_range]
 have hq0:q=[]:=by
  have:=hq.length_eq
  rw [List.length_append,hl] at this
  exact List.eq_nil_of_length_eq_zero (by omega)
 subst hq0
 exact h3 [] hq
end range
end Go.Proofs.YtecjdioomlhhiaaGreat
