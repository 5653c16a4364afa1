/-
 Slices of typed elements that the call may write in place. Maps of typed keys and elements:
-/
import Derived.Test.YthkihfoleenlmaaGreatLend
namespace Go.Proofs.YthkihfoleenlmaaGreat
open Go.RowKit

section ops
variable {P:Program} {N:Cfg} {Q:Post} {o:Oper} {ops:Array Oper} {rest:List Oper} {l:Fr} {L L':Loc} {u:AV} {J:Type}

theorem G3d {s x:Operand} {T E k by_ i ver ver1 n kx:Nat} {f:J→AV} {xs ys:List J} (ho:o.op=.call { callee:=.builtin .append,args:=#[s,x],argTypes:=#[T,T] }) (hs:ev l s=.vec i ver k n) (hi:lk L i=some (.vec E k ver (xs.map f))) (hx:Jz (ev l x)=some (kx,ys.map f))
  (hT:sliceB P T E k=true) (hE:Qo P E k by_=true) (hb:decide ((xs.length+ys.length)*by_≤140737488355328/\xs.length+ys.length≤maxLen)=true) (h0:∀ y,(f y).flatOk=true) (hk:kx=k\/ys=[]) (hv:ver < ver1) :
  H2 P o l L (Is (.vec i ver1 k (xs++ys).length) ((i,.vec E k ver1 ((xs++ys).map f))::L)):=by
 have h1:=P6 hb
 have h:=J10 (xs:=xs.map f) (ys:=ys.map f) ho hs hi hx hT hE (by simpa using h1.1) (by simpa using h1.2) (fun y hy=>by
  obtain⟨z,_,rfl⟩:=Pt.1 hy
  exact h0 z) (hk.imp id (fun e=>by rw [e]; rfl)) hv
 simpa only [List.map_append,Pn,Pr] using h
theorem fK {x ix:Operand} {T E k i ver n m:Nat} {kd:IntKind} {z:Int} {f:J→AV} {xs:List J} {y:J} (ho:o.op=.indexAddr T x ix) (hx:ev l x=.vec i ver k n) (h0:ev l ix=.sc (.int kd z)) (hi:lk L i=some (.vec E k ver (xs.map f))) (hT:sliceB P T E k=true) (hy:xs[m]? = some y) (hz:z=(m:Int)) :
  H2 P o l L (Is (.vptr i ver m 0) L):=Jfc ho hx h0 hi hT (by rw [Pr]; exact(Pa hy).1) hz
theorem jF {x:Operand} {T i ver m fo t k:Nat} {f:J→AV} {xs:List J} {y:J} (hT:Jc P T=true) (ho:o.op=.load T x) (hx:ev l x=.vptr i ver m fo) (hi:lk L i=some (.vec t k ver (xs.map f))) (hy:xs[m]? = some y) (hu:(f y).cells[fo]? = some u) (h0:Nat.blt fo k=true):H2 P o l L (Is u L):=
 Jb3 hT ho hx hi (J97 hy) hu (by simpa [Nat.blt_eq] using h0)
theorem H83 {us cs:List AV} (h:us.length=cs.length):xT 0 us cs=some us:=by
 have key:∀ (us cs:List AV),us.length=cs.length→xT 0 us cs=some us:=by
  intro us
  induction us with
  | nil=>intro cs h; cases cs with
   | nil=>rfl
   | cons c r=>simp at h
  | cons a r ih=>intro cs h; cases cs with
   | nil=>simp at h
   | cons c s=>simp [xT,ih s (by simpa using h)]
 exact key us cs h
theorem xS {x y:Operand} {T i ver m t k:Nat} {f:J→AV} {xs:List J} {z:J} (hT:Rc P T k=true) (ho:o.op=.store T x y) (hu:ev l y=f z) (hx:ev l x=.vptr i ver m 0) (hi:lk L i=some (.vec t k ver (xs.map f))) (hm:m < xs.length)
  (hc:(f z).flatOk=true) (hd:(f z).isData=true) (hk:(f z).cells.length=k) (h1:Nat.blt 0 k=true) :
  H2 P o l L (Is .junk ((i,.vec t k ver ((xs.set m z).map f))::L)):=by
 intro a w β K Q h0 hf hK
 obtain⟨o1,_⟩:=h0.obj i _ hi
 have he:(xs.map f)[m]? = some (f xs[m]):=by simp [hm]
 have h2:(f xs[m]).cells.length=k:=o1 _ (Pd he)
 have h:=H41 (P:=P) (e:=f xs[m]) (z:=f z) (ds:=(f z).cells) hT ho hu hx hi he hc hd (H83 (hk.trans h2.symm)) rfl hk h1
 rw [← List.map_set] at h
 exact h a w β K Q h0 hf hK
theorem H42 (i:Nat) {x y:Operand} {T E k by_ n:Nat} {kd kd':IntKind} {nx ny:Int} {f:J→AV} (z:J) (zs:List Value) (ho:o.op=.makeSlice T x y) (hx:ev l x=.sc (.int kd nx)) (hy:ev l y=.sc (.int kd' ny)) (hi:lk L i=none)
  (hT:sliceB P T E k=true) (hE:Qo P E k by_=true) (hz:(P.info? E).bind (fun i=>i.zero.map Value.cells)=some zs.toArray) (hn:nx=(n:Int)) (hm:ny=(n:Int)) (hb:decide (by_*n≤281474976710656/\n≤maxLen/\n*k≤16777216)=true)
  (h0:ZOk (f z).cells zs) (h1:(f z).cells.length=k) :
  H2 P o l L (Is (.vec i 0 k (List.replicate n z).length) ((i,.vec E k 0 ((List.replicate n z).map f))::L)):=by
 have h:=Jb2 (P:=P) (T:=T) (E:=E) i zs ho hx hy hi hT hE hz hn hm hb (f z) (fun w S j a b ha h2=>by
  have:=ZOk.get (w:=w) (β:=⟨fun _=>none,fun b i=>¬ S b i⟩) (L:=[]) h0 j a b ha h2
  refine(this.data_of_nil).mono fun b i hs=>⟨Classical.byContradiction fun hn=>hs.seen hn,rfl⟩) h1
 simpa only [List.map_replicate,List.length_replicate] using h
def nI (z:Int):Option Nat:=bif decide (0≤z) then some z.toNat else none
theorem gB {z:Int} {n:Nat} (h:nI z=some n):z=(n:Int):=by
 unfold nI at h
 cases hb:decide (0≤z) with
 | true=>rw [hb] at h; cases h; have:=P6 hb; omega
 | false=>rw [hb] at h; cases h
end ops

structure J8 (W Z:Type) where
 l:List (W×Z)
 nd:(l.map (·.1)).Nodup
namespace J8
variable {W Z:Type} [DecidableEq W]
def empty:J8 W Z:=⟨[],List.nodup_nil⟩
def put (m:J8 W Z) (a:W) (v:Z):J8 W Z:=⟨qC m.l a v,G11 m.nd a v⟩
def get (m:J8 W Z) (a:W) (z:Z):Z:=(gL m.l a).getD z
def has (m:J8 W Z) (a:W):Bool:=kQ m.l a
def size (m:J8 W Z):Nat:=m.l.length
end J8
def MP {W Z:Type} (T:Nat) (kv:W→Value) (av:Z→AV) (m:J8 W Z):Jn:=.map T (mapOf kv av m.l)
def MI {W Z:Type} [DecidableEq W] (T:Nat) (kv:W→Value) (av:Z→AV) (m:J8 W Z) (a:W) (z:Z):Jn:=.map T (mapOf kv av (mI m.l a z))

section ops
variable {P:Program} {N:Cfg} {o:Oper} {l:Fr} {L L':Loc} {u:AV} {W Z:Type} {kv:W→Value} {av:Z→AV}

theorem zS (i:Nat) {T:Nat} (kv:W→Value) (av:Z→AV) (ho:o.op=.makeMap T none) (hi:lk L i=none) (h0:Nat.blt T 1000000=true:=by rfl):H2 P o l L (Is (.mp i) ((i,MP T kv av J8.empty)::L)):=J15 i ho hi h0
theorem G95 [DecidableEq W] {x y:Operand} {T K E i:Nat} {ok:Bool} {m:J8 W Z} {a:W} (z0:Z) (zv:Value) (ho:o.op=.lookup T x y ok) (hm:ev l x=.mp i) (hi:lk L i=some (MP T kv av m))
  (hx:ev l y=bX (kv a)) (hk:qP P K kv) (hT:fE P T K E=true) (hz:(P.info? E).bind (·.zero)=some zv) (h0:av z0=bX zv) :
  H2 P o l L (Is (bif ok then .tup [av (m.get a z0),BL (m.has a)] else av (m.get a z0)) L):=G43 z0 zv ho hm hi m.nd hx hk hT hz h0
theorem G42 [DecidableEq W] {x y:Operand} {T K E i:Nat} {m:J8 W Z} {a:W} (z0:Z) (zv:Value) (ho:o.op=.lookup T x y false) (hm:ev l x=.mp i) (hi:lk L i=some (MP T kv av m))
  (hx:ev l y=bX (kv a)) (hk:qP P K kv) (hT:fE P T K E=true) (hz:(P.info? E).bind (·.zero)=some zv) (h0:av z0=bX zv) :
  H2 P o l L (Is (av (m.get a z0)) L):=G95 (ok:=false) z0 zv ho hm hi hx hk hT hz h0
theorem Ha9 [DecidableEq W] {x y:Operand} {T K E i:Nat} {m:J8 W Z} {a:W} (z0:Z) (zv:Value) (ho:o.op=.lookup T x y true) (hm:ev l x=.mp i) (hi:lk L i=some (MP T kv av m))
  (hx:ev l y=bX (kv a)) (hk:qP P K kv) (hT:fE P T K E=true) (hz:(P.info? E).bind (·.zero)=some zv) (h0:av z0=bX zv) :
  H2 P o l L (Is (.tup [av (m.get a z0),BL (m.has a)]) L):=G95 (ok:=true) z0 zv ho hm hi hx hk hT hz h0
theorem G41 [DecidableEq W] {x y:Operand} {T K E i:Nat} {m:J8 W Z} {a:W} (z0:Z) (zv:Value) (ho:o.op=.lookup T x y false) (hm:ev l x=.mp i) (hi:lk L i=some (MI T kv av m a z0))
  (hx:ev l y=bX (kv a)) (hk:qP P K kv) (hT:fE P T K E=true) (hz:(P.info? E).bind (·.zero)=some zv) (h0:av z0=bX zv) :
  H2 P o l L (Is (av (m.get a z0)) L):=H45 z0 zv ho hm hi m.nd hx hk hT hz h0
theorem Gc4 [DecidableEq W] {x y z:Operand} {T K E i:Nat} {m:J8 W Z} {a:W} {v:Z} (ho:o.op=.mapUpdate T x y z) (hm:ev l x=.mp i) (hi:lk L i=some (MP T kv av m))
  (hx:ev l y=bX (kv a)) (hy:(ev l z).plain=av v) (h0:(av v).isData=true) (hk:qP P K kv) (hT:fE P T K E=true) :
  H2 P o l L (Is .junk ((i,MP T kv av (m.put a v))::L)):=H44 ho hm hi m.nd hx hy h0 hk hT
theorem RZ [DecidableEq W] {x y:Operand} {T K E i:Nat} {m:J8 W Z} {a:W} (z0:Z) (zv:Value) (ho:o.op=.mapEntry T x y) (hm:ev l x=.mp i) (hi:lk L i=some (MP T kv av m))
  (hx:ev l y=bX (kv a)) (hk:qP P K kv) (hT:fE P T K E=true) (hz:(P.info? E).bind (·.zero)=some zv) (h0:av z0=bX zv) :
  H2 P o l L (Is (.tup [.junk,I64 (dY m.l a)]) ((i,MI T kv av m a z0)::L)):=Ha8 z0 zv ho hm hi m.nd hx hk hT hz h0
theorem yJ [DecidableEq W] {x s y:Operand} {T i:Nat} {m:J8 W Z} {a:W} {v:Z} (z0:Z) (ho:o.op=.entryStore T x s y) (hm:ev l x=.mp i) (hi:lk L i=some (MI T kv av m a z0))
  (hs:ev l s=I64 (dY m.l a)) (hy:(ev l y).plain=av v) (h0:(av v).isData=true) (h1:Nat.blt T 1000000=true:=by rfl) :
  H2 P o l L (Is .junk ((i,MP T kv av (m.put a v))::L)):=Gc5 z0 ho hm hi m.nd hs hy h0 h1
theorem J56 (i:Nat) {x:Operand} {T K E j:Nat} {m:J8 W Z} (ho:o.op=.range T x) (hx:ev l x=.mp j) (hm:lk L j=some (MP T kv av m)) (hi:lk L i=none) (hT:fE P T K E=true) :
  H2 P o l L (Is (.it i) ((i,.iter (.mp j) m.size [])::L)):=by
 have h:=Jb4 (P:=P) i ho hx hm hi hT (fE.both hT).2
 simpa only [mapOf,Pr,J8.size] using h
end ops

section ops
variable {P:Program} {N:Cfg} {Q:Post} {o:Oper} {l:Fr} {L L':Loc} {u:AV} {W Z:Type} {kv:W→Value} {av:Z→AV}
def Q38 (i j:Nat) (L:Loc) (kv:W→Value) (av:Z→AV) (m:J8 W Z) (seen:List Nat):AV→Loc→Prop:=fun u L'=>
 (∃ q e,m.l[q]? = some e/\q ∉ seen/\u=.tup [BL true,bX (kv e.1),av e.2]/\L'=(i,.iter (.mp j) m.size (seen++[q]))::L)\/((∀ q,q < m.l.length→q∈seen)/\u=.tup [BL false]/\L'=L)
theorem H2.weaken {R R':AV→Loc→Prop} (h:H2 P o l L R) (hR:∀ u L',R u L'→R' u L'):H2 P o l L R':=fun a w β K Q h1 h2 h3=>h a w β K Q h1 h2 (fun u L' v w' J' hr=>h3 u L' v w' J' (hR u L' hr))
theorem J34 {m:J8 W Z} {q:Nat} {k:Value} {v:AV} (h:(mapOf kv av m.l)[q]? = some (k,v)):∃ e:W×Z,m.l[q]? = some e/\k=kv e.1/\v=av e.2:=by
 rw [mapOf,Pj] at h
 cases hl:m.l[q]? with
 | none=>rw [hl] at h; cases h
 | some e=>rw [hl] at h; cases h; exact⟨e,rfl,rfl,rfl⟩
theorem Jb6 {x:Operand} {i j T:Nat} {m:J8 W Z} {seen:List Nat} (ho:o.op=.next x false) (hx:ev l x=.it i) (hi:lk L i=some (.iter (.mp j) m.size seen)) (hm:lk L j=some (MP T kv av m)) (h0:Nat.blt T 1000000=true:=by rfl):H2 P o l L (Q38 i j L kv av m seen):=by
 have h5:lk L i=some (.iter (.mp j) (mapOf kv av m.l).length seen):=by rw [hi]; simp [mapOf,J8.size]
 refine(Q08 ho hx h5 hm h0).weaken (fun u L' h=>?_)
 rcases h with ⟨q,k,v,h1,h2,h3,h4⟩ | ⟨h1,h2,h3⟩
 .obtain⟨e,he,rfl,rfl⟩:=J34 h1
  exact .inl ⟨q,e,he,h2,h3,by rw [h4]; simp [mapOf,J8.size]⟩
 .exact .inr ⟨fun q hq=>h1 q (by simpa [mapOf] using hq),h2,h3⟩
theorem J60 {x:Operand} {i j T q:Nat} {m:J8 W Z} {seen:List Nat} {e:W×Z} (ho:o.op=.entry x) (hx:ev l x=.it i) (hi:lk L i=some (.iter (.mp j) m.size (seen++[q]))) (hm:lk L j=some (MP T kv av m)) (he:m.l[q]? = some e) (h0:Nat.blt T 1000000=true:=by rfl) :
  H2 P o l L (Is (.tup [bX (kv e.1),av e.2]) L):=by
 have h1:lk L i=some (.iter (.mp j) (mapOf kv av m.l).length (seen++[q])):=by rw [hi]; simp [mapOf,J8.size]
 exact Jb9 ho hx h1 hm (by rw [mapOf,Pj,he]; rfl) h0
theorem J4a {body:Code} {B:Type} (n:Nat) (I:List Nat→B→Prop) (F:List Nat→B→Fr) (M:List Nat→B→Loc) (s0:B) (h0:I [] s0) (hf:Fits N.base l L (F [] s0) (M [] s0))
  (hr:∀ i s,I i s→∀ K:Fr→Loc→Prop,(∀ l L i' s',I i' s'→unseen n i' < unseen n i→Fits N.base l L (F i' s') (M i' s')→K l L)→JC P N body (Q.seq K) (F i s) (M i s)):JC P N (.loop body) Q l L:=
 dP (fun x:List Nat×B=>I x.1 x.2) (fun x=>F x.1 x.2) (fun x=>M x.1 x.2) (fun x=>unseen n x.1) ([],s0) h0 hf
  (fun x hi K hK=>hr x.1 x.2 hi K (fun l L i' s' h1 h2 h3=>hK l L (i',s') h1 h2 h3))
end ops

/-! ### Ranging over a map: every order of its entries -/
section range
variable {J β B:Type}
def G59 (b:J→B→(B→Option (B ⊕ β))→Option (B ⊕ β)) (kx:B→Option β):List J→B→Option β
 | [],s=>kx s
 | x::xs,s=>match b x s (fun s'=>some (.inl s')) with
  | some (.inl s')=>G59 b kx xs s'
  | some (.inr r)=>some r
  | none=>none
def lft (x:Option β):Option (B ⊕ β):=x.map .inr
def H2d (b:J→B→(B→Option (B ⊕ Prop))→Option (B ⊕ Prop)) (kx:B→Option Prop) (l:List J) (s:B):Option Prop:=
 some (∀ q:List J,q.Perm l→∃ p,G59 b kx q s=some p/\p)
theorem J99 {x:Option β} {r:B ⊕ β} (h:lft x=some r):∃ y,r=.inr y/\x=some y:=by
 cases x with
 | none=>cases h
 | some y=>cases h; exact⟨y,rfl,rfl⟩
theorem G7d {b:J→B→(B→Option (B ⊕ Prop))→Option (B ⊕ Prop)} {kx:B→Option Prop} {x:J} {xs:List J} {s:B} (h:∃ p,G59 b kx (x::xs) s=some p/\p) :
  ∃ o,b x s (fun s'=>some (.inl s'))=some o/\(∀ r,o=.inr r→r)/\∀ s',o=.inl s'→∃ p,G59 b kx xs s'=some p/\p:=by
 obtain⟨p,h,hp⟩:=h
 rw [G59] at h
 cases hb:b x s (fun s'=>some (.inl s')) with
 | none=>rw [hb] at h; cases h
 | some o=>
  rw [hb] at h
  cases o with
  | inl s'=>exact⟨_,rfl,(fun r e=>by cases e),(fun s2 e=>by cases e; exact⟨p,h,hp⟩)⟩
  | inr r=>cases h; exact⟨_,rfl,(fun r2 e=>by cases e; exact hp),(fun s2 e=>by cases e)⟩
def MInv (b:J→B→(B→Option (B ⊕ Prop))→Option (B ⊕ Prop)) (kx:B→Option Prop) (l:List J) (seen:List Nat) (s:B):Prop:=
 (seen.Nodup/\∀ j∈seen,j < l.length)/\∀ q:List J,(seen.filterMap (fun j=>l[j]?)++q).Perm l→∃ p,G59 b kx q s=some p/\p
theorem MInv.start {b:J→B→(B→Option (B ⊕ Prop))→Option (B ⊕ Prop)} {kx:B→Option Prop} {l:List J} {s:B} {p:Prop} (h:H2d b kx l s=some p) (hp:p):MInv b kx l [] s:=by
 cases h
 exact⟨⟨List.nodup_nil,by simp⟩,by simpa using hp⟩
theorem J3c {b:J→B→(B→Option (B ⊕ Prop))→Option (B ⊕ Prop)} {kx:B→Option Prop} {l:List J} {s:B} {r:Option Prop} (h:H2d b kx l s=r):∃ b' kx',b=b'/\kx=kx'/\H2d b' kx' l s=r:=⟨b,kx,rfl,rfl,h⟩
theorem G0e {l:List J} {seen:List Nat} (hn:seen.Nodup) (hb:∀ j∈seen,j < l.length):∃ q,(seen.filterMap (fun j=>l[j]?)++q).Perm l:=by
 have h1:∃ r,(seen++r).Perm (List.range l.length):=by
  refine⟨(List.range l.length).filter (fun j=>!seen.contains j),?_⟩
  refine(List.perm_ext_iff_of_nodup ?_ List.nodup_range).2 (fun j=>?_)
  .refine List.nodup_append.2 ⟨hn,List.nodup_range.filter _,fun a ha b h0=>?_⟩
   have:=(Pw.1 h0).2
   intro e; subst e; simp [ha] at this
  .simp only [Ps,Pw,List.mem_range,Bool.not_eq_true',List.contains_eq_mem,decide_eq_false_iff_not]
   constructor
   .rintro(h | h)
    .exact hb j h
    .exact h.1
   .intro h
    by_cases hs:j∈seen
    .exact .inl hs
    .exact .inr ⟨h,hs⟩
 obtain⟨r,hr⟩:=h1
 have h2:=hr.filterMap (fun j=>l[j]?)
 have h3:(List.range l.length).filterMap (fun j=>l[j]?)=l:=by
  have key:∀ (l m:List J),(List.range' m.length l.length).filterMap (fun j=>(m++l)[j]?)=l:=by
   intro l
   induction l with
   | nil=>intro m; rfl
   | cons a r ih=>
    intro m
    have h1:=ih (m++[a])
    rw [Pi,List.range'_succ,List.filterMap_cons_some (b:=a) (by simp)]
    congr 1
    simpa using h1
  have:=key l []
  simpa [List.range_eq_range'] using this
 rw [List.filterMap_append,h3] at h2
 exact⟨_,h2⟩
theorem MInv.step {b:J→B→(B→Option (B ⊕ Prop))→Option (B ⊕ Prop)} {kx:B→Option Prop} {l:List J} {seen:List Nat} {s:B} {j:Nat} {e:J} (h:MInv b kx l seen s) (hj:l[j]? = some e) (hs:j ∉ seen) :
  ∃ o,b e s (fun s'=>some (.inl s'))=some o/\(∀ r,o=.inr r→r)/\∀ s',o=.inl s'→MInv b kx l (seen++[j]) s':=by
 obtain⟨⟨h1,h2⟩,h3⟩:=h
 have hn:(seen++[j]).Nodup:=List.nodup_append.2 ⟨h1,by simp,fun a ha b hb=>by simp at hb; subst hb; intro e; subst e; exact hs ha⟩
 have hb:∀ i∈seen++[j],i < l.length:=fun i hi=>by
  rcases Ps.1 hi with hi | hi
  .exact h2 i hi
  .simp at hi; subst hi; exact(Pa hj).1
 have h0:(seen++[j]).filterMap (fun j=>l[j]?)=seen.filterMap (fun j=>l[j]?)++[e]:=by
  rw [List.filterMap_append]; simp [hj]
 obtain⟨q,hq⟩:=G0e (l:=l) hn hb
 rw [h0,List.append_assoc] at hq
 obtain⟨o,o1,o2,_⟩:=G7d (h3 (e::q) hq)
 refine⟨o,o1,o2,fun s' ho=>⟨⟨hn,hb⟩,fun q' h4=>?_⟩⟩
 rw [h0,List.append_assoc] at h4
 obtain⟨o',p1,_,p3⟩:=G7d (h3 (e::q') h4)
 rw [o1] at p1; cases p1
 exact p3 s' ho
theorem MInv.done {b:J→B→(B→Option (B ⊕ Prop))→Option (B ⊕ Prop)} {kx:B→Option Prop} {l:List J} {seen:List Nat} {s:B} (h:MInv b kx l seen s) (ha:∀ j,j < l.length→j∈seen):∃ p,kx s=some p/\p:=by
 obtain⟨⟨h1,h2⟩,h3⟩:=h
 obtain⟨q,hq⟩:=G0e (l:=l) h1 h2
 have hl:(seen.filterMap (fun j=>l[j]?)).length=l.length:=by
  have hp:seen.Perm (List.range l.length):=(List.perm_ext_iff_of_nodup h1 List.nodup_range).2 (fun j=>by
   rw [List.mem_range]; exact⟨h2 j,ha j⟩)
  have h5:(seen.filterMap (fun j=>l[j]?)).length=seen.length:=by
   have:∀ s:List Nat,(∀ j∈s,j < l.length)→(s.filterMap (fun j=>l[j]?)).length=s.length:=by
    intro s
    induction s with
    | nil=>intro _; rfl
    | cons a r ih=>
     intro hs
     have ha:=hs a (by simp)
     rw [List.filterMap_cons_some (by simp [ha]; rfl),Pi,ih (fun j hj=>hs j (by simp [hj])),Pi]
   exact this seen h2
  rw [h5,hp.length_eq,List.length_range]
 have h0:q=[]:=by
  have:=hq.length_eq
  rw [Pn,hl] at this
  exact P1 (by omega)
 subst h0
 exact h3 [] hq
end range
end Go.Proofs.YthkihfoleenlmaaGreat
