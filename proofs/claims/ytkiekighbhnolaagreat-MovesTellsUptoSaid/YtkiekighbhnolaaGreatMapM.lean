/-
 Slices of typed elements that the call may write in place. Maps of typed keys and elements:
-/
import Derived.Test.YtkiekighbhnolaaGreatLend
namespace Go.Proofs.YtkiekighbhnolaaGreat
open Go.RowKit

section ops
variable {P:Program} {N:Cfg} {Q:Post} {o:Oper} {ops:Array Oper} {rest:List Oper} {l:Fr} {L L':Loc} {u:AV} {J:Type}

variable {xs:List J} {E T i k n ver:Nat} {x:Operand} {f:J->AV}
theorem pX {s:Operand} {by_ BK kx:Nat} {ys:List J} (ho:o.op=.call { callee:=.builtin .append,args:=#[s,x],argTypes:=#[T,T] }) (hs:ev l s=.vec i ver k n) (hi:lk L i=some (.vec E k ver (xs.map f))) (hx:Q4 (ev l x)=some (kx,ys.map f))
  (hT:sliceB P T E k=true) (hE:Qh P E k by_=true) (hb:decide ((xs.length+ys.length)*by_<=140737488355328/\xs.length+ys.length<=maxLen)=true) (h0:∀ y,(f y).BG=true) (hk:kx=k\/ys=[]) (hv:ver < BK) :
  H1 P o l L (Is (.vec i BK k (xs++ys).length) ((i,.vec E k BK ((xs++ys).map f))::L)):=by
 have h1:=Pq hb;have h:=Q2a (xs:=xs.map f) (ys:=ys.map f) ho hs hi hx hT hE (by simpa using h1.1) (by simpa using h1.2) (fun y hy=>by
  obtain⟨z,_,rfl⟩:=Sc.1 hy;exact h0 z) (hk.imp id (fun e=>by rw [e]; rfl)) hv
 simpa only [List.map_append,S6,Sa] using h
variable {m:Nat} {y:J}
theorem Z8 {ix:Operand} {kd:IntKind} {z:Int} (ho:o.op=.indexAddr T x ix) (hx:ev l x=.vec i ver k n) (h0:ev l ix=.sc (.int kd z)) (hi:lk L i=some (.vec E k ver (xs.map f))) (hT:sliceB P T E k=true) (hy:xs[m]? = some y) (hz:z=(m:Int)) :
  H1 P o l L (Is (.BB i ver m 0) L):=R07 ho hx h0 hi hT (by rw [Sa]; exact(Pu hy).1) hz
variable {t:Nat}
theorem fY {fo:Nat} (hT:Jg P T=true) (ho:o.op=.load T x) (hx:ev l x=.BB i ver m fo) (hi:lk L i=some (.vec t k ver (xs.map f))) (hy:xs[m]? = some y) (hu:(f y).cells[fo]? = some u) (h0:Nat.blt fo k=true):H1 P o l L (Is u L):=
 Qc4 hT ho hx hi (Qab hy) hu (by simpa [Nat.blt_eq] using h0)
theorem wQ {fo kk:Nat} {ds:AD} (hT:jQ P T kk=true) (ho:o.op=.load T x) (hx:ev l x=.BB i ver m fo) (hi:lk L i=some (.vec t k ver (xs.map f))) (hy:xs[m]? = some y) (h0:takeN kk ((f y).cells.drop fo)=some ds) (h1:Nat.ble (fo+kk) k=true):H1 P o l L (Is (.agg ds) L):=
 Jbf hT ho hx hi (Qab hy) h0 (by simpa [Nat.ble_eq] using h1)
theorem J9d {us cs:AD} (h:us.length=cs.length):RG 0 us cs=some us:=by
 have key:∀ (us cs:AD),us.length=cs.length->RG 0 us cs=some us:=by
  intro us
  induction us with
  | nil=>intro cs h; cases cs with
   | nil=>rfl
   | cons c r=>simp at h
  | cons a r ih=>intro cs h; cases cs with
   | nil=>simp at h
   | cons c s=>simp [RG,ih s (by simpa using h)]
 exact key us cs h
theorem nR {y:Operand} {z:J} (hT:Rh P T k=true) (ho:o.op=.store T x y) (hu:ev l y=f z) (hx:ev l x=.BB i ver m 0) (hi:lk L i=some (.vec t k ver (xs.map f))) (hm:m < xs.length)
  (hc:(f z).BG=true) (hd:(f z).BF=true) (hk:(f z).cells.length=k) (h1:Nat.blt 0 k=true) :
  H1 P o l L (Is .AJ ((i,.vec t k ver ((xs.set m z).map f))::L)):=by
 intro a w β K Q h0 hf hK;obtain⟨o1,_⟩:=h0.obj i _ hi;have he:(xs.map f)[m]? = some (f xs[m]):=by simp [hm]
 have h2:(f xs[m]).cells.length=k:=o1 _ (Px he);have h:=J41 (P:=P) (e:=f xs[m]) (z:=f z) (ds:=(f z).cells) hT ho hu hx hi he hc hd (J9d (hk.trans h2.symm)) rfl hk h1;rw [<- List.map_set] at h;exact h a w β K Q h0 hf hK
theorem H0d (i:Nat) {y:Operand} {by_:Nat} {kd kd':IntKind} {nx ny:Int} (z:J) (zs:AM) (ho:o.op=.makeSlice T x y) (hx:ev l x=.sc (.int kd nx)) (hy:ev l y=.sc (.int kd' ny)) (hi:lk L i=none)
  (hT:sliceB P T E k=true) (hE:Qh P E k by_=true) (hz:(P.info? E).bind (fun i=>i.zero.map Value.cells)=some zs.toArray) (hn:nx=(n:Int)) (hm:ny=(n:Int)) (hb:decide (by_*n<=281474976710656/\n<=maxLen/\n*k<=16777216)=true)
  (h0:ZOk (f z).cells zs) (h1:(f z).cells.length=k) :
  H1 P o l L (Is (.vec i 0 k (List.replicate n z).length) ((i,.vec E k 0 ((List.replicate n z).map f))::L)):=by
 have h:=Qc3 (P:=P) (T:=T) (E:=E) i zs ho hx hy hi hT hE hz hn hm hb (f z) (fun w S j a b ha h2=>by
  have:=ZOk.get (w:=w) (β:=⟨fun _=>none,fun b i=>¬ S b i⟩) (L:=[]) h0 j a b ha h2;refine(this.data_of_nil).mono fun b i hs=>⟨Classical.byContradiction fun hn=>hs.seen hn,rfl⟩) h1
 simpa only [List.map_replicate,List.length_replicate] using h
def xU (z:Int):Option Nat:=bif decide (0<=z) then some z.toNat else none
theorem mX {z:Int} (h:xU z=some n):z=(n:Int):=by
 unfold xU at h;cases hb:decide (0<=z) with
 | true=>rw [hb] at h; cases h; have:=Pq hb; omega
 | false=>rw [hb] at h; cases h
end ops

structure Ht (W Z:Type) where
 l:List (W×Z)
 nd:(l.map (·.1)).Nodup
namespace Ht
variable {W Z:Type} [DecidableEq W]
def empty:Ht W Z:=⟨[],List.nodup_nil⟩
def put (m:Ht W Z) (a:W) (v:Z):Ht W Z:=⟨pA m.l a v,Gdc m.nd a v⟩
def get (m:Ht W Z) (a:W) (z:Z):Z:=(gV m.l a).getD z
def has (m:Ht W Z) (a:W):Bool:=oQ m.l a
def size (m:Ht W Z):Nat:=m.l.length
end Ht
def MP {W Z:Type} (T:Nat) (kv:W->Value) (av:Z->AV) (m:Ht W Z):Q3:=.map T (mapOf kv av m.l)
def MI {W Z:Type} [DecidableEq W] (T:Nat) (kv:W->Value) (av:Z->AV) (m:Ht W Z) (a:W) (z:Z):Q3:=.map T (mapOf kv av (qS m.l a z))

section ops
variable {P:Program} {N:Cfg} {o:Oper} {l:Fr} {L L':Loc} {u:AV} {W Z:Type} {kv:W->Value} {av:Z->AV}

variable {T:Nat}
theorem ZI (i:Nat) (kv:W->Value) (av:Z->AV) (ho:o.op=.makeMap T none) (hi:lk L i=none) (h0:Nat.blt T 1000000=true:=by rfl):H1 P o l L (Is (.mp i) ((i,MP T kv av Ht.empty)::L)):=Q2f i ho hi h0
variable {m:Ht W Z} {E K i:Nat} {x y:Operand} {a:W}
theorem H66 [DecidableEq W] {ok:Bool} (z0:Z) (zv:Value) (ho:o.op=.lookup T x y ok) (hm:ev l x=.mp i) (hi:lk L i=some (MP T kv av m))
  (hx:ev l y=dF (kv a)) (hk:sV P K kv) (hT:gW P T K E=true) (hz:(P.info? E).bind (·.zero)=some zv) (h0:av z0=dF zv) :
  H1 P o l L (Is (bif ok then .tup [av (m.get a z0),BL (m.has a)] else av (m.get a z0)) L):=H12 z0 zv ho hm hi m.nd hx hk hT hz h0
theorem vF [DecidableEq W] (z0:Z) (zv:Value) (ho:o.op=.lookup T x y false) (hm:ev l x=.mp i) (hi:lk L i=some (MP T kv av m))
  (hx:ev l y=dF (kv a)) (hk:sV P K kv) (hT:gW P T K E=true) (hz:(P.info? E).bind (·.zero)=some zv) (h0:av z0=dF zv) :
  H1 P o l L (Is (av (m.get a z0)) L):=H66 (ok:=false) z0 zv ho hm hi hx hk hT hz h0
theorem Jc4 [DecidableEq W] (z0:Z) (zv:Value) (ho:o.op=.lookup T x y true) (hm:ev l x=.mp i) (hi:lk L i=some (MP T kv av m))
  (hx:ev l y=dF (kv a)) (hk:sV P K kv) (hT:gW P T K E=true) (hz:(P.info? E).bind (·.zero)=some zv) (h0:av z0=dF zv) :
  H1 P o l L (Is (.tup [av (m.get a z0),BL (m.has a)]) L):=H66 (ok:=true) z0 zv ho hm hi hx hk hT hz h0
theorem H11 [DecidableEq W] (z0:Z) (zv:Value) (ho:o.op=.lookup T x y false) (hm:ev l x=.mp i) (hi:lk L i=some (MI T kv av m a z0))
  (hx:ev l y=dF (kv a)) (hk:sV P K kv) (hT:gW P T K E=true) (hz:(P.info? E).bind (·.zero)=some zv) (h0:av z0=dF zv) :
  H1 P o l L (Is (av (m.get a z0)) L):=J46 z0 zv ho hm hi m.nd hx hk hT hz h0
theorem G23 [DecidableEq W] {z:Operand} {v:Z} (ho:o.op=.mapUpdate T x y z) (hm:ev l x=.mp i) (hi:lk L i=some (MP T kv av m))
  (hx:ev l y=dF (kv a)) (hy:(ev l z).plain=av v) (h0:(av v).BF=true) (hk:sV P K kv) (hT:gW P T K E=true) :
  H1 P o l L (Is .AJ ((i,MP T kv av (m.put a v))::L)):=J45 ho hm hi m.nd hx hy h0 hk hT
theorem G89 [DecidableEq W] (z0:Z) (zv:Value) (ho:o.op=.mapEntry T x y) (hm:ev l x=.mp i) (hi:lk L i=some (MP T kv av m))
  (hx:ev l y=dF (kv a)) (hk:sV P K kv) (hT:gW P T K E=true) (hz:(P.info? E).bind (·.zero)=some zv) (h0:av z0=dF zv) :
  H1 P o l L (Is (.tup [.AJ,I64 (fQ m.l a)]) ((i,MI T kv av m a z0)::L)):=Jc3 z0 zv ho hm hi m.nd hx hk hT hz h0
theorem RZ [DecidableEq W] {s:Operand} {v:Z} (z0:Z) (ho:o.op=.entryStore T x s y) (hm:ev l x=.mp i) (hi:lk L i=some (MI T kv av m a z0))
  (hs:ev l s=I64 (fQ m.l a)) (hy:(ev l y).plain=av v) (h0:(av v).BF=true) (h1:Nat.blt T 1000000=true:=by rfl) :
  H1 P o l L (Is .AJ ((i,MP T kv av (m.put a v))::L)):=H9d z0 ho hm hi m.nd hs hy h0 h1
theorem J43 (i:Nat) {j:Nat} (ho:o.op=.range T x) (hx:ev l x=.mp j) (hm:lk L j=some (MP T kv av m)) (hi:lk L i=none) (hT:gW P T K E=true) :
  H1 P o l L (Is (.it i) ((i,.iter (.mp j) m.size [])::L)):=by
 have h:=Qc6 (P:=P) i ho hx hm hi hT (gW.both hT).2;simpa only [mapOf,Sa,Ht.size] using h
end ops

section ops
variable {P:Program} {N:Cfg} {Q:Post} {o:Oper} {l:Fr} {L L':Loc} {u:AV} {W Z:Type} {kv:W->Value} {av:Z->AV}
def R43 (i j:Nat) (L:Loc) (kv:W->Value) (av:Z->AV) (m:Ht W Z) (seen:AI):AV->Loc->Prop:=fun u L'=>
 (∃ q e,m.l[q]? = some e/\q ∉ seen/\u=.tup [BL true,dF (kv e.1),av e.2]/\L'=(i,.iter (.mp j) m.size (seen++[q]))::L)\/((∀ q,q < m.l.length->q∈seen)/\u=.tup [BL false]/\L'=L)
theorem H1.weaken {R R':AV->Loc->Prop} (h:H1 P o l L R) (hR:∀ u L',R u L'->R' u L'):H1 P o l L R':=fun a w β K Q h1 h2 h3=>h a w β K Q h1 h2 (fun u L' v w' J' hr=>h3 u L' v w' J' (hR u L' hr))
variable {m:Ht W Z}
theorem Q56 {q:Nat} {k:Value} {v:AV} (h:(mapOf kv av m.l)[q]? = some (k,v)):∃ e:W×Z,m.l[q]? = some e/\k=kv e.1/\v=av e.2:=by
 rw [mapOf,S3] at h;cases hl:m.l[q]? with
 | none=>rw [hl] at h; cases h
 | some e=>rw [hl] at h; cases h; exact⟨e,rfl,rfl,rfl⟩
theorem Jf1 {x:Operand} {i j T:Nat} {seen:AI} (ho:o.op=.next x false) (hx:ev l x=.it i) (hi:lk L i=some (.iter (.mp j) m.size seen)) (hm:lk L j=some (MP T kv av m)) (h0:Nat.blt T 1000000=true:=by rfl):H1 P o l L (R43 i j L kv av m seen):=by
 have h5:lk L i=some (.iter (.mp j) (mapOf kv av m.l).length seen):=by rw [hi]; simp [mapOf,Ht.size]
 refine(R11 ho hx h5 hm h0).weaken (fun u L' h=>?_);rcases h with ⟨q,k,v,h1,h2,h3,h4⟩ | ⟨h1,h2,h3⟩
 .obtain⟨e,he,rfl,rfl⟩:=Q56 h1;exact .inl ⟨q,e,he,h2,h3,by rw [h4]; simp [mapOf,Ht.size]⟩
 .exact .inr ⟨fun q hq=>h1 q (by simpa [mapOf] using hq),h2,h3⟩
theorem J47 {x:Operand} {i j T q:Nat} {seen:AI} {e:W×Z} (ho:o.op=.entry x) (hx:ev l x=.it i) (hi:lk L i=some (.iter (.mp j) m.size (seen++[q]))) (hm:lk L j=some (MP T kv av m)) (he:m.l[q]? = some e) (h0:Nat.blt T 1000000=true:=by rfl) :
  H1 P o l L (Is (.tup [dF (kv e.1),av e.2]) L):=by
 have h1:lk L i=some (.iter (.mp j) (mapOf kv av m.l).length (seen++[q])):=by rw [hi]; simp [mapOf,Ht.size]
 exact Qcb ho hx h1 hm (by rw [mapOf,S3,he]; rfl) h0
theorem J3a {body:Code} {B:Type} (n:Nat) (I:AI->B->Prop) (F:AI->B->Fr) (M:AI->B->Loc) (s0:B) (h0:I [] s0) (hf:Fits N.base l L (F [] s0) (M [] s0))
  (hr:∀ i s,I i s->∀ K:Fr->Loc->Prop,(∀ l L i' s',I i' s'->unseen n i' < unseen n i->Fits N.base l L (F i' s') (M i' s')->K l L)->JC P N body (Q.seq K) (F i s) (M i s)):JC P N (.loop body) Q l L:=
 fE (fun x:AI×B=>I x.1 x.2) (fun x=>F x.1 x.2) (fun x=>M x.1 x.2) (fun x=>unseen n x.1) ([],s0) h0 hf
  (fun x hi K hK=>hr x.1 x.2 hi K (fun l L i' s' h1 h2 h3=>hK l L (i',s') h1 h2 h3))
end ops

/-! ### Ranging over a map: every order of its entries -/
section range
variable {J β B:Type}
def G01 (b:J->B->(B->Option (B ⊕ β))->Option (B ⊕ β)) (kx:B->Option β):List J->B->Option β
 | [],s=>kx s
 | x::xs,s=>match b x s (fun s'=>some (.inl s')) with
  | some (.inl s')=>G01 b kx xs s'
  | some (.inr r)=>some r
  | none=>none
def lft (x:Option β):Option (B ⊕ β):=x.map .inr
def H5d (b:J->B->(B->Option (B ⊕ Prop))->Option (B ⊕ Prop)) (kx:B->Option Prop) (l:List J) (s:B):Option Prop:=
 some (∀ q:List J,q.Perm l->∃ p,G01 b kx q s=some p/\p)
theorem Qac {x:Option β} {r:B ⊕ β} (h:lft x=some r):∃ y,r=.inr y/\x=some y:=by
 cases x with
 | none=>cases h
 | some y=>cases h; exact⟨y,rfl,rfl⟩
variable {b:J->B->(B->Option (B ⊕ Prop))->Option (B ⊕ Prop)} {s:B} {kx:B->Option Prop}
theorem H4d {x:J} {xs:List J} (h:∃ p,G01 b kx (x::xs) s=some p/\p) :
  ∃ o,b x s (fun s'=>some (.inl s'))=some o/\(∀ r,o=.inr r->r)/\∀ s',o=.inl s'->∃ p,G01 b kx xs s'=some p/\p:=by
 obtain⟨p,h,hp⟩:=h;rw [G01] at h;cases hb:b x s (fun s'=>some (.inl s')) with
 | none=>rw [hb] at h; cases h
 | some o=>
  rw [hb] at h;cases o with
  | inl s'=>exact⟨_,rfl,(fun r e=>by cases e),(fun s2 e=>by cases e; exact⟨p,h,hp⟩)⟩
  | inr r=>cases h; exact⟨_,rfl,(fun r2 e=>by cases e; exact hp),(fun s2 e=>by cases e)⟩
def MInv (b:J->B->(B->Option (B ⊕ Prop))->Option (B ⊕ Prop)) (kx:B->Option Prop) (l:List J) (seen:AI) (s:B):Prop:=
 (seen.Nodup/\∀ j∈seen,j < l.length)/\∀ q:List J,(seen.filterMap (fun j=>l[j]?)++q).Perm l->∃ p,G01 b kx q s=some p/\p
variable {l:List J}
theorem MInv.start {p:Prop} (h:H5d b kx l s=some p) (hp:p):MInv b kx l [] s:=by
 cases h;exact⟨⟨List.nodup_nil,by simp⟩,by simpa using hp⟩
theorem J22 {r:Option Prop} (h:H5d b kx l s=r):∃ b' kx',b=b'/\kx=kx'/\H5d b' kx' l s=r:=⟨b,kx,rfl,rfl,h⟩
variable {seen:AI}
theorem Gd9 (hn:seen.Nodup) (hb:∀ j∈seen,j < l.length):∃ q,(seen.filterMap (fun j=>l[j]?)++q).Perm l:=by
 have h1:∃ r,(seen++r).Perm (List.range l.length):=by
  refine⟨(List.range l.length).filter (fun j=>!seen.contains j),?_⟩;refine(List.perm_ext_iff_of_nodup ?_ List.nodup_range).2 (fun j=>?_)
  .refine List.nodup_append.2 ⟨hn,List.nodup_range.filter _,fun a ha b h0=>?_⟩;have:=(Sf.1 h0).2;intro e; subst e; simp [ha] at this
  .simp only [Sb,Sf,List.mem_range,Bool.not_eq_true',List.contains_eq_mem,decide_eq_false_iff_not];constructor
   .rintro(h | h)
    .exact hb j h
    .exact h.1
   .intro h;by_cases hs:j∈seen
    .exact .inl hs
    .exact .inr ⟨h,hs⟩
 obtain⟨r,hr⟩:=h1;have h2:=hr.filterMap (fun j=>l[j]?);have h3:(List.range l.length).filterMap (fun j=>l[j]?)=l:=by
  have key:∀ (l m:List J),(List.range' m.length l.length).filterMap (fun j=>(m++l)[j]?)=l:=by
   intro l
   induction l with
   | nil=>intro m; rfl
   | cons a r ih=>
    intro m;have h1:=ih (m++[a]);rw [S2,List.range'_succ,List.filterMap_cons_some (b:=a) (by simp)];congr 1;simpa using h1
  have:=key l [];simpa [List.range_eq_range'] using this
 rw [List.filterMap_append,h3] at h2;exact⟨_,h2⟩
theorem MInv.step {j:Nat} {e:J} (h:MInv b kx l seen s) (hj:l[j]? = some e) (hs:j ∉ seen) :
  ∃ o,b e s (fun s'=>some (.inl s'))=some o/\(∀ r,o=.inr r->r)/\∀ s',o=.inl s'->MInv b kx l (seen++[j]) s':=by
 obtain⟨⟨h1,h2⟩,h3⟩:=h;have hn:(seen++[j]).Nodup:=List.nodup_append.2 ⟨h1,by simp,fun a ha b hb=>by simp at hb; subst hb; intro e; subst e; exact hs ha⟩;have hb:∀ i∈seen++[j],i < l.length:=fun i hi=>by
  rcases Sb.1 hi with hi | hi
  .exact h2 i hi
  .simp at hi; subst hi; exact(Pu hj).1
 have h0:(seen++[j]).filterMap (fun j=>l[j]?)=seen.filterMap (fun j=>l[j]?)++[e]:=by
  rw [List.filterMap_append]; simp [hj]
 obtain⟨q,hq⟩:=Gd9 (l:=l) hn hb;rw [h0,List.append_assoc] at hq;obtain⟨o,o1,o2,_⟩:=H4d (h3 (e::q) hq);refine⟨o,o1,o2,fun s' ho=>⟨⟨hn,hb⟩,fun q' h4=>?_⟩⟩;rw [h0,List.append_assoc] at h4;obtain⟨o',p1,_,p3⟩:=H4d (h3 (e::q') h4);rw [o1] at p1; cases p1;exact p3 s' ho
theorem MInv.done (h:MInv b kx l seen s) (ha:∀ j,j < l.length->j∈seen):∃ p,kx s=some p/\p:=by
 obtain⟨⟨h1,h2⟩,h3⟩:=h;obtain⟨q,hq⟩:=Gd9 (l:=l) h1 h2;have hl:(seen.filterMap (fun j=>l[j]?)).length=l.length:=by
  have hp:seen.Perm (List.range l.length):=(List.perm_ext_iff_of_nodup h1 List.nodup_range).2 (fun j=>by
   rw [List.mem_range]; exact⟨h2 j,ha j⟩)
  have h5:(seen.filterMap (fun j=>l[j]?)).length=seen.length:=by
   have:∀ s:AI,(∀ j∈s,j < l.length)->(s.filterMap (fun j=>l[j]?)).length=s.length:=by
    intro s
    induction s with
    | nil=>intro _; rfl
    | cons a r ih=>
     intro hs;have ha:=hs a (by simp);rw [List.filterMap_cons_some (by simp [ha]; rfl),S2,ih (fun j hj=>hs j (by simp [hj])),S2]
   exact this seen h2
  rw [h5,hp.length_eq,List.length_range]
 have h0:q=[]:=by
  have:=hq.length_eq;rw [S6,hl] at this;exact Pk (by omega)
 subst h0;exact h3 [] hq
end range
end Go.Proofs.YtkiekighbhnolaaGreat
