/- Combinators of the models that the extractor prints,and what -/
import Derived.Test.YthkihfoleenlmaaGreatMore
namespace Go.Proofs.YthkihfoleenlmaaGreat
open Go.RowKit

section model
variable {α β σ:Type}

def loop (b:(σ→Option β)→σ→Option β):Nat→σ→Option β
 | 0,_=>none
 | n+1,s=>b (loop b n) s
def each (b:α→Nat→σ→(σ→Option β)→Option β) (kx:σ→Option β):List α→Nat→σ→Option β
 | [],_,s=>kx s
 | x::xs,i,s=>b x i s (each b kx xs (i+1))
def upto (b:Nat→σ→(σ→Option β)→Option β) (kx:σ→Option β):Nat→Nat→σ→Option β
 | 0,_,s=>kx s
 | n+1,i,s=>b i s (upto b kx n (i+1))
def jp (m:(α→Option β)→Option β) (k:α→Option β):Option β:=m k
def bnd (m:Option α) (k:α→Option β):Option β:=match m with
 | some x=>k x
 | none=>none
def G34 (z:Int):Bool:=decide (-9223372036854775808≤z)&&decide (z≤9223372036854775807)
def chk (z:Int) (k:Int→Option β):Option β:=bif G34 z then k z else none
def wrp (z:Int) (k:Int→Option β):Option β:=k (IntKind.i64.wrap z)
theorem Hfc {z:Int} {k:Int→Option β} {r:β} (h:wrp z k=some r):∃ v,IntKind.i64.wrap z=v∧k v=some r:=⟨_,rfl,h⟩
def Jx (l:List α) (i:Int) (k:α→Option β):Option β:=bif decide (0≤i) then bnd l[i.toNat]? k else none
def need (b:Bool) (k:Option β):Option β:=bif b then k else none

theorem Yu {b:(σ→Option β)→σ→Option β} {n:Nat} {s:σ} {r:β} (h:loop b n s=some r):∃ m nx,n=m+1∧loop b m=nx∧b nx s=some r:=by
 cases n with
 | zero=>cases h
 | succ m=>exact⟨m,_,rfl,rfl,h⟩
theorem J5 {b:α→Nat→σ→(σ→Option β)→Option β} {kx:σ→Option β} {xs:List α} {i k:Nat} {s:σ} {r:β} (h:each b kx (xs.drop k) i s=some r) (hk:¬ k < xs.length):kx s=some r:=by
 rw [List.drop_eq_nil_of_le (by omega)] at h; exact h
theorem J4 {b:α→Nat→σ→(σ→Option β)→Option β} {kx:σ→Option β} {xs:List α} {i k:Nat} {s:σ} {r:β} (h:each b kx (xs.drop k) i s=some r) (hk:k < xs.length) :
  ∃ x nx,xs[k]? = some x∧each b kx (xs.drop (k+1)) (i+1)=nx∧b x i s nx=some r:=by
 rw [List.drop_eq_getElem_cons hk] at h
 exact⟨xs[k],_,by simp [hk],rfl,h⟩
theorem eI {b:Nat→σ→(σ→Option β)→Option β} {kx:σ→Option β} {n i k:Nat} {s:σ} {r:β} (h:upto b kx (n - k) i s=some r) (hk:¬ k < n):kx s=some r:=by
 rw [show n - k=0 by omega] at h; exact h
theorem eH {b:Nat→σ→(σ→Option β)→Option β} {kx:σ→Option β} {n i k:Nat} {s:σ} {r:β} (h:upto b kx (n - k) i s=some r) (hk:k < n) :
  ∃ nx,upto b kx (n - (k+1)) (i+1)=nx∧b i s nx=some r:=by
 rw [show n - k=(n - (k+1))+1 by omega] at h
 exact⟨_,rfl,h⟩
theorem bE {m:(α→Option β)→Option β} {k:α→Option β} {r:β} (h:jp m k=some r):∃ kk,k=kk∧m kk=some r:=⟨k,rfl,h⟩
theorem Ge {m:Option α} {k:α→Option β} {r:β} (h:bnd m k=some r):∃ x,m=some x∧k x=some r:=by
 cases m with
 | none=>cases h
 | some x=>exact⟨x,rfl,h⟩
theorem Hd {z:Int} {k:Int→Option β} {r:β} (h:chk z k=some r):∃ v,IntKind.i64.wrap z=v∧k v=some r:=by
 unfold chk at h
 cases hz:G34 z with
 | true=>
  rw [hz] at h
  simp only [G34,P7,P8] at hz
  exact⟨z,cJ hz.1 hz.2,h⟩
 | false=>rw [hz] at h; cases h
theorem Q8 {l:List α} {i:Int} {k:α→Option β} {r:β} (h:Jx l i k=some r):∃ (m:Nat) (x:α),i=(m:Int)∧l[m]? = some x∧k x=some r:=by
 unfold Jx at h
 cases hz:decide (0≤i) with
 | true=>
  rw [hz] at h
  obtain⟨x,hx,h⟩:=Ge h
  exact⟨i.toNat,x,by have:=Np hz; omega,hx,h⟩
 | false=>rw [hz] at h; cases h
theorem J2 {b:Bool} {k:Option β} {r:β} (h:need b k=some r):b=true∧k=some r:=by
 cases b with
 | true=>exact⟨rfl,h⟩
 | false=>cases h
theorem Gw {c:Bool} {x y z:α} (hc:c=true) (h:(bif c then x else y)=z):x=z:=by subst hc; exact h
theorem Hs {c:Bool} {x y z:α} (hc:c=false) (h:(bif c then x else y)=z):y=z:=by subst hc; exact h
theorem J24 {f:α→AV} {l:List α} {m:Nat} {x:α} (h:l[m]? = some x):(l.map f)[m]? = some (f x):=by simp [h]
end model

abbrev ST (s:ByteArray):AV:=.sc (.string s)
abbrev LS {α:Type} (k:Nat) (f:α→AV) (xs:List α):AV:=.list k (xs.map f)
abbrev E0:Value:=.int .i64 0
abbrev Ei (n:Nat):AV:=I64 (n:Int)
abbrev E1:=LS 1 I64
abbrev OW {α:Type} (i k:Nat) (f:α→AV) (xs:List α):AV:=.own i xs.length k (xs.map f)

section ops
variable {P:Program} {N:Cfg} {Q:Post} {l:Fr} {L L':Loc} {ops:Array Oper} {o:Oper} {rest:List Oper} {u:AV} {α:Type}

theorem H3 {x:Operand} {T E k k' d:Nat} {f:α→AV} {xs:List α} (hT:sliceB P T E k'=true) (ho:o.op=.call { callee:=.builtin .len,args:=#[x],argTypes:=#[T] }) (hx:Jt (ev l x)=some (k,xs.map f))
  (hk:xs.length≤maxLen→JL P N ops rest Q ((d,I64 (xs.length:Int))::l) L) (hg:o.guard=none) (hd:o.dst=some d) (hn:Nat.blt d N.n=true):JL P N ops (o::rest) Q l L:=
 J77 hT (fun hm=>by simp only [P9] at hm ⊢; exact hk hm) ho hx hg hd hn
theorem JLl {x:Operand} {T E k k' d:Nat} {f:α→AV} {xs:List α} (hT:sliceB P T E k'=true) (ho:o.op=.call { callee:=.builtin .len,args:=#[x],argTypes:=#[T] }) (hx:Jt (ev l x)=some (k,xs.map f)) (hd:o.dst=some d)
  (hk:xs.length≤maxLen→JL P N ops rest Q ((d,I64 (xs.length:Int))::l) L) (hg:o.guard=none:=by rfl) (hn:Nat.blt d N.n=true:=by rfl):JL P N ops (o::rest) Q l L:=H3 hT ho hx hk hg hd hn
theorem Q4 {x:Operand} {T E k k':Nat} {f:α→AV} {xs:List α} (hT:sliceB P T E k'=true) (ho:o.op=.call { callee:=.builtin .len,args:=#[x],argTypes:=#[T] }) (hx:Jt (ev l x)=some (k,xs.map f)):Gv P o l L (Is (I64 (xs.length:Int)) L):=by
 have:=He9 (L:=L) hT ho hx
 simpa only [P9] using this
theorem Gb {x:Operand} {T f off:Nat} {cs ds:List AV} (hT:Je P T f off=true) (ho:o.op=.fieldAddr T x f) (hx:ev l x=.dptr cs) (hd:cs.drop off=ds):Gv P o l L (Is (.dptr ds) L):=hd ▸ zE hT ho hx
theorem Gs {x ix:Operand} {T E k m:Nat} {kd:IntKind} {n:Int} {f:α→AV} {xs:List α} {y:α} (ho:o.op=.indexAddr T x ix) (hx:Jt (ev l x)=some (k,xs.map f)) (hi:ev l ix=.sc (.int kd n)) (hT:sliceB P T E k=true) (hy:xs[m]? = some y) (hm:n=(m:Int)) :
  Gv P o l L (Is (.dptr (f y).cells) L):=J3e ho hx hi hT (J24 hy) hm
theorem R3 {s x:Operand} {T E k by_ i kx:Nat} {f:α→AV} {xs ys:List α} (ho:o.op=.call { callee:=.builtin .append,args:=#[s,x],argTypes:=#[T,T] }) (hs:ev l s=OW i k f xs) (hi:lk L i=some (.spare E k xs.length xs.length)) (hx:Jt (ev l x)=some (kx,ys.map f))
  (hT:sliceB P T E k=true) (hE:Qd P E k by_=true) (hb:decide ((xs.length+ys.length)*by_≤140737488355328∧xs.length+ys.length≤maxLen)=true) (h0:∀ y,(f y).flatOk=true) (hk:kx=k∨ys=[]) (hy:ys.length=1) :
  Gv P o l L (Is (OW i k f (xs++ys)) ((i,.spare E k (xs++ys).length (xs++ys).length)::L)):=by
 have h1:=Np hb
 have h:=Hef (xs:=xs.map f) (ys:=ys.map f) ho hs hi hx hT hE (by simpa using h1.1) (by simpa using h1.2) (fun y hy=>by
  obtain⟨z,_,rfl⟩:=Pb.1 hy
  exact h0 z) (hk.imp id (fun e=>by rw [e]; rfl))
 simpa only [OW,List.map_append,P5,P9,hy] using h
theorem H47 {x p:Operand} {T E k m:Nat} {kd:IntKind} {mi:Int} {f:α→AV} {xs:List α} (ho:o.op=.slice T x (some p) none none) (hx:Jt (ev l x)=some (k,xs.map f)) (hp:ev l p=.sc (.int kd mi)) (hT:sliceB P T E k=true) (hm:mi=(m:Int)∧m≤xs.length) :
  Gv P o l L (Is (LS k f (xs.drop m)) L):=by
 have h:=H9f (L:=L) ho hx hp hT hm.1 (by simpa using hm.2)
 simpa only [LS,List.map_drop] using h
end ops

section model
variable {α β σ:Type}
theorem bS {z v:Int} (h:chk z some=some v):IntKind.i64.wrap z=v:=by
 obtain⟨x,hx,e⟩:=Hd h
 cases e; exact hx
theorem Qk {l:List α} {i:Int} {x:α} (h:Jx l i some=some x):∃ m:Nat,i=(m:Int)∧l[m]? = some x:=by
 obtain⟨m,y,hm,hy,e⟩:=Q8 h
 cases e; exact⟨m,hm,hy⟩
theorem Yr {l:List α} {i:Int} {k:α→Option β} {r:β} (h:Jx l i k=some r):∃ x,i=(i.toNat:Int)∧l[i.toNat]? = some x∧k x=some r:=by
 obtain⟨m,x,hm,hx,h⟩:=Q8 h
 exact⟨x,by omega,by rw [hm]; exact hx,h⟩
theorem eG {l:List α} {i:Int} {x:α} (h:Jx l i some=some x):i=(i.toNat:Int):=by obtain⟨m,hm,_⟩:=Qk h; omega
theorem Y0 {l:List α} {i:Int} {x:α} (h:Jx l i some=some x):l[i.toNat]? = some x:=by obtain⟨m,hm,h⟩:=Qk h; rw [hm]; exact h
def cN (i:Int) (n:Nat):Option Nat:=bif decide (0≤i)&&decide (i.toNat≤n) then some i.toNat else none
theorem Rw {i:Int} {n m:Nat} (h:cN i n=some m):i=(m:Int)∧m≤n:=by
 unfold cN at h
 cases hb:decide (0≤i)&&decide (i.toNat≤n) with
 | true=>
  rw [hb] at h; cases h
  simp only [P7,P8] at hb
  exact⟨by omega,hb.2⟩
 | false=>rw [hb] at h; cases h
def RW (m n:Int):Option Int:=bif decide (n=0) then none else chk (m.tdiv n) some
theorem mY {m n v:Int} (h:RW m n=some v):n≠0∧IntKind.i64.wrap (m.tdiv n)=v:=by
 unfold RW at h
 cases hb:decide (n=0) with
 | true=>rw [hb] at h; cases h
 | false=>rw [hb] at h; exact⟨Nq hb,bS h⟩
theorem Hq {k n:Nat} (hk:k < n) (hn:n≤maxLen):IntKind.i64.wrap ((k:Int)+1)=((k+1:Nat):Int):=by
 rw [cJ (by omega) (by unfold maxLen at hn; omega)]; rfl
theorem eJ {k:Nat} {e:Int} (h:decide ((k:Int) < e)=true):k < e.toNat:=by have:=Np h; omega
theorem Z2 {k:Nat} {e:Int} (h:decide ((k:Int) < e)=false):¬ k < e.toNat:=by have:=Nq h; omega
theorem Q1 {k n:Nat} (h:decide ((k:Int) < (n:Int))=true):k < n:=by have:=Np h; omega
theorem Hg {k n:Nat} (h:decide ((k:Int) < (n:Int))=false):¬ k < n:=by have:=Nq h; omega
theorem cI {e:Int} (h:decide (e≤9223372036854775807)=true):e.toNat≤maxLen:=by have:=Np h; unfold maxLen; omega
theorem app1 {α β:Type} {f g:α→β} {x:α} {r:β} (e:f=g) (h:g x=r):f x=r:=e ▸ h
theorem qA {α γ β:Type} {f g:α→γ→β} {x:α} {y:γ} {r:β} (e:f=g) (h:g x y=r):f x y=r:=e ▸ h
theorem vM {α γ δ β:Type} {f g:α→γ→δ→β} {x:α} {y:γ} {z:δ} {r:β} (e:f=g) (h:g x y z=r):f x y z=r:=e ▸ h
theorem Zt {α γ δ ε β:Type} {f g:α→γ→δ→ε→β} {x:α} {y:γ} {z:δ} {u:ε} {r:β} (e:f=g) (h:g x y z u=r):f x y z u=r:=e ▸ h
theorem Jg {b:α→Nat→σ→(σ→Option β)→Option β} {kx:σ→Option β} {xs:List α} {s:σ} {r:Option β} (h:each b kx xs 0 s=r):∃ b' kx',b=b'∧kx=kx'∧each b' kx' (xs.drop 0) 0 s=r:=⟨b,kx,rfl,rfl,by rw [List.drop_zero]; exact h⟩
theorem gT {b:Nat→σ→(σ→Option β)→Option β} {kx:σ→Option β} {n:Nat} {s:σ} {r:Option β} (h:upto b kx n 0 s=r):∃ b' kx',b=b'∧kx=kx'∧upto b' kx' (n - 0) 0 s=r:=⟨b,kx,rfl,rfl,h⟩
theorem aF {b:(σ→Option β)→σ→Option β} {n:Nat} {s:σ} {r:Option β} (h:loop b n s=r):∃ b',b=b'∧loop b' n s=r:=⟨b,rfl,h⟩
end model

section code
variable {P:Program} {N:Cfg} {Q:Post} {l:Fr} {L:Loc}
theorem H7 {body:Code} {σ:Type} (I:Nat→σ→Prop) (F:Nat→σ→Fr) (M:Nat→σ→Loc) (μ:Nat→Nat) (i0:Nat) (s0:σ) (h0:I i0 s0) (hf:Fits N.base l L (F i0 s0) (M i0 s0))
  (hr:∀ i s,I i s→∀ K:Fr→Loc→Prop,(∀ l L i' s',I i' s'→μ i' < μ i→Fits N.base l L (F i' s') (M i' s')→K l L)→JC P N body (Q.seq K) (F i s) (M i s)):JC P N (.loop body) Q l L:=
 bX (fun x:Nat×σ=>I x.1 x.2) (fun x=>F x.1 x.2) (fun x=>M x.1 x.2) (fun x=>μ x.1) (i0,s0) h0 hf
  (fun x hi K hK=>hr x.1 x.2 hi K (fun l L i' s' h1 h2 h3=>hK l L (i',s') h1 h2 h3))
end code
end Go.Proofs.YthkihfoleenlmaaGreat
