/- Combinators of the models that the extractor prints,and what -/
import Derived.Test.YthkihfoleenlmaaGreatMore
namespace Go.Proofs.YthkihfoleenlmaaGreat
open Go.RowKit

section model
variable {J β W:Type}

def loop (b:(W→Option β)→W→Option β):Nat→W→Option β
 | 0,_=>none
 | n+1,s=>b (loop b n) s
def each (b:J→Nat→W→(W→Option β)→Option β) (kx:W→Option β):List J→Nat→W→Option β
 | [],_,s=>kx s
 | x::xs,i,s=>b x i s (each b kx xs (i+1))
def upto (b:Nat→W→(W→Option β)→Option β) (kx:W→Option β):Nat→Nat→W→Option β
 | 0,_,s=>kx s
 | n+1,i,s=>b i s (upto b kx n (i+1))
def jp (m:(J→Option β)→Option β) (k:J→Option β):Option β:=m k
def bnd (m:Option J) (k:J→Option β):Option β:=match m with
 | some x=>k x
 | none=>none
def H26 (z:Int):Bool:=decide (-9223372036854775808≤z)&&decide (z≤9223372036854775807)
def chk (z:Int) (k:Int→Option β):Option β:=bif H26 z then k z else none
def wrp (z:Int) (k:Int→Option β):Option β:=k (IntKind.i64.wrap z)
theorem J6f {z:Int} {k:Int→Option β} {r:β} (h:wrp z k=some r):∃ v,IntKind.i64.wrap z=v/\k v=some r:=⟨_,rfl,h⟩
def Jo (l:List J) (i:Int) (k:J→Option β):Option β:=bif decide (0≤i) then bnd l[i.toNat]? k else none
def need (b:Bool) (k:Option β):Option β:=bif b then k else none

theorem G15 {b:(W→Option β)→W→Option β} {n:Nat} {s:W} {r:β} (h:loop b n s=some r):∃ m nx,n=m+1/\loop b m=nx/\b nx s=some r:=by
 cases n with
 | zero=>cases h
 | succ m=>exact⟨m,_,rfl,rfl,h⟩
theorem Hi {b:J→Nat→W→(W→Option β)→Option β} {kx:W→Option β} {xs:List J} {i k:Nat} {s:W} {r:β} (h:each b kx (xs.drop k) i s=some r) (hk:¬ k < xs.length):kx s=some r:=by
 rw [List.drop_eq_nil_of_le (by omega)] at h; exact h
theorem Hh {b:J→Nat→W→(W→Option β)→Option β} {kx:W→Option β} {xs:List J} {i k:Nat} {s:W} {r:β} (h:each b kx (xs.drop k) i s=some r) (hk:k < xs.length) :
  ∃ x nx,xs[k]? = some x/\each b kx (xs.drop (k+1)) (i+1)=nx/\b x i s nx=some r:=by
 rw [List.drop_eq_getElem_cons hk] at h
 exact⟨xs[k],_,by simp [hk],rfl,h⟩
theorem cB {b:Nat→W→(W→Option β)→Option β} {kx:W→Option β} {n i k:Nat} {s:W} {r:β} (h:upto b kx (n - k) i s=some r) (hk:¬ k < n):kx s=some r:=by
 rw [show n - k=0 by omega] at h; exact h
theorem cA {b:Nat→W→(W→Option β)→Option β} {kx:W→Option β} {n i k:Nat} {s:W} {r:β} (h:upto b kx (n - k) i s=some r) (hk:k < n) :
  ∃ nx,upto b kx (n - (k+1)) (i+1)=nx/\b i s nx=some r:=by
 rw [show n - k=(n - (k+1))+1 by omega] at h
 exact⟨_,rfl,h⟩
theorem gF {m:(J→Option β)→Option β} {k:J→Option β} {r:β} (h:jp m k=some r):∃ kk,k=kk/\m kk=some r:=⟨k,rfl,h⟩
theorem Gd {m:Option J} {k:J→Option β} {r:β} (h:bnd m k=some r):∃ x,m=some x/\k x=some r:=by
 cases m with
 | none=>cases h
 | some x=>exact⟨x,rfl,h⟩
theorem R2 {z:Int} {k:Int→Option β} {r:β} (h:chk z k=some r):∃ v,IntKind.i64.wrap z=v/\k v=some r:=by
 unfold chk at h
 cases hz:H26 z with
 | true=>
  rw [hz] at h
  simp only [H26,Pp,Pq] at hz
  exact⟨z,dV hz.1 hz.2,h⟩
 | false=>rw [hz] at h; cases h
theorem R0 {l:List J} {i:Int} {k:J→Option β} {r:β} (h:Jo l i k=some r):∃ (m:Nat) (x:J),i=(m:Int)/\l[m]? = some x/\k x=some r:=by
 unfold Jo at h
 cases hz:decide (0≤i) with
 | true=>
  rw [hz] at h
  obtain⟨x,hx,h⟩:=Gd h
  exact⟨i.toNat,x,by have:=P6 hz; omega,hx,h⟩
 | false=>rw [hz] at h; cases h
theorem J5 {b:Bool} {k:Option β} {r:β} (h:need b k=some r):b=true/\k=some r:=by
 cases b with
 | true=>exact⟨rfl,h⟩
 | false=>cases h
theorem Gv {c:Bool} {x y z:J} (hc:c=true) (h:(bif c then x else y)=z):x=z:=by subst hc; exact h
theorem Ht {c:Bool} {x y z:J} (hc:c=false) (h:(bif c then x else y)=z):y=z:=by subst hc; exact h
theorem J97 {f:J→AV} {l:List J} {m:Nat} {x:J} (h:l[m]? = some x):(l.map f)[m]? = some (f x):=by simp [h]
end model

abbrev ST (s:ByteArray):AV:=.sc (.string s)
abbrev LS {J:Type} (k:Nat) (f:J→AV) (xs:List J):AV:=.list k (xs.map f)
abbrev E0:Value:=.int .i64 0
abbrev Ej (n:Nat):AV:=I64 (n:Int)
abbrev Eb:=LS 1 U8
abbrev E2:=LS 1 I64
abbrev OW {J:Type} (i k:Nat) (f:J→AV) (xs:List J):AV:=.own i xs.length k (xs.map f)

section ops
variable {P:Program} {N:Cfg} {Q:Post} {l:Fr} {L L':Loc} {ops:Array Oper} {o:Oper} {rest:List Oper} {u:AV} {J:Type}

theorem H1 {x:Operand} {T E k k' d:Nat} {f:J→AV} {xs:List J} (hT:sliceB P T E k'=true) (ho:o.op=.call { callee:=.builtin .len,args:=#[x],argTypes:=#[T] }) (hx:Jz (ev l x)=some (k,xs.map f))
  (hk:xs.length≤maxLen→JL P N ops rest Q ((d,I64 (xs.length:Int))::l) L) (hg:o.guard=none) (hd:o.dst=some d) (hn:Nat.blt d N.n=true):JL P N ops (o::rest) Q l L:=
 Jf4 hT (fun hm=>by simp only [Pr] at hm ⊢; exact hk hm) ho hx hg hd hn
theorem JLl {x:Operand} {T E k k' d:Nat} {f:J→AV} {xs:List J} (hT:sliceB P T E k'=true) (ho:o.op=.call { callee:=.builtin .len,args:=#[x],argTypes:=#[T] }) (hx:Jz (ev l x)=some (k,xs.map f)) (hd:o.dst=some d)
  (hk:xs.length≤maxLen→JL P N ops rest Q ((d,I64 (xs.length:Int))::l) L) (hg:o.guard=none:=by rfl) (hn:Nat.blt d N.n=true:=by rfl):JL P N ops (o::rest) Q l L:=H1 hT ho hx hk hg hd hn
theorem Q8 {x:Operand} {T E k k':Nat} {f:J→AV} {xs:List J} (hT:sliceB P T E k'=true) (ho:o.op=.call { callee:=.builtin .len,args:=#[x],argTypes:=#[T] }) (hx:Jz (ev l x)=some (k,xs.map f)):H2 P o l L (Is (I64 (xs.length:Int)) L):=by
 have:=J5e (L:=L) hT ho hx
 simpa only [Pr] using this
theorem Ga {x:Operand} {T f off:Nat} {cs ds:List AV} (hT:Jm P T f off=true) (ho:o.op=.fieldAddr T x f) (hx:ev l x=.dptr cs) (hd:cs.drop off=ds):H2 P o l L (Is (.dptr ds) L):=hd ▸ YW hT ho hx
theorem Gr {x ix:Operand} {T E k m:Nat} {kd:IntKind} {n:Int} {f:J→AV} {xs:List J} {y:J} (ho:o.op=.indexAddr T x ix) (hx:Jz (ev l x)=some (k,xs.map f)) (hi:ev l ix=.sc (.int kd n)) (hT:sliceB P T E k=true) (hy:xs[m]? = some y) (hm:n=(m:Int)) :
  H2 P o l L (Is (.dptr (f y).cells) L):=Jb8 ho hx hi hT (J97 hy) hm
theorem R8 {s x:Operand} {T E k by_ i kx:Nat} {f:J→AV} {xs ys:List J} (ho:o.op=.call { callee:=.builtin .append,args:=#[s,x],argTypes:=#[T,T] }) (hs:ev l s=OW i k f xs) (hi:lk L i=some (.spare E k xs.length xs.length)) (hx:Jz (ev l x)=some (kx,ys.map f))
  (hT:sliceB P T E k=true) (hE:Qo P E k by_=true) (hb:decide ((xs.length+ys.length)*by_≤140737488355328/\xs.length+ys.length≤maxLen)=true) (h0:∀ y,(f y).flatOk=true) (hk:kx=k\/ys=[]) (hy:ys.length=1) :
  H2 P o l L (Is (OW i k f (xs++ys)) ((i,.spare E k (xs++ys).length (xs++ys).length)::L)):=by
 have h1:=P6 hb
 have h:=J63 (xs:=xs.map f) (ys:=ys.map f) ho hs hi hx hT hE (by simpa using h1.1) (by simpa using h1.2) (fun y hy=>by
  obtain⟨z,_,rfl⟩:=Pt.1 hy
  exact h0 z) (hk.imp id (fun e=>by rw [e]; rfl))
 simpa only [OW,List.map_append,Pn,Pr,hy] using h
theorem Ha5 {x p:Operand} {T E k n:Nat} {kd:IntKind} {ni:Int} {f:J→AV} {xs:List J} (ho:o.op=.slice T x none (some p) none) (hx:Jz (ev l x)=some (k,xs.map f)) (hp:ev l p=.sc (.int kd ni)) (hT:sliceB P T E k=true) (hn:ni=(n:Int)/\n≤xs.length) :
  H2 P o l L (Is (LS k f (xs.take n)) L):=by
 have h:=J12 (L:=L) ho hx hp hT hn.1 (by simpa using hn.2)
 simpa only [LS,List.map_take] using h
end ops

section model
variable {J β W:Type}
theorem aM {z v:Int} (h:chk z some=some v):IntKind.i64.wrap z=v:=by
 obtain⟨x,hx,e⟩:=R2 h
 cases e; exact hx
theorem Jt {l:List J} {i:Int} {x:J} (h:Jo l i some=some x):∃ m:Nat,i=(m:Int)/\l[m]? = some x:=by
 obtain⟨m,y,hm,hy,e⟩:=R0 h
 cases e; exact⟨m,hm,hy⟩
theorem oN {l:List J} {i:Int} {k:J→Option β} {r:β} (h:Jo l i k=some r):∃ x,i=(i.toNat:Int)/\l[i.toNat]? = some x/\k x=some r:=by
 obtain⟨m,x,hm,hx,h⟩:=R0 h
 exact⟨x,by omega,by rw [hm]; exact hx,h⟩
theorem zK {l:List J} {i:Int} {x:J} (h:Jo l i some=some x):i=(i.toNat:Int):=by obtain⟨m,hm,_⟩:=Jt h; omega
theorem lL {l:List J} {i:Int} {x:J} (h:Jo l i some=some x):l[i.toNat]? = some x:=by obtain⟨m,hm,h⟩:=Jt h; rw [hm]; exact h
def cO (i:Int) (n:Nat):Option Nat:=bif decide (0≤i)&&decide (i.toNat≤n) then some i.toNat else none
theorem Rq {i:Int} {n m:Nat} (h:cO i n=some m):i=(m:Int)/\m≤n:=by
 unfold cO at h
 cases hb:decide (0≤i)&&decide (i.toNat≤n) with
 | true=>
  rw [hb] at h; cases h
  simp only [Pp,Pq] at hb
  exact⟨by omega,hb.2⟩
 | false=>rw [hb] at h; cases h
theorem Hb {k n:Nat} (hk:k < n) (hn:n≤maxLen):IntKind.i64.wrap ((k:Int)+1)=((k+1:Nat):Int):=by
 rw [dV (by omega) (by unfold maxLen at hn; omega)]; rfl
theorem cE {k:Nat} {e:Int} (h:decide ((k:Int) < e)=true):k < e.toNat:=by have:=P6 h; omega
theorem R9 {k:Nat} {e:Int} (h:decide ((k:Int) < e)=false):¬ k < e.toNat:=by have:=P7 h; omega
theorem Je {k n:Nat} (h:decide ((k:Int) < (n:Int))=true):k < n:=by have:=P6 h; omega
theorem H6 {k n:Nat} (h:decide ((k:Int) < (n:Int))=false):¬ k < n:=by have:=P7 h; omega
theorem Zr {e:Int} (h:decide (e≤9223372036854775807)=true):e.toNat≤maxLen:=by have:=P6 h; unfold maxLen; omega
theorem app1 {J β:Type} {f g:J→β} {x:J} {r:β} (e:f=g) (h:g x=r):f x=r:=e ▸ h
theorem Jeb {J B β:Type} {f g:J→B→β} {x:J} {y:B} {r:β} (e:f=g) (h:g x y=r):f x y=r:=e ▸ h
theorem vG {J B Z β:Type} {f g:J→B→Z→β} {x:J} {y:B} {z:Z} {r:β} (e:f=g) (h:g x y z=r):f x y z=r:=e ▸ h
theorem Rx {J B Z ε β:Type} {f g:J→B→Z→ε→β} {x:J} {y:B} {z:Z} {u:ε} {r:β} (e:f=g) (h:g x y z u=r):f x y z u=r:=e ▸ h
theorem Hy {b:J→Nat→W→(W→Option β)→Option β} {kx:W→Option β} {xs:List J} {s:W} {r:Option β} (h:each b kx xs 0 s=r):∃ b' kx',b=b'/\kx=kx'/\each b' kx' (xs.drop 0) 0 s=r:=⟨b,kx,rfl,rfl,by rw [List.drop_zero]; exact h⟩
theorem dW {b:Nat→W→(W→Option β)→Option β} {kx:W→Option β} {n:Nat} {s:W} {r:Option β} (h:upto b kx n 0 s=r):∃ b' kx',b=b'/\kx=kx'/\upto b' kx' (n - 0) 0 s=r:=⟨b,kx,rfl,rfl,h⟩
theorem Ga8 {b:(W→Option β)→W→Option β} {n:Nat} {s:W} {r:Option β} (h:loop b n s=r):∃ b',b=b'/\loop b' n s=r:=⟨b,rfl,h⟩
end model

section code
variable {P:Program} {N:Cfg} {Q:Post} {l:Fr} {L:Loc}
theorem H8 {body:Code} {W:Type} (I:Nat→W→Prop) (F:Nat→W→Fr) (M:Nat→W→Loc) (Y:Nat→Nat) (i0:Nat) (s0:W) (h0:I i0 s0) (hf:Fits N.base l L (F i0 s0) (M i0 s0))
  (hr:∀ i s,I i s→∀ K:Fr→Loc→Prop,(∀ l L i' s',I i' s'→Y i' < Y i→Fits N.base l L (F i' s') (M i' s')→K l L)→JC P N body (Q.seq K) (F i s) (M i s)):JC P N (.loop body) Q l L:=
 dP (fun x:Nat×W=>I x.1 x.2) (fun x=>F x.1 x.2) (fun x=>M x.1 x.2) (fun x=>Y x.1) (i0,s0) h0 hf
  (fun x hi K hK=>hr x.1 x.2 hi K (fun l L i' s' h1 h2 h3=>hK l L (i',s') h1 h2 h3))
end code
end Go.Proofs.YthkihfoleenlmaaGreat
