/- Combinators of the models that the extractor prints,and what -/
import Derived.Test.YtkiekighbhnolaaGreatMore
namespace Go.Proofs.YtkiekighbhnolaaGreat
open Go.RowKit

section model
variable {J β W:Type}

def loop (b:(W->Option β)->W->Option β):Nat->W->Option β
 | 0,_=>none
 | n+1,s=>b (loop b n) s
def each (b:J->Nat->W->(W->Option β)->Option β) (kx:W->Option β):List J->Nat->W->Option β
 | [],_,s=>kx s
 | x::xs,i,s=>b x i s (each b kx xs (i+1))
def upto (b:Nat->W->(W->Option β)->Option β) (kx:W->Option β):Nat->Nat->W->Option β
 | 0,_,s=>kx s
 | n+1,i,s=>b i s (upto b kx n (i+1))
def jp (m:(J->Option β)->Option β) (k:J->Option β):Option β:=m k
def bnd (m:Option J) (k:J->Option β):Option β:=match m with
 | some x=>k x
 | none=>none
def J1a (z:Int):Bool:=decide (-9223372036854775808<=z)&&decide (z<=9223372036854775807)
def chk (z:Int) (k:Int->Option β):Option β:=bif J1a z then k z else none
def wrp (z:Int) (k:Int->Option β):Option β:=k (IntKind.i64.wrap z)
variable {r:β}
theorem Q84 {z:Int} {k:Int->Option β} (h:wrp z k=some r):∃ v,IntKind.i64.wrap z=v/\k v=some r:=⟨_,rfl,h⟩
def Jk (l:List J) (i:Int) (k:J->Option β):Option β:=bif decide (0<=i) then bnd l[i.toNat]? k else none
def need (b:Bool) (k:Option β):Option β:=bif b then k else none

variable {n:Nat} {s:W}
theorem iL {b:(W->Option β)->W->Option β} (h:loop b n s=some r):∃ m nx,n=m+1/\loop b m=nx/\b nx s=some r:=by
 cases n with
 | zero=>cases h
 | succ m=>exact⟨m,_,rfl,rfl,h⟩
variable {i k:Nat} {kx:W->Option β}
theorem Hv {b:J->Nat->W->(W->Option β)->Option β} {xs:List J} (h:each b kx (xs.drop k) i s=some r) (hk:¬ k < xs.length):kx s=some r:=by
 rw [List.drop_eq_nil_of_le (by omega)] at h; exact h
theorem Hu {b:J->Nat->W->(W->Option β)->Option β} {xs:List J} (h:each b kx (xs.drop k) i s=some r) (hk:k < xs.length) :
  ∃ x nx,xs[k]? = some x/\each b kx (xs.drop (k+1)) (i+1)=nx/\b x i s nx=some r:=by
 rw [List.drop_eq_getElem_cons hk] at h;exact⟨xs[k],_,by simp [hk],rfl,h⟩
theorem cD {b:Nat->W->(W->Option β)->Option β} (h:upto b kx (n - k) i s=some r) (hk:¬ k < n):kx s=some r:=by
 rw [show n - k=0 by omega] at h; exact h
theorem cC {b:Nat->W->(W->Option β)->Option β} (h:upto b kx (n - k) i s=some r) (hk:k < n) :
  ∃ nx,upto b kx (n - (k+1)) (i+1)=nx/\b i s nx=some r:=by
 rw [show n - k=(n - (k+1))+1 by omega] at h;exact⟨_,rfl,h⟩
theorem Yx {m:(J->Option β)->Option β} {k:J->Option β} (h:jp m k=some r):∃ kk,k=kk/\m kk=some r:=⟨k,rfl,h⟩
theorem Gd {m:Option J} {k:J->Option β} (h:bnd m k=some r):∃ x,m=some x/\k x=some r:=by
 cases m with
 | none=>cases h
 | some x=>exact⟨x,rfl,h⟩
theorem Q7 {z:Int} {k:Int->Option β} (h:chk z k=some r):∃ v,IntKind.i64.wrap z=v/\k v=some r:=by
 unfold chk at h;cases hz:J1a z with
 | true=>
  rw [hz] at h;simp only [J1a,S8,S9] at hz;exact⟨z,fJ hz.1 hz.2,h⟩
 | false=>rw [hz] at h; cases h
theorem Qy {l:List J} {i:Int} {k:J->Option β} (h:Jk l i k=some r):∃ (m:Nat) (x:J),i=(m:Int)/\l[m]? = some x/\k x=some r:=by
 unfold Jk at h;cases hz:decide (0<=i) with
 | true=>
  rw [hz] at h;obtain⟨x,hx,h⟩:=Gd h;exact⟨i.toNat,x,by have:=Pq hz; omega,hx,h⟩
 | false=>rw [hz] at h; cases h
theorem J5 {b:Bool} {k:Option β} (h:need b k=some r):b=true/\k=some r:=by
 cases b with
 | true=>exact⟨rfl,h⟩
 | false=>cases h
variable {x:J}
theorem Gw {c:Bool} {y z:J} (hc:c=true) (h:(bif c then x else y)=z):x=z:=by subst hc; exact h
theorem Hh {c:Bool} {y z:J} (hc:c=false) (h:(bif c then x else y)=z):y=z:=by subst hc; exact h
theorem Qab {f:J->AV} {l:List J} {m:Nat} (h:l[m]? = some x):(l.map f)[m]? = some (f x):=by simp [h]
end model

abbrev ST (s:ByteArray):AV:=.sc (.string s)
abbrev LS {J:Type} (k:Nat) (f:J->AV) (xs:List J):AV:=.list k (xs.map f)
abbrev E0:Value:=.int .i64 0
abbrev Eo (n:Nat):AV:=I64 (n:Int)
abbrev Ed:=LS 1 U8
abbrev E2:=LS 1 I64
abbrev OW {J:Type} (i k:Nat) (f:J->AV) (xs:List J):AV:=.own i xs.length k (xs.map f)

section ops
variable {P:Program} {N:Cfg} {Q:Post} {l:Fr} {L L':Loc} {ops:Array Oper} {o:Oper} {rest:List Oper} {u:AV} {J:Type}

variable {xs:List J} {E T k k':Nat} {x:Operand} {f:J->AV}
theorem Hb {d:Nat} (hT:sliceB P T E k'=true) (ho:o.op=.call { callee:=.builtin .len,args:=#[x],argTypes:=#[T] }) (hx:Q4 (ev l x)=some (k,xs.map f))
  (hk:xs.length<=maxLen->JL P N ops rest Q ((d,I64 (xs.length:Int))::l) L) (hg:o.guard=none) (hd:o.dst=some d) (hn:Nat.blt d N.n=true):JL P N ops (o::rest) Q l L:=
 Qff hT (fun hm=>by simp only [Sa] at hm ⊢; exact hk hm) ho hx hg hd hn
theorem JLl {d:Nat} (hT:sliceB P T E k'=true) (ho:o.op=.call { callee:=.builtin .len,args:=#[x],argTypes:=#[T] }) (hx:Q4 (ev l x)=some (k,xs.map f)) (hd:o.dst=some d)
  (hk:xs.length<=maxLen->JL P N ops rest Q ((d,I64 (xs.length:Int))::l) L) (hg:o.guard=none:=by rfl) (hn:Nat.blt d N.n=true:=by rfl):JL P N ops (o::rest) Q l L:=Hb hT ho hx hk hg hd hn
theorem Yj (hT:sliceB P T E k'=true) (ho:o.op=.call { callee:=.builtin .len,args:=#[x],argTypes:=#[T] }) (hx:Q4 (ev l x)=some (k,xs.map f)):H1 P o l L (Is (I64 (xs.length:Int)) L):=by
 have:=Q75 (L:=L) hT ho hx;simpa only [Sa] using this
theorem G8 {f off:Nat} {cs ds:AD} (hT:Jf P T f off=true) (ho:o.op=.fieldAddr T x f) (hx:ev l x=.AA cs) (hd:cs.drop off=ds):H1 P o l L (Is (.AA ds) L):=hd ▸ G24 hT ho hx
theorem Gs {ix:Operand} {m:Nat} {kd:IntKind} {n:Int} {y:J} (ho:o.op=.indexAddr T x ix) (hx:Q4 (ev l x)=some (k,xs.map f)) (hi:ev l ix=.sc (.int kd n)) (hT:sliceB P T E k=true) (hy:xs[m]? = some y) (hm:n=(m:Int)) :
  H1 P o l L (Is (.AA (f y).cells) L):=Qca ho hx hi hT (Qab hy) hm
theorem Rf {s:Operand} {by_ i kx:Nat} {ys:List J} (ho:o.op=.call { callee:=.builtin .append,args:=#[s,x],argTypes:=#[T,T] }) (hs:ev l s=OW i k f xs) (hi:lk L i=some (.spare E k xs.length xs.length)) (hx:Q4 (ev l x)=some (kx,ys.map f))
  (hT:sliceB P T E k=true) (hE:Qh P E k by_=true) (hb:decide ((xs.length+ys.length)*by_<=140737488355328/\xs.length+ys.length<=maxLen)=true) (h0:∀ y,(f y).BG=true) (hk:kx=k\/ys=[]) (hy:ys.length=1) :
  H1 P o l L (Is (OW i k f (xs++ys)) ((i,.spare E k (xs++ys).length (xs++ys).length)::L)):=by
 have h1:=Pq hb;have h:=Q78 (xs:=xs.map f) (ys:=ys.map f) ho hs hi hx hT hE (by simpa using h1.1) (by simpa using h1.2) (fun y hy=>by
  obtain⟨z,_,rfl⟩:=Sc.1 hy;exact h0 z) (hk.imp id (fun e=>by rw [e]; rfl))
 simpa only [OW,List.map_append,S6,Sa,hy] using h
theorem Jc1 {p:Operand} {n:Nat} {kd:IntKind} {ni:Int} (ho:o.op=.slice T x none (some p) none) (hx:Q4 (ev l x)=some (k,xs.map f)) (hp:ev l p=.sc (.int kd ni)) (hT:sliceB P T E k=true) (hn:ni=(n:Int)/\n<=xs.length) :
  H1 P o l L (Is (LS k f (xs.take n)) L):=by
 have h:=Q2c (L:=L) ho hx hp hT hn.1 (by simpa using hn.2);simpa only [LS,List.map_take] using h
end ops

section model
variable {J β W:Type}
theorem iN {z v:Int} (h:chk z some=some v):IntKind.i64.wrap z=v:=by
 obtain⟨x,hx,e⟩:=Q7 h;cases e; exact hx
variable {i:Int} {l:List J} {x:J}
theorem Qc (h:Jk l i some=some x):∃ m:Nat,i=(m:Int)/\l[m]? = some x:=by
 obtain⟨m,y,hm,hy,e⟩:=Qy h;cases e; exact⟨m,hm,hy⟩
theorem dP {k:J->Option β} {r:β} (h:Jk l i k=some r):∃ x,i=(i.toNat:Int)/\l[i.toNat]? = some x/\k x=some r:=by
 obtain⟨m,x,hm,hx,h⟩:=Qy h;exact⟨x,by omega,by rw [hm]; exact hx,h⟩
theorem mQ (h:Jk l i some=some x):i=(i.toNat:Int):=by obtain⟨m,hm,_⟩:=Qc h; omega
theorem aX (h:Jk l i some=some x):l[i.toNat]? = some x:=by obtain⟨m,hm,h⟩:=Qc h; rw [hm]; exact h
def oP (i:Int) (n:Nat):Option Nat:=bif decide (0<=i)&&decide (i.toNat<=n) then some i.toNat else none
variable {n:Nat}
theorem kS {m:Nat} (h:oP i n=some m):i=(m:Int)/\m<=n:=by
 unfold oP at h;cases hb:decide (0<=i)&&decide (i.toNat<=n) with
 | true=>
  rw [hb] at h; cases h;simp only [S8,S9] at hb;exact⟨by omega,hb.2⟩
 | false=>rw [hb] at h; cases h
variable {k:Nat}
theorem Hc (hk:k < n) (hn:n<=maxLen):IntKind.i64.wrap ((k:Int)+1)=((k+1:Nat):Int):=by
 rw [fJ (by omega) (by unfold maxLen at hn; omega)]; rfl
variable {e:Int}
theorem cE (h:decide ((k:Int) < e)=true):k < e.toNat:=by have:=Pq h; omega
theorem R7 (h:decide ((k:Int) < e)=false):¬ k < e.toNat:=by have:=Pr h; omega
theorem Jp (h:decide ((k:Int) < (n:Int))=true):k < n:=by have:=Pq h; omega
theorem Ha (h:decide ((k:Int) < (n:Int))=false):¬ k < n:=by have:=Pr h; omega
theorem Zk (h:decide (e<=9223372036854775807)=true):e.toNat<=maxLen:=by have:=Pq h; unfold maxLen; omega
theorem app1 {J β:Type} {f g:J->β} {x:J} {r:β} (e:f=g) (h:g x=r):f x=r:=e ▸ h
variable {B:Type} {y:B}
theorem G90 {J β:Type} {f g:J->B->β} {x:J} {r:β} (e:f=g) (h:g x y=r):f x y=r:=e ▸ h
theorem yG {J Z β:Type} {f g:J->B->Z->β} {x:J} {z:Z} {r:β} (e:f=g) (h:g x y z=r):f x y z=r:=e ▸ h
theorem Yg {J Z ε β:Type} {f g:J->B->Z->ε->β} {x:J} {z:Z} {u:ε} {r:β} (e:f=g) (h:g x y z u=r):f x y z u=r:=e ▸ h
variable {r:Option β} {s:W}
theorem J6 {b:J->Nat->W->(W->Option β)->Option β} {kx:W->Option β} {xs:List J} (h:each b kx xs 0 s=r):∃ b' kx',b=b'/\kx=kx'/\each b' kx' (xs.drop 0) 0 s=r:=⟨b,kx,rfl,rfl,by rw [List.drop_zero]; exact h⟩
theorem fD {b:Nat->W->(W->Option β)->Option β} {kx:W->Option β} (h:upto b kx n 0 s=r):∃ b' kx',b=b'/\kx=kx'/\upto b' kx' (n - 0) 0 s=r:=⟨b,kx,rfl,rfl,h⟩
theorem mH {b:(W->Option β)->W->Option β} (h:loop b n s=r):∃ b',b=b'/\loop b' n s=r:=⟨b,rfl,h⟩
end model

section code
variable {P:Program} {N:Cfg} {Q:Post} {l:Fr} {L:Loc}
variable {body:Code} {W:Type}
theorem H8 (I:Nat->W->Prop) (F:Nat->W->Fr) (M:Nat->W->Loc) (Y:Nat->Nat) (i0:Nat) (s0:W) (h0:I i0 s0) (hf:Fits N.base l L (F i0 s0) (M i0 s0))
  (hr:∀ i s,I i s->∀ K:Fr->Loc->Prop,(∀ l L i' s',I i' s'->Y i' < Y i->Fits N.base l L (F i' s') (M i' s')->K l L)->JC P N body (Q.seq K) (F i s) (M i s)):JC P N (.loop body) Q l L:=
 fE (fun x:Nat×W=>I x.1 x.2) (fun x=>F x.1 x.2) (fun x=>M x.1 x.2) (fun x=>Y x.1) (i0,s0) h0 hf
  (fun x hi K hK=>hr x.1 x.2 hi K (fun l L i' s' h1 h2 h3=>hK l L (i',s') h1 h2 h3))
theorem zAC {J β:Type} {b:J->Nat->W->(W->Option β)->Option β} {kx:W->Option β} {xs:List J} {r:Option β} {s0:W} (h:each b kx (xs.drop 0) 0 s0=r) (F:Nat->W->Fr) (M:Nat->W->Loc) (hf:Fits N.base l L (F 0 s0) (M 0 s0)) (hr:∀ i s,each b kx (xs.drop i) i s=r->∀ K:Fr->Loc->Prop,(∀ l L i' s',each b kx (xs.drop i') i' s'=r->xs.length - i' < xs.length - i->Fits N.base l L (F i' s') (M i' s')->K l L)->JC P N body (Q.seq K) (F i s) (M i s)):JC P N (.loop body) Q l L:=H8 (fun i s=>each b kx (xs.drop i) i s=r) F M (fun i=>xs.length - i) 0 s0 h hf hr
theorem zAD {β:Type} {b:Nat->W->(W->Option β)->Option β} {kx:W->Option β} {n:Nat} {r:Option β} {s0:W} (h:upto b kx (n - 0) 0 s0=r) (F:Nat->W->Fr) (M:Nat->W->Loc) (hf:Fits N.base l L (F 0 s0) (M 0 s0)) (hr:∀ i s,upto b kx (n - i) i s=r->∀ K:Fr->Loc->Prop,(∀ l L i' s',upto b kx (n - i') i' s'=r->n - i' < n - i->Fits N.base l L (F i' s') (M i' s')->K l L)->JC P N body (Q.seq K) (F i s) (M i s)):JC P N (.loop body) Q l L:=H8 (fun i s=>upto b kx (n - i) i s=r) F M (fun i=>n - i) 0 s0 h hf hr
end code
end Go.Proofs.YtkiekighbhnolaaGreat
