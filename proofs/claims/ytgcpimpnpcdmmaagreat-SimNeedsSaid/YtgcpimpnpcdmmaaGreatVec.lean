/-
 Combinators of the models that the extractor prints,and what From the reading of an argument aQ data to the walks' abstra The ends of calls: Calls that work on some of the caller's local objects,and ma Slices that the call may write in place:
-/
import Derived.Test.YtgcpimpnpcdmmaaGreatMore
import Derived.ChangeArms
import Derived.ChangeOld
import Derived.Below
import Derived.JoinedOf
import Derived.JoinedAt
namespace Go.Proofs.YtgcpimpnpcdmmaaGreat
open Go.RowKit

section model
variable {α β σ:Type}

def loop (b:(σ→Option β)→σ→Option β):Nat→σ→Option β
 | 0,_=>none
 | n+1,s=>b (loop b n) s
def each (b:α→Nat→σ→(σ→Option β)→Option β) (kx:σ→Option β):List α→Nat→σ→Option β
 | [],_,s=>kx s
 | x::xs,i,s=>b x i s (each b kx xs (i+1))
def upto (b:Nat→σ→(σ→Option β)→Option β) (kx:σ→Option β):Nat→Nat→σ→Option β
 | 0,_,s=>kx s
 | n+1,i,s=>b i s (upto b kx n (i+1))
def jp (m:(α→Option β)→Option β) (k:α→Option β):Option β:=m k
def bnd (m:Option α) (k:α→Option β):Option β:=match m with
 | some x=>k x
 | none=>none
def R47 (z:Int):Bool:=decide (-9223372036854775808≤z)&&decide (z≤9223372036854775807)
def chk (z:Int) (k:Int→Option β):Option β:=bif R47 z then k z else none
def wrp (z:Int) (k:Int→Option β):Option β:=k (IntKind.i64.wrap z)
theorem Z46 {z:Int} {k:Int→Option β} {r:β} (h:wrp z k=some r):∃ v,IntKind.i64.wrap z=v∧k v=some r:=⟨_,rfl,h⟩
def Qm (l:List α) (i:Int) (k:α→Option β):Option β:=bif decide (0≤i) then bnd l[i.toNat]? k else none
def need (b:Bool) (k:Option β):Option β:=bif b then k else none

theorem Gd9 {b:(σ→Option β)→σ→Option β} {n:Nat} {s:σ} {r:β} (h:loop b n s=some r):∃ m nx,n=m+1∧loop b m=nx∧b nx s=some r:=by
 cases n with
 | zero=>cases h
 | succ m=>exact⟨m,_,rfl,rfl,h⟩
theorem Hw {b:α→Nat→σ→(σ→Option β)→Option β} {kx:σ→Option β} {xs:List α} {i k:Nat} {s:σ} {r:β} (h:each b kx (xs.drop k) i s=some r) (hk:¬ k < xs.length):kx s=some r:=by
 rw [List.drop_eq_nil_of_le (by omega)] at h; exact h
theorem Hv {b:α→Nat→σ→(σ→Option β)→Option β} {kx:σ→Option β} {xs:List α} {i k:Nat} {s:σ} {r:β} (h:each b kx (xs.drop k) i s=some r) (hk:k < xs.length) :
  ∃ x nx,xs[k]? = some x∧each b kx (xs.drop (k+1)) (i+1)=nx∧b x i s nx=some r:=by
 rw [List.drop_eq_getElem_cons hk] at h
 exact⟨xs[k],_,by simp [hk],rfl,h⟩
theorem H8a {b:Nat→σ→(σ→Option β)→Option β} {kx:σ→Option β} {n i k:Nat} {s:σ} {r:β} (h:upto b kx (n - k) i s=some r) (hk:¬ k < n):kx s=some r:=by
 rw [show n - k=0 by omega] at h; exact h
theorem H89 {b:Nat→σ→(σ→Option β)→Option β} {kx:σ→Option β} {n i k:Nat} {s:σ} {r:β} (h:upto b kx (n - k) i s=some r) (hk:k < n) :
  ∃ nx,upto b kx (n - (k+1)) (i+1)=nx∧b i s nx=some r:=by
 rw [show n - k=(n - (k+1))+1 by omega] at h
 exact⟨_,rfl,h⟩
theorem Rc {m:(α→Option β)→Option β} {k:α→Option β} {r:β} (h:jp m k=some r):∃ kk,k=kk∧m kk=some r:=⟨k,rfl,h⟩
theorem Gd {m:Option α} {k:α→Option β} {r:β} (h:bnd m k=some r):∃ x,m=some x∧k x=some r:=by
 cases m with
 | none=>cases h
 | some x=>exact⟨x,rfl,h⟩
theorem Ht {z:Int} {k:Int→Option β} {r:β} (h:chk z k=some r):∃ v,IntKind.i64.wrap z=v∧k v=some r:=by
 unfold chk at h
 cases hz:R47 z with
 | true=>
  rw [hz] at h
  simp only [R47,Mk,Mm] at hz
  exact⟨z,Q82 hz.1 hz.2,h⟩
 | false=>rw [hz] at h; cases h
theorem Rw {l:List α} {i:Int} {k:α→Option β} {r:β} (h:Qm l i k=some r):∃ (m:Nat) (x:α),i=(m:Int)∧l[m]? = some x∧k x=some r:=by
 unfold Qm at h
 cases hz:decide (0≤i) with
 | true=>
  rw [hz] at h
  obtain⟨x,hx,h⟩:=Gd h
  exact⟨i.toNat,x,by have:=M2 hz; omega,hx,h⟩
 | false=>rw [hz] at h; cases h
theorem Jf {b:Bool} {k:Option β} {r:β} (h:need b k=some r):b=true∧k=some r:=by
 cases b with
 | true=>exact⟨rfl,h⟩
 | false=>cases h
theorem H2 {c:Bool} {x y z:α} (hc:c=true) (h:(bif c then x else y)=z):x=z:=by subst hc; exact h
theorem Ho {c:Bool} {x y z:α} (hc:c=false) (h:(bif c then x else y)=z):y=z:=by subst hc; exact h
theorem Z56 {f:α→AV} {l:List α} {m:Nat} {x:α} (h:l[m]? = some x):(l.map f)[m]? = some (f x):=by simp [h]
end model

abbrev ST (s:ByteArray):AV:=.sc (.string s)
abbrev LS {α:Type} (k:Nat) (f:α→AV) (xs:List α):AV:=.list k (xs.map f)
abbrev E0:Value:=.int .i64 0
abbrev Em (n:Nat):AV:=I64 (n:Int)
abbrev Eb:=LS 1 U8
abbrev E2:=LS 1 I64
abbrev OW {α:Type} (i k:Nat) (f:α→AV) (xs:List α):AV:=.own i xs.length k (xs.map f)

section ops
variable {P:Program} {N:Cfg} {Q:Post} {l:Fr} {L L':Loc} {ops:Array Oper} {o:Oper} {rest:List Oper} {u:AV} {α:Type}

theorem Hs {x:Operand} {T E k k' d:Nat} {f:α→AV} {xs:List α} (hT:sliceB P T E k'=true) (ho:o.op=.call { callee:=.builtin .len,args:=#[x],argTypes:=#[T] }) (hx:Qa (ev l x)=some (k,xs.map f))
  (hk:xs.length≤maxLen→JL P N ops rest Q ((d,I64 (xs.length:Int))::l) L) (hg:o.guard=none) (hd:o.dst=some d) (hn:Nat.blt d N.n=true):JL P N ops (o::rest) Q l L:=
 Zaf hT (fun hm=>by simp only [Mn] at hm ⊢; exact hk hm) ho hx hg hd hn
theorem JLl {x:Operand} {T E k k' d:Nat} {f:α→AV} {xs:List α} (hT:sliceB P T E k'=true) (ho:o.op=.call { callee:=.builtin .len,args:=#[x],argTypes:=#[T] }) (hx:Qa (ev l x)=some (k,xs.map f)) (hd:o.dst=some d)
  (hk:xs.length≤maxLen→JL P N ops rest Q ((d,I64 (xs.length:Int))::l) L) (hg:o.guard=none:=by rfl) (hn:Nat.blt d N.n=true:=by rfl):JL P N ops (o::rest) Q l L:=Hs hT ho hx hk hg hd hn
theorem Gf6 {x:Operand} {T E k k':Nat} {f:α→AV} {xs:List α} (hT:sliceB P T E k'=true) (ho:o.op=.call { callee:=.builtin .len,args:=#[x],argTypes:=#[T] }) (hx:Qa (ev l x)=some (k,xs.map f)):Gy P o l L (Is (I64 (xs.length:Int)) L):=by
 have:=Z3c (L:=L) hT ho hx
 simpa only [Mn] using this
theorem Ga {x:Operand} {T f off:Nat} {cs ds:List AV} (hT:Jw P T f off=true) (ho:o.op=.fieldAddr T x f) (hx:ev l x=.dptr cs) (hd:cs.drop off=ds):Gy P o l L (Is (.dptr ds) L):=hd ▸ Z79 hT ho hx
theorem Hb {x ix:Operand} {T E k m:Nat} {kd:IntKind} {n:Int} {f:α→AV} {xs:List α} {y:α} (ho:o.op=.indexAddr T x ix) (hx:Qa (ev l x)=some (k,xs.map f)) (hi:ev l ix=.sc (.int kd n)) (hT:sliceB P T E k=true) (hy:xs[m]? = some y) (hm:n=(m:Int)) :
  Gy P o l L (Is (.dptr (f y).cells) L):=Z78 ho hx hi hT (Z56 hy) hm
theorem Yo {s x:Operand} {T E k by_ i kx:Nat} {f:α→AV} {xs ys:List α} (ho:o.op=.call { callee:=.builtin .append,args:=#[s,x],argTypes:=#[T,T] }) (hs:ev l s=OW i k f xs) (hi:lk L i=some (.spare E k xs.length xs.length)) (hx:Qa (ev l x)=some (kx,ys.map f))
  (hT:sliceB P T E k=true) (hE:Yy P E k by_=true) (hb:decide ((xs.length+ys.length)*by_≤140737488355328∧xs.length+ys.length≤maxLen)=true) (h0:∀ y,(f y).flatOk=true) (hk:kx=k∨ys=[]) (hy:ys.length=1) :
  Gy P o l L (Is (OW i k f (xs++ys)) ((i,.spare E k (xs++ys).length (xs++ys).length)::L)):=by
 have h1:=M2 hb
 have h:=Y06 (xs:=xs.map f) (ys:=ys.map f) ho hs hi hx hT hE (by simpa using h1.1) (by simpa using h1.2) (fun y hy=>by
  obtain⟨z,_,rfl⟩:=Mp.1 hy
  exact h0 z) (hk.imp id (fun e=>by rw [e]; rfl))
 simpa only [OW,List.map_append,Mi,Mn,hy] using h
theorem Y77 {x p:Operand} {T E k m:Nat} {kd:IntKind} {mi:Int} {f:α→AV} {xs:List α} (ho:o.op=.slice T x (some p) none none) (hx:Qa (ev l x)=some (k,xs.map f)) (hp:ev l p=.sc (.int kd mi)) (hT:sliceB P T E k=true) (hm:mi=(m:Int)∧m≤xs.length) :
  Gy P o l L (Is (LS k f (xs.drop m)) L):=by
 have h:=Ye3 (L:=L) ho hx hp hT hm.1 (by simpa using hm.2)
 simpa only [LS,List.map_drop] using h
theorem J2c {x p:Operand} {T E k n:Nat} {kd:IntKind} {ni:Int} {f:α→AV} {xs:List α} (ho:o.op=.slice T x none (some p) none) (hx:Qa (ev l x)=some (k,xs.map f)) (hp:ev l p=.sc (.int kd ni)) (hT:sliceB P T E k=true) (hn:ni=(n:Int)∧n≤xs.length) :
  Gy P o l L (Is (LS k f (xs.take n)) L):=by
 have h:=Ye4 (L:=L) ho hx hp hT hn.1 (by simpa using hn.2)
 simpa only [LS,List.map_take] using h
end ops

section model
variable {α β σ:Type}
theorem Hf5 {z v:Int} (h:chk z some=some v):IntKind.i64.wrap z=v:=by
 obtain⟨x,hx,e⟩:=Ht h
 cases e; exact hx
theorem Gc4 {l:List α} {i:Int} {x:α} (h:Qm l i some=some x):∃ m:Nat,i=(m:Int)∧l[m]? = some x:=by
 obtain⟨m,y,hm,hy,e⟩:=Rw h
 cases e; exact⟨m,hm,hy⟩
theorem G33 {l:List α} {i:Int} {k:α→Option β} {r:β} (h:Qm l i k=some r):∃ x,i=(i.toNat:Int)∧l[i.toNat]? = some x∧k x=some r:=by
 obtain⟨m,x,hm,hx,h⟩:=Rw h
 exact⟨x,by omega,by rw [hm]; exact hx,h⟩
theorem J22 {l:List α} {i:Int} {x:α} (h:Qm l i some=some x):i=(i.toNat:Int):=by obtain⟨m,hm,_⟩:=Gc4 h; omega
theorem Gac {l:List α} {i:Int} {x:α} (h:Qm l i some=some x):l[i.toNat]? = some x:=by obtain⟨m,hm,h⟩:=Gc4 h; rw [hm]; exact h
def J5b (i:Int) (n:Nat):Option Nat:=bif decide (0≤i)&&decide (i.toNat≤n) then some i.toNat else none
theorem H36 {i:Int} {n m:Nat} (h:J5b i n=some m):i=(m:Int)∧m≤n:=by
 unfold J5b at h
 cases hb:decide (0≤i)&&decide (i.toNat≤n) with
 | true=>
  rw [hb] at h; cases h
  simp only [Mk,Mm] at hb
  exact⟨by omega,hb.2⟩
 | false=>rw [hb] at h; cases h
def Hc5 (m n:Int):Option Int:=bif decide (n=0) then none else some (m.tmod n)
theorem R8 {m n v:Int} (h:Hc5 m n=some v):n≠0∧m.tmod n=v:=by
 unfold Hc5 at h
 cases hb:decide (n=0) with
 | true=>rw [hb] at h; cases h
 | false=>rw [hb] at h; cases h; exact⟨M3 hb,rfl⟩
theorem Hp {k n:Nat} (hk:k < n) (hn:n≤maxLen):IntKind.i64.wrap ((k:Int)+1)=((k+1:Nat):Int):=by
 rw [Q82 (by omega) (by unfold maxLen at hn; omega)]; rfl
theorem H9a {k:Nat} {e:Int} (h:decide ((k:Int) < e)=true):k < e.toNat:=by have:=M2 h; omega
theorem G7d {k:Nat} {e:Int} (h:decide ((k:Int) < e)=false):¬ k < e.toNat:=by have:=M3 h; omega
theorem Jz {k n:Nat} (h:decide ((k:Int) < (n:Int))=true):k < n:=by have:=M2 h; omega
theorem Hf {k n:Nat} (h:decide ((k:Int) < (n:Int))=false):¬ k < n:=by have:=M3 h; omega
theorem H2d {e:Int} (h:decide (e≤9223372036854775807)=true):e.toNat≤maxLen:=by have:=M2 h; unfold maxLen; omega
theorem app1 {α β:Type} {f g:α→β} {x:α} {r:β} (e:f=g) (h:g x=r):f x=r:=e ▸ h
theorem R20 {α γ β:Type} {f g:α→γ→β} {x:α} {y:γ} {r:β} (e:f=g) (h:g x y=r):f x y=r:=e ▸ h
theorem Jc7 {α γ δ β:Type} {f g:α→γ→δ→β} {x:α} {y:γ} {z:δ} {r:β} (e:f=g) (h:g x y z=r):f x y z=r:=e ▸ h
theorem Zm {α γ δ ε β:Type} {f g:α→γ→δ→ε→β} {x:α} {y:γ} {z:δ} {u:ε} {r:β} (e:f=g) (h:g x y z u=r):f x y z u=r:=e ▸ h
theorem Je {b:α→Nat→σ→(σ→Option β)→Option β} {kx:σ→Option β} {xs:List α} {s:σ} {r:Option β} (h:each b kx xs 0 s=r):∃ b' kx',b=b'∧kx=kx'∧each b' kx' (xs.drop 0) 0 s=r:=⟨b,kx,rfl,rfl,by rw [List.drop_zero]; exact h⟩
theorem J07 {b:Nat→σ→(σ→Option β)→Option β} {kx:σ→Option β} {n:Nat} {s:σ} {r:Option β} (h:upto b kx n 0 s=r):∃ b' kx',b=b'∧kx=kx'∧upto b' kx' (n - 0) 0 s=r:=⟨b,kx,rfl,rfl,h⟩
theorem H4b {b:(σ→Option β)→σ→Option β} {n:Nat} {s:σ} {r:Option β} (h:loop b n s=r):∃ b',b=b'∧loop b' n s=r:=⟨b,rfl,h⟩
end model

section code
variable {P:Program} {N:Cfg} {Q:Post} {l:Fr} {L:Loc}
theorem Hm {body:Code} {σ:Type} (I:Nat→σ→Prop) (F:Nat→σ→Fr) (M:Nat→σ→Loc) (μ:Nat→Nat) (i0:Nat) (s0:σ) (h0:I i0 s0) (hf:Fits N.base l L (F i0 s0) (M i0 s0))
  (hr:∀ i s,I i s→∀ K:Fr→Loc→Prop,(∀ l L i' s',I i' s'→μ i' < μ i→Fits N.base l L (F i' s') (M i' s')→K l L)→JC P N body (Q.seq K) (F i s) (M i s)):JC P N (.loop body) Q l L:=
 Ya5 (fun x:Nat×σ=>I x.1 x.2) (fun x=>F x.1 x.2) (fun x=>M x.1 x.2) (fun x=>μ x.1) (i0,s0) h0 hf
  (fun x hi K hK=>hr x.1 x.2 hi K (fun l L i' s' h1 h2 h3=>hK l L (i',s') h1 h2 h3))
end code

def Rd (w:World) (S:Nat→Nat→Prop) (us:List AV) (cs:List Value):Prop:=
 cs.length=us.length∧∀ (j:Nat) u v,us[j]? = some u→cs[j]? = some v→D w S u v

def isAgg (P:Program) (t:TypeId):Bool:=match P.underlying t with
 | some (.struct _)=>true
 | _=>false

def Hb7 (P:Program) (t:TypeId) (us:List AV):AV:=bif isAgg P t then .agg us else us.headD .junk

def Yc4 (P:Program) (ok:TypeId→Bool):List Field→Nat→Nat→Bool
 | [],off,tot=>Nat.beq off tot
 | f::fs,off,tot=>Nat.beq f.offset off&&ok f.type&&Yc4 P ok fs (off+P.cellsOf f.type) tot

def R1e (P:Program):Nat→TypeId→Bool
 | 0,_=>false
 | n+1,t=>match P.underlying t with
  | some .bool=>true
  | some .string=>true
  | some (.int _)=>true
  | some (.slice e)=>Nat.blt 0 (P.cellsOf e)&&R1e P n e
  | some (.struct fs)=>Yc4 P (R1e P n) fs.toList 0 (P.cellsOf t)
  | _=>false

def Q87 (P:Program) (F:TypeId→List AV→Prop):List Field→List AV→Prop
 | [],us=>us=[]
 | f::fs,us=>∃ a b,us=a++b∧a.length=P.cellsOf f.type∧F f.type a∧Q87 P F fs b

def G30 (P:Program) (M:Nat):Nat→TypeId→List AV→Prop
 | 0,_,_=>False
 | n+1,t,us=>match P.underlying t with
  | some .bool=>∃ b,us=[.sc (.bool b)]
  | some .string=>∃ s:ByteArray,us=[.sc (.string s)]∧s.size≤maxLen
  | some (.int k)=>∃ z,us=[.sc (.int k z)]∧(Lit.int k z).wf=true
  | some (.slice e)=>∃ xss:List (List AV),us=[.list (P.cellsOf e) (xss.map (Hb7 P e))]∧xss.length≤M∧∀ xs∈xss,G30 P M n e xs
  | some (.struct fs)=>Q87 P (G30 P M n) fs.toList us
  | _=>False

theorem Rd.append {w:World} {S:Nat→Nat→Prop} {us us':List AV} {cs cs':List Value} (h:Rd w S us cs) (h':Rd w S us' cs'):Rd w S (us++us') (cs++cs'):=by
 refine⟨by simp [h.1,h'.1],fun j u v hu hv=>?_⟩
 by_cases hj:j < us.length
 ·rw [Md hj] at hu
  rw [Md (by rw [h.1]; exact hj)] at hv
  exact h.2 j u v hu hv
 ·rw [Mc (by omega)] at hu
  rw [Mc (by rw [h.1]; omega),h.1] at hv
  exact h'.2 _ u v hu hv

theorem Y8c {P:Program} {ok:TypeId→Bool}:∀ {fs:List Field} {off tot:Nat},Yc4 P ok fs off tot=true→off≤tot
 | [],_,_,h=>Nat.le_of_eq (Kx h)
 | _::fs,_,_,h=>by
  simp only [Yc4,Mk] at h
  have:=Y8c h.2
  omega

theorem Y9b {P:Program} {w:World} {S:Nat→Nat→Prop} {ok:TypeId→Bool} {F:TypeId→List AV→Prop} {cs:List Value} :
  ∀ {fs:List Field} {off tot:Nat},Yc4 P ok fs off tot=true→cs.length=tot →
   (∀ f∈fs,ok f.type=true→∃ us,F f.type us∧Rd w S us ((cs.drop f.offset).take (P.cellsOf f.type)))→∃ us,Q87 P F fs us∧Rd w S us (cs.drop off)
 | [],off,tot,h,hl,_=>by
  have:=Kx h
  refine⟨[],rfl,?_,fun j u v hu=>by cases hu⟩
  rw [List.length_drop,hl,this]; simp
 | f::fs,off,tot,h,hl,hf=>by
  simp only [Yc4,Mk] at h
  obtain⟨⟨h1,h2⟩,h3⟩:=h
  have h1:=Kx h1
  obtain⟨us1,f1,r1⟩:=hf f (List.mem_cons_self ..) h2
  obtain⟨us2,f2,r2⟩:=Y9b h3 hl (fun g hg=>hf g (List.mem_cons_of_mem _ hg))
  rw [h1] at r1
  have h0:=Y8c h3
  refine⟨us1++us2,⟨us1,us2,rfl,?_,f1,f2⟩,?_⟩
  ·rw [← r1.1,List.length_take,List.length_drop]; omega
  ·have e:cs.drop off=(cs.drop off).take (P.cellsOf f.type)++cs.drop (off+P.cellsOf f.type):=by
    rw [← List.drop_drop,List.take_append_drop]
   rw [e]
   exact r1.append r2

theorem Qe6 {P:Program} {M n:Nat} {t:TypeId} {us:List AV} (h:G30 P M n t us):(Hb7 P t us).cells=us:=by
 cases n with
 | zero=>exact h.elim
 | succ n=>
  unfold G30 at h
  unfold Hb7 isAgg
  revert h
  split
  ·rintro⟨b,rfl⟩; simp_all [AV.cells]
  ·rintro⟨b,rfl,_⟩; simp_all [AV.cells]
  ·rintro⟨b,rfl,_⟩; simp_all [AV.cells]
  ·rintro⟨xss,rfl,_⟩; simp_all [AV.cells]
  ·intro _; simp_all [AV.cells]
  ·intro h; exact h.elim

theorem cell_spot {w:World} {a:Addr} {v:Value} (h:w.cell? a=some v):a.spot=none:=by
 cases hs:a.spot with
 | none=>rfl
 | some s=>
  unfold World.cell? at h
  split at h
  ·rw [hs] at h; simp at h
  ·cases h

theorem Z66 {w:World} {a:Addr} {v:Value} (h:w.cell? a=some v):a.block < w.heap.size:=by
 unfold World.cell? at h
 split at h
 ·rename_i hh
  exact(Ku hh).1
 ·cases h

theorem Rd9 {α β:Type} {f:α→Option β}:∀ {l:List α} {r:List β},l.mapM f=some r→r.length=l.length∧∀ (i:Nat) x,l[i]? = some x→f x=r[i]?
 | [],r,h=>by
  simp at h; subst h
  exact⟨rfl,fun i x hx=>by cases hx⟩
 | x::l,r,h=>by
  rw [List.mapM_cons] at h
  cases hx:f x with
  | none=>rw [hx] at h; cases h
  | some y=>
   rw [hx] at h
   cases hl:l.mapM f with
   | none=>rw [hl] at h; cases h
   | some r'=>
    rw [hl] at h
    cases h
    obtain⟨h1,h2⟩:=Rd9 hl
    refine⟨by simp [h1],fun i z hz=>?_⟩
    cases i with
    | zero=>simp at hz; subst hz; simpa using hx
    | succ i=>simpa using h2 i z (by simpa using hz)

theorem Q2b {w:World} {base:Nat} {a:Addr} {n:Nat} {cs:List Value} (h:w.cells? base a n=some cs):cs.length=n∧∀ j,j < n→w.cell? (a.add j)=cs[j]? := by
 unfold World.cells? at h
 split at h
 ·obtain⟨h1,h2⟩:=Rd9 h
  exact⟨by simpa using h1,fun j hj=>h2 j j (by simp [hj])⟩
 ·cases h

theorem R82 {b off:Nat} (i:Nat):Addr.add ⟨b,off,none⟩ i=⟨b,off+i,none⟩:=by
 unfold Addr.add
 split <;> simp_all

section
variable {H:Type} {enc:TypeId×Value→H} {P:Program} {w:World} {base:Nat} {spare:Nat→Bool} {held:Bool} {S:Nat→Nat→Prop}

theorem Y64 {M n:Nat} {e:TypeId} {a:Addr} {len cap:Nat} (hS:∀ b i,b < w.heap.size→S b i) (hk:0 < P.cellsOf e) (hl:len≤cap) (hm:cap≤maxLen)
  (a0:∀ i,i < len→∃ us cs,G30 P M n e us∧Rd w S us cs∧w.cells? base (a.add (i*P.cellsOf e)) (P.cellsOf e)=some cs) :
  ∃ xss:List (List AV),xss.length=len∧(∀ xs∈xss,G30 P M n e xs)∧D w S (.list (P.cellsOf e) (xss.map (Hb7 P e))) (.slice (some a) len cap):=by
 have h9:∀ i,∃ us,i < len→∃ cs,G30 P M n e us∧Rd w S us cs∧w.cells? base (a.add (i*P.cellsOf e)) (P.cellsOf e)=some cs:=fun i=>by
  by_cases hi:i < len
  ·obtain⟨us,cs,h⟩:=a0 i hi
   exact⟨us,fun _=>⟨cs,h⟩⟩
  ·exact⟨[],fun h=>(hi h).elim⟩
 obtain⟨f,hf⟩:=Classical.skolem.1 h9
 refine⟨(List.range len).map f,by simp,?_,?_⟩
 ·intro xs hx
  obtain⟨i,hi,rfl⟩:=Mp.1 hx
  obtain⟨cs,h,_⟩:=hf i (List.mem_range.1 hi)
  exact h
 cases len with
 | zero=>exact .nil hm
 | succ len=>
  obtain⟨cs0,_,_,a1⟩:=hf 0 (Nat.succ_pos _)
  obtain⟨l0,g0⟩:=Q2b a1
  have g00:=g0 0 hk
  have hx:∃ v,cs0[0]? = some v:=⟨cs0[0],by simp⟩
  obtain⟨v0,a2⟩:=hx
  rw [a2] at g00
  have a3:a.spot=none:=by
   have:=cell_spot g00
   unfold Addr.add at this
   simpa using this
  obtain⟨b,off,sp⟩:=a
  subst a3
  have hb:b < w.heap.size:=by
   have:=Z66 g00
   simpa [R82] using this
  have h5:∀ x∈((List.range (len+1)).map f).map (Hb7 P e),x.cells.length=P.cellsOf e:=by
   intro x hx
   obtain⟨us,hu,rfl⟩:=Mp.1 hx
   obtain⟨i,hi,rfl⟩:=Mp.1 hu
   obtain⟨cs,h1,h2,h3⟩:=hf i (List.mem_range.1 hi)
   rw [Qe6 h1,← h2.1,(Q2b h3).1]
  have h0:(((List.range (len+1)).map f).map (Hb7 P e)).length=len+1:=by simp
  have h4:∀ J,J < (flat (((List.range (len+1)).map f).map (Hb7 P e))).length→∃ u v,(flat (((List.range (len+1)).map f).map (Hb7 P e)))[J]? = some u∧w.cell? ⟨b,off+J,none⟩=some v∧D w S u v:=by
   intro J hJ
   rw [J0 h5,h0] at hJ
   have hi:J / P.cellsOf e < len+1:=(Nat.div_lt_iff_lt_mul hk).2 hJ
   have hj:J % P.cellsOf e < P.cellsOf e:=Nat.mod_lt _ hk
   have h6:J / P.cellsOf e*P.cellsOf e+J % P.cellsOf e=J:=by
    rw [Nat.mul_comm]; exact Nat.div_add_mod J _
   obtain⟨cs,h1,h2,h3⟩:=hf _ hi
   obtain⟨l1,g1⟩:=Q2b h3
   have hx:(((List.range (len+1)).map f).map (Hb7 P e))[J / P.cellsOf e]? = some (Hb7 P e (f (J / P.cellsOf e))):=by
    rw [Mf,Mf,List.getElem?_range hi]; rfl
   have h7:=R78 h5 hx _ hj
   rw [h6,Qe6 h1] at h7
   have a4:(f (J / P.cellsOf e)).length=P.cellsOf e:=by rw [← h2.1,l1]
   have hu:(f (J / P.cellsOf e))[J % P.cellsOf e]? = some ((f (J / P.cellsOf e))[J % P.cellsOf e]'(by rw [a4]; exact hj)):=by simp
   have hv:cs[J % P.cellsOf e]? = some (cs[J % P.cellsOf e]'(by rw [l1]; exact hj)):=by simp
   refine⟨_,_,h7.trans hu,?_,h2.2 _ _ _ hu hv⟩
   have:=g1 _ hj
   rw [R82,R82,Nat.add_assoc,h6,hv] at this
   exact this
  have hD:=D.list (w:=w) (S:=S) (k:=P.cellsOf e) (b:=b) (off:=off) (cap:=cap) (xs:=((List.range (len+1)).map f).map (Hb7 P e)) (fun J=>(w.cell? ⟨b,off+J,none⟩).getD undef) (by rw [h0]; exact hl) hm h5
   (fun J hJ=>by
    obtain⟨u,v,_,hv,_⟩:=h4 J hJ
    exact⟨hS _ _ hb,by rw [hv]; rfl⟩)
   (fun J u hu=>by
    have hJ:J < (flat (((List.range (len+1)).map f).map (Hb7 P e))).length:=(M6 hu).1
    obtain⟨u',v,h8,hv,hd⟩:=h4 J hJ
    rw [hu] at h8
    cases h8
    rw [hv]; exact hd)
  rw [h0] at hD
  exact hD

structure J8e (H:Type) (M:Nat) (small:DataW H→Prop):Prop where
 slice:∀ elems spare,small (.slice elems spare)→elems.length≤maxLen→elems.length≤M∧∀ e∈elems,small e
 agg:∀ parts,small (.agg parts)→∀ p∈parts,small p
theorem J8e.all {H:Type}:J8e H maxLen (fun _=>True):=⟨fun _ _ _ h=>⟨h,fun _ _=>trivial⟩,fun _ _ _ _=>trivial⟩
theorem J23 (hS:∀ b i,b < w.heap.size→S b i) {M:Nat} {small:DataW H→Prop} (h5:J8e H M small):∀ (n:Nat) (t:TypeId) (fuel:Nat) (cs:List Value) (x:DataW H×List MemPlace),R1e P n t=true →
  DataW.trod enc P w base spare held fuel t cs=some x→small x.1→∃ us,G30 P M n t us∧Rd w S us cs
 | 0,_,_,_,_,h,_,_=>by cases h
 | n+1,t,fuel,cs,x,h,hx,h6=>by
  unfold R1e at h
  unfold G30
  have one:∀ {u:AV} {v:Value},D w S u v→Rd w S [u] [v]:=fun {u v} hd=>⟨rfl,fun j u' v' hu hv=>by
   cases j with
   | zero=>simp at hu hv; subst hu; subst hv; exact hd
   | succ j=>cases hu⟩
  revert h
  split
  ·rename_i ht
   intro _
   obtain⟨b,rfl,_⟩:=DataW.trod_bool ht hx
   exact⟨_,⟨b,rfl⟩,one .sc⟩
  ·rename_i ht
   intro _
   obtain⟨s,rfl,_,hs⟩:=DataW.trod_string ht hx
   exact⟨_,⟨s,rfl,hs⟩,one .sc⟩
  ·rename_i k ht
   intro _
   obtain⟨z,rfl,_,hz⟩:=DataW.trod_int ht hx
   exact⟨_,⟨z,rfl,hz⟩,one .sc⟩
  ·rename_i e ht
   intro h
   rw [Mk] at h
   have hk:0 < P.cellsOf e:=Eq.mp Nat.blt_eq h.1
   rcases DataW.trod_slice ht hx with ⟨rfl,_⟩ | ⟨a,len,cap,elems,rest,m,_,rfl,h7,hb,hl,hm,h0,a0,_,_⟩
   ·exact⟨_,⟨[],rfl,Nat.zero_le _,fun xs hx=>by cases hx⟩,one (.nil (Nat.zero_le _))⟩
   ·rw [h7] at h6
    obtain⟨hM,h4⟩:=h5.slice _ _ h6 (by rw [Mn,h0]; exact Nat.le_trans hl hm)
    rw [Mn,h0] at hM
    obtain⟨xss,h1,h2,h3⟩:=Y64 (P:=P) (base:=base) (n:=n) (e:=e) (a:=a) (len:=len) (cap:=cap) hS hk hl hm (fun i hi=>by
     have he:=a0 i hi
     rw [M7 (by rw [h0]; exact hi)] at he
     obtain⟨cs',hc,a1⟩:=Option.bind_eq_some_iff.1 he
     obtain⟨us,hf,hr⟩:=J23 hS h5 n e m cs' _ h.2 a1 (h4 _ (Mp.2 ⟨_,List.getElem_mem _,rfl⟩))
     exact⟨us,cs',hf,hr,hc⟩)
    exact⟨_,⟨xss,rfl,by rw [h1]; exact hM,h2⟩,one h3⟩
  ·rename_i fs ht
   intro h
   obtain⟨xs,m,_,h7,hl,h0,hf⟩:=DataW.trod_struct ht hx
   rw [h7] at h6
   have h4:=h5.agg _ h6
   obtain⟨us,h1,h2⟩:=Y9b (w:=w) (S:=S) (F:=G30 P M n) h hl (fun f a2 a3=>by
    obtain⟨i,hi⟩:=List.mem_iff_getElem?.1 a2
    have h8:fs[i]? = some f:=by simpa using hi
    have:=hf i f h8
    have h9:i < xs.length:=by rw [h0]; exact(Ku h8).1
    rw [M7 h9] at this
    exact J23 hS h5 n f.type m _ _ a3 this (h4 _ (Mp.2 ⟨_,List.getElem_mem h9,rfl⟩)))
   exact⟨us,h1,by simpa using h2⟩
  ·intro h; cases h

theorem J66 (hS:∀ b i,b < w.heap.size→S b i) {M:Nat} {small:DataW H→Prop} (h3:J8e H M small) {n:Nat} {t:TypeId} {r:Reach} {b0:Nat} {v:Value} {d:DataW H} {ps:List MemPlace} (h4:R1e P n t=true)
  (h0:Value.okWide P w r b0 t v) (hd:DataW.Trod enc P w base spare held t v d ps) (h5:small d):∃ us,G30 P M n t us∧D w S (Hb7 P t us) v:=by
 obtain⟨fuel,hf⟩:=hd
 obtain⟨us,h1,h2⟩:=J23 hS h3 n t fuel _ _ h4 hf h5
 refine⟨us,h1,?_⟩
 have single:∀ {u:AV},us=[u]→isAgg P t=false→v.cells.toList=[v]→D w S (Hb7 P t us) v:=fun {u} hu ha hv=>by
  subst hu
  unfold Hb7
  rw [ha]
  rw [hv] at h2
  exact h2.2 0 _ _ rfl rfl
 cases n with
 | zero=>exact h1.elim
 | succ n=>
  unfold G30 at h1
  revert h1
  split
  ·rename_i ht
   rintro⟨b,e⟩
   obtain⟨b',rfl⟩:=Go.WideShapes.okWide_bool ht h0
   exact single e (by simp [isAgg,ht]) (by simp [Value.cells])
  ·rename_i ht
   rintro⟨b,e,_⟩
   obtain⟨b',rfl⟩:=Go.WideShapes.okWide_string ht h0
   exact single e (by simp [isAgg,ht]) (by simp [Value.cells])
  ·rename_i ht
   rintro⟨b,e,_⟩
   obtain⟨b',rfl⟩:=Go.WideShapes.okWide_int ht h0
   exact single e (by simp [isAgg,ht]) (by simp [Value.cells])
  ·rename_i ht
   rintro⟨b,e,_⟩
   obtain⟨a,l,c,rfl⟩:=Go.WideShapes.okWide_slice ht h0
   exact single e (by simp [isAgg,ht]) (by simp [Value.cells])
  ·rename_i fs ht
   intro _
   obtain⟨cs,rfl,_⟩:=Go.WideShapes.okWide_struct ht h0
   unfold Hb7
   rw [show isAgg P t=true by simp [isAgg,ht]]
   refine .agg ?_ (fun j u v hu hv=>h2.2 j u v hu ?_)
   ·simpa [Value.cells] using h2.1
   ·simpa [Value.cells] using hv
  ·intro h; exact h.elim

end

theorem Step.below {w w':World} {β β':Gx} {L':Loc} (h:Step w β [] w' β' L'):Below w.heap.size w w':=
 ⟨h.os,h.tape,h.output.1,h.size,fun k hk=>(h.far k hk (fun id hi=>by simp [lk] at hi)).1⟩

theorem Z50 {P:Program} {f:FuncId} {args:List AV} {R:AV→Prop} (hc:Pure P f args R) {w:World} {vs:Array Value} (hl:vs.size=args.length)
  (hv:∀ (j:Nat) u v,args[j]? = some u→vs[j]? = some v→D w (Jk w ⟨fun _=>none,fun _ _=>False⟩ []) u v) :
  Calls P f vs w fun e w'=>∃ v r β' ,e=.returned v∧Below w.heap.size w w'∧V w' β' [] r v∧R r:=by
 refine(hc w ⟨fun _=>none,fun _ _=>False⟩ vs ⟨fun b i h=>h.elim,fun id b h=>by simp [lk] at h,fun id b j h=>by simp [lk] at h,fun id id' b h=>by simp [lk] at h,fun id o h=>by simp [lk] at h⟩ hl
  (fun j u v hu h0=>.data (hv j u v hu h0))).mono fun e w' h=>?_
 obtain⟨v,r,β',L',he,h3,h1,h2,rfl,hR⟩:=h
 exact⟨v,r,β',he,h1.below,h2,hR⟩

theorem J52 {w:World}:∀ b i,b < w.heap.size→Jk w ⟨fun _=>none,fun _ _=>False⟩ [] b i:=fun _ _ h=>⟨h,fun h=>h,fun id o h=>by simp [lk] at h⟩

section
variable {P:Program} {M n:Nat} {t e:TypeId} {us:List AV}
theorem Y40 (h:G30 P M (n+1) t us) (ht:P.underlying t=some .bool):∃ b:Bool,True∧us=[BL b]:=by
 unfold G30 at h; rw [ht] at h
 obtain⟨b,rfl⟩:=h
 exact⟨b,trivial,rfl⟩
theorem R2d {k:IntKind} (h:G30 P M (n+1) t us) (ht:P.underlying t=some (.int k)):∃ z:Int,(Lit.int k z).wf=true∧us=[.sc (.int k z)]:=by
 unfold G30 at h; rw [ht] at h
 obtain⟨z,rfl,hz⟩:=h
 exact⟨z,hz,rfl⟩
theorem Qbc {α:Type} {av:α→AV} {ok:α→Prop} {k:Nat} (h:G30 P M (n+1) t us) (ht:P.underlying t=some (.slice e)) (hk:P.cellsOf e=k)
  (h0:∀ us,G30 P M n e us→∃ x,ok x∧Hb7 P e us=av x):∃ xs:List α,((∀ x∈xs,ok x)∧xs.length≤M)∧us=[LS k av xs]:=by
 unfold G30 at h; rw [ht] at h
 obtain⟨xss,rfl,hl,hx⟩:=h
 have key:∀ (l:List (List AV)),(∀ xs∈l,G30 P M n e xs)→∃ xs:List α,(∀ x∈xs,ok x)∧xs.length=l.length∧l.map (Hb7 P e)=xs.map av:=by
  intro l
  induction l with
  | nil=>exact fun _=>⟨[],⟨fun x hx=>(Ma hx).elim,rfl,rfl⟩⟩
  | cons a l ih=>
   intro hl
   obtain⟨x,h1,h2⟩:=h0 a (hl a (List.mem_cons_self ..))
   obtain⟨xs,h3,h4,h5⟩:=ih (fun y hy=>hl y (List.mem_cons_of_mem _ hy))
   refine⟨x::xs,fun y hy=>?_,by simp [h4],by simp [h2,h5]⟩
   rcases Mr.1 hy with rfl | hy
   ·exact h1
   ·exact h3 y hy
 obtain⟨xs,h1,h2,h3⟩:=key xss hx
 exact⟨xs,⟨h1,by rw [h2]; exact hl⟩,by rw [hk,h3]⟩
theorem Jd9 {fs:Array Field} (h:G30 P M (n+1) t us) (ht:P.underlying t=some (.struct fs)):Q87 P (G30 P M n) fs.toList us:=by
 unfold G30 at h; rw [ht] at h
 exact h
theorem Z11 {fs:Array Field} (ht:P.underlying t=some (.struct fs)):Hb7 P t us=.agg us:=by
 unfold Hb7 isAgg; rw [ht]; rfl
theorem Qed {u:AV} (ht:isAgg P t=false):Hb7 P t [u]=u:=by
 unfold Hb7; rw [ht]; rfl
end

theorem u8r {z:Int} (h:(Lit.int .u8 z).wf=true):0≤z∧z≤255:=by
 simp only [Lit.wf,Mk,Mm] at h
 exact h

def Ze4 (P:Program) (l:Fr) (L:Loc):ResultVar→AV→Prop
 | .tmp t,u=>look l t=u
 | .cell t T,u=>∃ i tt cs k,look l t=.ptr i 0∧lk L i=some (.box tt cs)∧cs.length=k∧((H3e P T k=true∧u=.agg cs)∨(Rb P T=true∧cs[0]? = some u))
inductive Ya7 (ok:Nat→Bool):AV→AV→Prop
 | conv {u u':AV} (h:Conv ok u u'):Ya7 ok u u'
 | agg {cs cs':List AV} (h:J3c ok cs cs'):Ya7 ok (.agg cs) (.agg cs')
def Y6f (P:Program) (l:Fr) (L:Loc) (ok:Nat→Bool):List ResultVar→List AV→Prop
 | [],[]=>True
 | rv::r,u'::s=>(∃ u,Ze4 P l L rv u∧Ya7 ok u u')∧Y6f P l L ok r s
 | _,_=>False
def Z02:List AV→AV
 | [u]=>u
 | us=>.tup us
def Z71 (P:Program) (B:List Nat) (rvs:List ResultVar) (R:AV→Loc→Prop):Fr→Loc→Prop:=
 fun l L=>∃ us L',H2b (fun i=>(lk L' i).isSome) L L'∧allIn L' B=true∧Y6f P l L (fun i=>(lk L' i).isSome) rvs us∧R (Z02 us) L'

theorem V.convA {w:World} {β:Gx} {L L':Loc} (hd:Jcf L L') {u u':AV} {v:Value} (h:V w β L u v) (hc:Ya7 (fun i=>(lk L' i).isSome) u u'):V w β L' u' v:=by
 cases hc with
 | conv hc=>exact h.conv hd hc
 | @agg cs cs' hc=>
  obtain⟨vs,rfl,hl,hv⟩:=h.inv_agg
  exact .agg (hl.trans hc.length) (fun j u' v hu h0=>by
   have hj:j < vs.size:=(Ku h0).1
   obtain⟨u,h1⟩:∃ u,cs[j]? = some u:=⟨_,M7 (hl ▸ hj)⟩
   exact(hv j u v h1 h0).conv hd (hc.get j u u' h1 hu))

def Q1f (a:Act):ResultVar→Sem Value
 | .tmp t=>pure (a.tmps.getD t undef)
 | .cell q t=>do loadVar t (← asAddr (a.tmps.getD q undef))
theorem Y85 {P:Program} {w:World} {β:Gx} {L L':Loc} {l:Fr} {a:Act} (h6:Sat w β L) (hf:Q8 a w β L l) (hd:Jcf L L') :
  ∀ {rvs:List ResultVar} {us:List AV},Y6f P l L (fun i=>(lk L' i).isSome) rvs us →
  ∃ vs:List Value,(rvs.mapM (Q1f a)).run P w=.ok vs w∧vs.length=us.length ∧
   ∀ (j:Nat) u v,us[j]? = some u→vs[j]? = some v→V w β L' u v
 | [],[],_=>⟨[],by simp,rfl,fun j u v hu=>by simp at hu⟩
 | rv::r,u'::s,⟨⟨u,hu,hc⟩,h⟩=>by
  obtain⟨vs,h1,h2,h3⟩:=Y85 (P:=P) h6 hf hd (rvs:=r) (us:=s) h
  have key:∃ v,(Q1f a rv).run P w=.ok v w∧V w β L u v:=by
   cases rv with
   | tmp t=>
    refine⟨_,rfl,?_⟩
    have:=hf.tmp t
    rw [show look l t=u from hu] at this
    exact this
   | cell q T=>
    obtain⟨i,tt,cs,k,e1,e2,e3,e4⟩:=hu
    have hv:=hf.tmp q
    rw [e1] at hv
    obtain⟨b,hb,he⟩:=hv.inv_ptr
    obtain⟨xs,x1,x2,x3⟩:=J65 h6 e2 hb
    rcases e4 with ⟨e4,rfl⟩ | ⟨e4,e5⟩
    ·refine⟨.agg xs,?_,.agg x2 x3⟩
     have:=Q58 (w:=w) e4 x1 (x2.trans e3)
     simp only [Q1f,he,asAddr,Sem.run_bind,Sem.run_pure,Result.andThen_ok]
     exact this
    ·have h7:0 < xs.size:=by
      have:=(M6 e5).1
      omega
     refine⟨xs[0],?_,x3 0 u _ e5 (by simp [h7])⟩
     have h5:=Gd7 (P:=P) (T:=T) (b:=b) (o':=0) (v:=xs[0]) e4 (w:=w) (by simp [World.cell?,x1,h7])
     simp only [Q1f,he,asAddr,Sem.run_bind,Sem.run_pure,Result.andThen_ok]
     simpa [Instr.loadAt,Instr.sureAddr,asAddr] using h5
  obtain⟨v,k1,k2⟩:=key
  refine⟨v::vs,?_,by simp [h2],fun j u0 v0 h0 h4=>?_⟩
  ·rw [List.mapM_cons,Sem.run_bind,k1,Result.andThen_ok,Sem.run_bind,h1,Result.andThen_ok]
   rfl
  ·cases j with
   | zero=>simp at h0 h4; subst h0 h4; exact k2.convA hd hc
   | succ j=>simp at h0 h4; exact h3 j u0 v0 h0 h4
 | [],_::_,h=>h.elim
 | _::_,[],h=>h.elim

theorem Ji {P:Program} {f:FuncId} {fn:Func} {c:Code} {args:List AV} {L0:Loc} {R:AV→Loc→Prop} (base:List Nat) (rvs:List ResultVar) (hf:P.funcs[f]? = some fn) (hb:fn.body=some c) (h6:fn.results=rvs.toArray)
  (h4:∀ id,(lk L0 id).isSome=true→id∈base) (h:JC P ⟨fn.ntmps,base,none⟩ c (.fin (Z71 P base rvs R)) (H3c 0 args) L0):Hx P f args L0 R:=
 J25 hf hb h4 (fun w0 β0 a w β l L hs hq=>by
  obtain⟨us,L',q1,q2,q3,q4⟩:=hq
  have h0:Fits base l L [] L':=⟨trivial,q1,q2⟩
  have h5:=hs.fits h0
  obtain⟨vs,h1,h2,h3⟩:=Y85 hs.sat hs.frame h0.drop q3
  have h7:(results fn a.tmps).run P w=.ok (if h:vs.toArray.size=1 then vs.toArray[0] else .tuple vs.toArray) w:=by
   have e:results fn a.tmps=(do let vs ← fn.results.mapM (Q1f a); pure (if h:vs.size=1 then vs[0] else .tuple vs)):=by
    unfold results
    refine congrArg (fun g=>bind (Array.mapM g fn.results) _) ?_
    funext rv
    cases rv <;> rfl
   rw [e,h6,List.mapM_toArray,Sem.run_bind]
   rw [show (List.toArray <$> List.mapM (Q1f a) rvs:Sem (Array Value)).run P w=.ok vs.toArray w from by
    rw [map_eq_pure_bind,Sem.run_bind,h1,Result.andThen_ok]; rfl]
   rfl
  refine⟨_,Z02 us,L',h7,h5.sat,h5.step,?_,q4⟩
  match us,vs,h2,h3 with
  | [u],[v],_,h3=>simpa [Z02] using h3 0 u v rfl rfl
  | [],[],_,h3=>exact .tup rfl (fun j u v hu=>by simp at hu)
  | u::u2::us,v::v2::vs,h2,h3=>
   have:¬ (v::v2::vs).toArray.size=1:=by simp
   rw [dif_neg this]
   exact .tup (by simpa using h2) (fun j u v hu hv=>h3 j u v hu (by simpa using hv))) h

theorem Gz {P:Program} {f:FuncId} {fn:Func} {c:Code} {args:List AV} {R:AV→Prop} (rvs:List ResultVar) (hf:P.funcs[f]? = some fn) (hb:fn.body=some c) (h0:fn.results=rvs.toArray)
  (h:JC P ⟨fn.ntmps,[],none⟩ c (.fin (Z71 P [] rvs (fun r L'=>L'=[]∧R r))) (H3c 0 args) []):Pure P f args R:=Ji [] rvs hf hb h0 Z04 h
theorem fin1 {P:Program} {t:Tmp} {α:Type} {l:Fr} {L:Loc} (f:α→AV) {a r:α} (h:some a=some r) (hc:Conv (fun i=>(lk [] i).isSome) (look l t) (f a):=by exact .same rfl):Z71 P [] [.tmp t] (fun u L'=>L'=[]∧u=f r) l L:=
 ⟨[f a],[],trivial,rfl,⟨⟨_,rfl,.conv hc⟩,trivial⟩,rfl,congrArg f (M8 h)⟩
theorem fin1l {P:Program} {t:Tmp} {α:Type} {l:Fr} {L:Loc} (f:α→AV) {a r:α} (h:some a=some r) (hc:Conv (fun i=>(lk [] i).isSome) (look l t) (f a):=by exact .list rfl):Z71 P [] [.tmp t] (fun u L'=>L'=[]∧u=f r) l L:=fin1 f h hc

def inL (L:Loc) (i:Nat):Bool:=(lk L i).isSome
def He8 (L L0:Loc):Loc:=L.filter fun p=>!inL L0 p.1
theorem Y95:∀ (L L0:Loc) (id:Nat),lk (He8 L L0) id=if inL L0 id=true then none else lk L id
 | [],L0,id=>by simp [He8,lk]
 | (i,o)::r,L0,id=>by
  have ih:=Y95 r L0 id
  unfold He8 at ih ⊢
  rw [List.filter_cons,Gh]
  by_cases hi:inL L0 i=true
  ·rw [if_neg (by simp [hi]),ih]
   by_cases e:i=id
   ·subst e; simp [hi]
   ·simp [e]
  ·rw [if_pos (by simpa using hi),Gh,ih]
   by_cases e:i=id
   ·subst e; simp [hi]
   ·simp [e]
theorem R45:∀ (L M:Loc) (id:Nat),lk (L++M) id=if inL L id=true then lk L id else lk M id
 | [],M,id=>by simp [inL,lk]
 | (i,o)::r,M,id=>by
  have ih:=R45 r M id
  rw [List.cons_append,Gh,Gh,ih]
  by_cases e:i=id
  ·subst e; simp [inL,Gh]
  ·rw [if_neg e,if_neg e]; simp only [inL,Gh,if_neg e]; rfl
def H6e (L L0 L':Loc):Loc:=L'++He8 L L0
def Ha6 (β β':Gx) (L0 L':Loc):Gx:=⟨fun id=>if inL L' id=true∨inL L0 id=true then β'.at_ id else β.at_ id,β.hid⟩

def J5.refs (ok:Nat→Bool):J5→Bool
 | .box _ cs=>Qb ok cs
 | .iter m _ _=>m.refs ok
 | _=>true
theorem V.down {w:World} {β β0:Gx} {L L0:Loc} (hS:∀ b i,Jk w β L b i→Jk w β0 L0 b i) (hid:∀ id o,lk L0 id=some o→lk L id=some o∧β0.at_ id=β.at_ id) {u:AV} {v:Value} (h:V w β L u v) :
  u.refs (inL L0)=true→V w β0 L0 u v:=by
 have mono:∀ {u v},D w (Jk w β L) u v→D w (Jk w β0 L0) u v:=fun h=>h.mono fun b i hs=>⟨hS b i hs,rfl⟩
 have mem:∀ {cs:List AV},Qb (inL L0) cs=true→∀ (j:Nat) u,cs[j]? = some u→u.refs (inL L0)=true:=
  fun h j u hu=>G13 h u (M9 hu)
 have get:∀ {i o},inL L0 i=true→lk L i=some o→lk L0 i=some o∧β0.at_ i=β.at_ i:=fun hi ho=>by
  obtain⟨o',h5⟩:=Kt hi
  obtain⟨h1,h2⟩:=hid _ o' h5
  rw [ho] at h1; cases h1
  exact⟨h5,h2⟩
 induction h with
 | data h=>exact fun _=>.data (mono h)
 | agg hl _ ih=>exact fun hr=>.agg hl fun j u v hu hv=>ih j u v hu hv (mem (by simpa [AV.refs] using hr) j u hu)
 | tup hl _ ih=>exact fun hr=>.tup hl fun j u v hu hv=>ih j u v hu hv (mem (by simpa [AV.refs] using hr) j u hu)
 | fn hl _ ih=>exact fun hr=>.fn hl fun j u v hu hv=>ih j u v hu hv (mem (by simpa [AV.refs] using hr) j u hu)
 | bfn hl _ ih=>exact fun hr=>.bfn hl fun j u v hu hv=>ih j u v hu hv (mem (by simpa [AV.refs] using hr) j u hu)
 | opt _ h0 ih=>exact fun hr=>.opt (fun e=>ih e (by simpa [AV.refs] using hr)) h0
 | ptr hi h=>intro hr; obtain⟨h1,h2⟩:=get (by simpa [AV.refs] using hr) hi; exact .ptr h1 (h2.trans h)
 | ms hi h hn hm=>intro hr; obtain⟨h1,h2⟩:=get (by simpa [AV.refs] using hr) hi; exact .ms h1 (h2.trans h) hn hm
 | mp hi h=>intro hr; obtain⟨h1,h2⟩:=get (by simpa [AV.refs] using hr) hi; exact .mp h1 (h2.trans h)
 | it hi h=>intro hr; obtain⟨h1,h2⟩:=get (by simpa [AV.refs] using hr) hi; exact .it h1 (h2.trans h)
 | vec hp hv=>
  intro hr
  obtain⟨t,ver',xs,hi,h3,hx⟩:=hp
  obtain⟨h1,h2⟩:=get (by simpa [AV.refs] using hr) hi
  exact .vec ⟨t,ver',xs,h1,h3,fun e=>⟨(hx e).1,by rw [h2]; exact(hx e).2⟩⟩ hv
 | vptr hp hv=>
  intro hr
  obtain⟨t,k,ver',xs,hi,h3,hx⟩:=hp
  obtain⟨h1,h2⟩:=get (by simpa [AV.refs] using hr) hi
  exact .vptr ⟨t,k,ver',xs,h1,h3,fun e=>by rw [h2]; exact hx e⟩ hv
 | vcap hp hv=>
  intro hr
  obtain⟨t,ver',xs,hi,h3,hx⟩:=hp
  obtain⟨h1,h2⟩:=get (by simpa [AV.refs] using hr) hi
  exact .vcap ⟨t,ver',xs,h1,h3,fun e=>by rw [h2]; exact hx e⟩ hv
 | nst vs hi h3 h4 h6 _ hv ih=>
  intro hr
  simp only [AV.refs,Mk] at hr
  obtain⟨h1,h2⟩:=get hr.1 hi
  exact .nst vs h1 h3 (fun e=>by rw [h2]; exact h4 e) (fun e j u x hu hx=>mono (h6 e j u x hu hx)) (fun x e h0 hx=>ih x e h0 hx hr.2) hv
 | nptr b vs hi h3 h4 _ hv ih=>
  intro hr
  simp only [AV.refs,Mk] at hr
  obtain⟨h1,h2⟩:=get hr.1 hi
  exact .nptr b vs h1 h3 (fun e=>by rw [h2]; exact h4 e) (fun x e hx=>ih x e hx hr.2) hv
 | vsl hp hv=>
  intro hr
  obtain⟨t,ver',xs,hi,h3,hx⟩:=hp
  obtain⟨h1,h2⟩:=get (by simpa [AV.refs] using hr) hi
  exact .vsl ⟨t,ver',xs,h1,h3,fun e=>by rw [h2]; exact hx e⟩ hv
 | own hd hp=>
  intro hr
  obtain⟨t,ver',hw,hi,h3,hx⟩:=hp
  obtain⟨h1,h2⟩:=get (by simpa [AV.refs] using hr) hi
  refine .own (mono hd) ⟨t,ver',hw,h1,h3,fun e=>?_⟩
  obtain⟨a1,a2,vals,a3,a4⟩:=hx e
  refine⟨a1,a2.trans h2.symm,vals,a3,fun j u hu=>?_⟩
  obtain⟨x,h7,h8⟩:=a4 j u hu
  exact⟨x,h7,mono h8⟩

theorem V.up {w:World} {β β0:Gx} {L L0:Loc} (hS:∀ b i,Jk w β L b i→Jk w β0 L0 b i) (hid:∀ id o,lk L id=some o→lk L0 id=some o∧β0.at_ id=β.at_ id) {u:AV} {v:Value} (h:V w β L u v):V w β0 L0 u v:=by
 have mono:∀ {u v},D w (Jk w β L) u v→D w (Jk w β0 L0) u v:=fun h=>h.mono fun b i hs=>⟨hS b i hs,rfl⟩
 induction h with
 | data h=>exact .data (mono h)
 | agg hl _ ih=>exact .agg hl ih
 | tup hl _ ih=>exact .tup hl ih
 | fn hl _ ih=>exact .fn hl ih
 | bfn hl _ ih=>exact .bfn hl ih
 | opt _ h0 ih=>exact .opt ih h0
 | ptr hi h=>obtain⟨h1,h2⟩:=hid _ _ hi; exact .ptr h1 (h2.trans h)
 | ms hi h hn hm=>obtain⟨h1,h2⟩:=hid _ _ hi; exact .ms h1 (h2.trans h) hn hm
 | mp hi h=>obtain⟨h1,h2⟩:=hid _ _ hi; exact .mp h1 (h2.trans h)
 | it hi h=>obtain⟨h1,h2⟩:=hid _ _ hi; exact .it h1 (h2.trans h)
 | vec hp hv=>
  obtain⟨t,ver',xs,hi,h3,hx⟩:=hp
  obtain⟨h1,h2⟩:=hid _ _ hi
  exact .vec ⟨t,ver',xs,h1,h3,fun e=>⟨(hx e).1,by rw [h2]; exact(hx e).2⟩⟩ hv
 | vptr hp hv=>
  obtain⟨t,k,ver',xs,hi,h3,hx⟩:=hp
  obtain⟨h1,h2⟩:=hid _ _ hi
  exact .vptr ⟨t,k,ver',xs,h1,h3,fun e=>by rw [h2]; exact hx e⟩ hv
 | vcap hp hv=>
  obtain⟨t,ver',xs,hi,h3,hx⟩:=hp
  obtain⟨h1,h2⟩:=hid _ _ hi
  exact .vcap ⟨t,ver',xs,h1,h3,fun e=>by rw [h2]; exact hx e⟩ hv
 | nst vs hi h3 h4 h5 _ hv ih=>
  obtain⟨h1,h2⟩:=hid _ _ hi
  exact .nst vs h1 h3 (fun e=>by rw [h2]; exact h4 e) (fun e j u x hu hx=>mono (h5 e j u x hu hx)) (fun x e h0 hx=>ih x e h0 hx) hv
 | nptr b vs hi h3 h4 _ hv ih=>
  obtain⟨h1,h2⟩:=hid _ _ hi
  exact .nptr b vs h1 h3 (fun e=>by rw [h2]; exact h4 e) (fun x e hx=>ih x e hx) hv
 | vsl hp hv=>
  obtain⟨t,ver',xs,hi,h3,hx⟩:=hp
  obtain⟨h1,h2⟩:=hid _ _ hi
  exact .vsl ⟨t,ver',xs,h1,h3,fun e=>by rw [h2]; exact hx e⟩ hv
 | own hd hp=>
  obtain⟨t,ver',hw,hi,h3,hx⟩:=hp
  obtain⟨h1,h2⟩:=hid _ _ hi
  refine .own (mono hd) ⟨t,ver',hw,h1,h3,fun e=>?_⟩
  obtain⟨a1,a2,vals,a3,a4⟩:=hx e
  refine⟨a1,a2.trans h2.symm,vals,a3,fun j u hu=>?_⟩
  obtain⟨x,h6,h7⟩:=a4 j u hu
  exact⟨x,h6,mono h7⟩

theorem Ga1.up {w:World} {β β0:Gx} {L L0:Loc} (hS:∀ b i,Jk w β L b i→Jk w β0 L0 b i) (hid:∀ id o,lk L id=some o→lk L0 id=some o∧β0.at_ id=β.at_ id) {ob:Option Nat} {o:J5} (h:Ga1 w β L ob o):Ga1 w β0 L0 ob o:=by
 have mono:∀ {u v},D w (Jk w β L) u v→D w (Jk w β0 L0) u v:=fun h=>h.mono fun b i hs=>⟨hS b i hs,rfl⟩
 cases o with
 | box t cs=>
  obtain⟨b,hb,vs,h1,h2,h3⟩:=h
  exact⟨b,hb,vs,h1,h2,fun j u v hu hv=>(h3 j u v hu hv).up hS hid⟩
 | spare t k ver hw=>exact h
 | vec t k ver xs=>
  refine⟨h.1,h.2.imp id ?_⟩
  rintro⟨b,hb,vs,h1,h2,h3⟩
  exact⟨b,hb,vs,h1,h2,fun j u v hu hv=>mono (h3 j u v hu hv)⟩
 | map t es=>
  obtain⟨b,hb,h⟩:=h
  exact⟨b,hb,h.mono rfl mono⟩
 | iter m n seen=>
  obtain⟨b,hb,bm,h1,h3⟩:=h
  exact⟨b,hb,bm,h1.up hS hid,h3⟩

theorem Ga1.down {w:World} {β β0:Gx} {L L0:Loc} (hS:∀ b i,Jk w β L b i→Jk w β0 L0 b i) (hid:∀ id o,lk L0 id=some o→lk L id=some o∧β0.at_ id=β.at_ id) {ob:Option Nat} {o:J5} (h:Ga1 w β L ob o) (hr:o.refs (inL L0)=true):Ga1 w β0 L0 ob o:=by
 have mono:∀ {u v},D w (Jk w β L) u v→D w (Jk w β0 L0) u v:=fun h=>h.mono fun b i hs=>⟨hS b i hs,rfl⟩
 cases o with
 | box t cs=>
  obtain⟨b,hb,vs,h1,h2,h3⟩:=h
  exact⟨b,hb,vs,h1,h2,fun j u v hu hv=>(h3 j u v hu hv).down hS hid (G13 (by simpa [J5.refs] using hr) u (M9 hu))⟩
 | spare t k ver hw=>exact h
 | vec t k ver xs=>
  refine⟨h.1,h.2.imp id ?_⟩
  rintro⟨b,hb,vs,h1,h2,h3⟩
  exact⟨b,hb,vs,h1,h2,fun j u v hu hv=>mono (h3 j u v hu hv)⟩
 | map t es=>
  obtain⟨b,hb,h⟩:=h
  exact⟨b,hb,h.mono rfl mono⟩
 | iter m n seen=>
  obtain⟨b,hb,bm,h1,h3⟩:=h
  exact⟨b,hb,bm,h1.down hS hid (by simpa [J5.refs] using hr),h3⟩

theorem Qe3 {P:Program} {f:FuncId} {args:List AV} {L0 L:Loc} {R:AV→Loc→Prop} (hc:Hx P f args L0 R) {w:World} {β:Gx} (h8:Sat w β L)
  (a1:∀ id o,lk L0 id=some o→lk L id=some o) (b1:∀ id o,lk L0 id=some o→o.refs (inL L0)=true) {vs:Array Value} (hl:vs.size=args.length)
  (hv:∀ (j:Nat) u v,args[j]? = some u→vs[j]? = some v→V w β L u v∧u.refs (inL L0)=true)
  (a9:∀ r L',R r L'→∀ id,inL L' id=true→inL L0 id=true∨lk L id=none) :
  Calls P f vs w fun e w'=>∃ v r β' L',e=.returned v∧R r L'∧Sat w' (Ha6 β β' L0 L') (H6e L L0 L')∧Step w β L w' (Ha6 β β' L0 L') (H6e L L0 L')∧V w' (Ha6 β β' L0 L') (H6e L L0 L') r v:=by
 let β0:Gx:=⟨fun id=>if inL L0 id=true then β.at_ id else none,fun b i=>b < w.heap.size∧¬ Jk w β L b i∧∀ id,inL L0 id=true→β.at_ id≠some b⟩
 have a0:∀ id,inL L0 id=true→∃ o,lk L0 id=some o∧lk L id=some o:=fun id h=>by
  obtain⟨o,ho⟩:=Kt h
  exact⟨o,ho,a1 id o ho⟩
 have b0:∀ id b,β0.at_ id=some b→inL L0 id=true∧β.at_ id=some b:=fun id b h=>by
  by_cases hi:inL L0 id=true
  ·exact⟨hi,by simpa [β0,hi] using h⟩
  ·simp [β0,hi] at h
 have isL:∀ id,inL L0 id=true→(lk L id).isSome=true:=fun id h=>by
  obtain⟨o,_,ho⟩:=a0 id h
  rw [ho]; rfl
 have hS:∀ b i,Jk w β L b i→Jk w β0 L0 b i:=fun b i hs=>⟨hs.lt,fun h=>h.2.1 hs,fun id o ho hb=>hs.kept id o (a1 id o ho) (b0 id b hb).2⟩
 have hid:∀ id o,lk L0 id=some o→lk L id=some o∧β0.at_ id=β.at_ id:=fun id o ho=>⟨a1 id o ho,by
  have:inL L0 id=true:=by unfold inL; rw [ho]; rfl
  simp [β0,this]⟩
 have sat0:Sat w β0 L0:=⟨fun b i h=>h.1,fun id b h1 h2=>h8.bnd id b (isL id h1) (b0 id b h2).2,fun id b j h1 h2 h3=>h3.2.2 id h1 (b0 id b h2).2,
  fun id id' b h1 h2 h3 h4=>h8.inj id id' b (isL id h1) (isL id' h2) (b0 id b h3).2 (b0 id' b h4).2,
  fun id o ho=>by
   have:=(h8.obj id o (a1 id o ho)).down hS hid (b1 id o ho)
   rw [(hid id o ho).2]; exact this⟩
 refine(hc w β0 vs sat0 hl (fun j u v hu a8=>(hv j u v hu a8).1.down hS hid (hv j u v hu a8).2)).mono fun e w' h=>?_
 obtain⟨v,r,β',L',he,sat',st,b2,hR⟩:=h
 have b3:=a9 r L' hR
 have a4:∀ id,lk (H6e L L0 L') id=if inL L' id=true then lk L' id else if inL L0 id=true then none else lk L id:=fun id=>by
  unfold H6e; rw [R45,Y95]
 have a5:∀ id,(Ha6 β β' L0 L').at_ id=if inL L' id=true∨inL L0 id=true then β'.at_ id else β.at_ id:=fun id=>rfl
 have h9:∀ id o,lk (H6e L L0 L') id=some o→inL L' id=false→inL L0 id=false∧lk L id=some o∧(Ha6 β β' L0 L').at_ id=β.at_ id:=fun id o h1 h2=>by
  rw [a4,if_neg (by simp [h2])] at h1
  by_cases h3:inL L0 id=true
  ·rw [if_pos h3] at h1; cases h1
  ·rw [if_neg h3] at h1
   exact⟨by simpa using h3,h1,by rw [a5,if_neg (by simp [h2,h3])]⟩
 have h7:∀ id o,lk L id=some o→inL L0 id=false→lk (H6e L L0 L') id=some o∧(Ha6 β β' L0 L').at_ id=β.at_ id:=fun id o h1 h2=>by
  have h3:inL L' id=false:=by
   cases h3:inL L' id with
   | false=>rfl
   | true=>
    rcases b3 id h3 with h4 | h4
    ·rw [h2] at h4; cases h4
    ·rw [h1] at h4; cases h4
  exact⟨by rw [a4,if_neg (by simp [h3]),if_neg (by simp [h2])]; exact h1,by rw [a5,if_neg (by simp [h2,h3])]⟩
 have h6:∀ id o,lk L' id=some o→lk (H6e L L0 L') id=some o∧(Ha6 β β' L0 L').at_ id=β'.at_ id:=fun id o ho=>by
  have:inL L' id=true:=by unfold inL; rw [ho]; rfl
  exact⟨by rw [a4,if_pos this]; exact ho,by rw [a5,if_pos (.inl this)]⟩
 have a6:∀ b i,b < w.heap.size→(β'.hid b i ↔ β0.hid b i):=st.hid
 -- what is not hidden from the call is not hidden from the caller's own callers
 have nothid:∀ b i,¬ β'.hid b i→¬ β.hid b i:=fun b i hn hh=>by
  have hb:=h8.hid b i hh
  rw [a6 b i hb] at hn
  refine hn ⟨hb,fun hs=>hs.seen hh,fun id h1 h2=>h8.apart id b i (isL id h1) h2 hh⟩
 have farrest:∀ id o b,lk L id=some o→inL L0 id=false→β.at_ id=some b→b < w.heap.size∧(∀ id',inL L0 id'=true→β0.at_ id'≠some b):=fun id o b h1 h2 h3=>by
  refine⟨h8.bnd id b (by rw [h1]; rfl) h3,fun id' h4 h5=>?_⟩
  have:=h8.inj id id' b (by rw [h1]; rfl) (isL id' h4) h3 (b0 id' b h5).2
  subst this; rw [h2] at h4; cases h4
 have a3:∀ b i,Jk w' β' L' b i→Jk w' (Ha6 β β' L0 L') (H6e L L0 L') b i:=fun b i hs=>by
  refine⟨hs.lt,nothid b i hs.seen,fun id o h1 h2=>?_⟩
  cases h3:inL L' id with
  | true=>
   obtain⟨o',h0⟩:=Kt h3
   obtain⟨e1,e2⟩:=h6 id o' h0
   rw [h1] at e1; cases e1
   exact hs.kept id _ h0 (e2 ▸ h2)
  | false=>
   obtain⟨r1,r2,r3⟩:=h9 id o h1 h3
   rw [r3] at h2
   obtain⟨f1,f2⟩:=farrest id o b r2 r1 h2
   have hn:=hs.seen
   rw [a6 b i f1] at hn
   have b4:Jk w β L b i:=Classical.byContradiction fun b5=>hn ⟨f1,b5,fun id' h4 h5=>f2 id' h4 (by simp [β0,h4,h5])⟩
   exact b4.kept id o r2 h2
 have step:Step w β L w' (Ha6 β β' L0 L') (H6e L L0 L'):=by
  refine⟨st.os,st.tape,st.output,st.size,fun _ _ _=>Iff.rfl,fun b i hs=>?_,fun b hb hf=>?_,fun id t cs h1=>?_,fun id t cs h1=>?_,fun id m n es h1=>?_,fun id t k ver xs h1=>?_,fun id t k ver hw h1=>?_⟩
  ·obtain⟨s1,s2⟩:=st.stab b i (hS b i hs)
   exact⟨a3 b i s1,s2⟩
  ·obtain⟨f1,f2⟩:=st.far b hb (fun id h1 h2=>hf id (isL id h1) (b0 id b h2).2)
   refine⟨f1,fun id h1 h2=>?_⟩
   obtain⟨o,ho⟩:=Kt h1
   cases h3:inL L' id with
   | true=>
    obtain⟨o',h0⟩:=Kt h3
    exact f2 id h3 ((h6 id o' h0).2 ▸ h2)
   | false=>
    obtain⟨r1,r2,r3⟩:=h9 id o ho h3
    exact hf id (by rw [r2]; rfl) (r3 ▸ h2)
  ·cases h2:inL L0 id with
   | true=>
    obtain⟨o,ho,h0⟩:=a0 id h2
    rw [h1] at h0; cases h0
    obtain⟨s1,cs',s2⟩:=st.box id t cs ho
    exact⟨(h6 id _ s2).2.trans (s1.trans (hid id _ ho).2),cs',(h6 id _ s2).1⟩
   | false=>exact⟨(h7 id _ h1 h2).2,cs,(h7 id _ h1 h2).1⟩
  ·cases h2:inL L0 id with
   | true=>
    obtain⟨o,ho,h0⟩:=a0 id h2
    rw [h1] at h0; cases h0
    obtain⟨s1,cs',s2⟩:=st.map id t cs ho
    exact⟨(h6 id _ s2).2.trans (s1.trans (hid id _ ho).2),cs',(h6 id _ s2).1⟩
   | false=>exact⟨(h7 id _ h1 h2).2,cs,(h7 id _ h1 h2).1⟩
  ·cases h2:inL L0 id with
   | true=>
    obtain⟨o,ho,h0⟩:=a0 id h2
    rw [h1] at h0; cases h0
    obtain⟨s1,n',cs',s2⟩:=st.iter id m n es ho
    exact⟨(h6 id _ s2).2.trans (s1.trans (hid id _ ho).2),n',cs',(h6 id _ s2).1⟩
   | false=>exact⟨(h7 id _ h1 h2).2,n,es,(h7 id _ h1 h2).1⟩
  ·cases h2:inL L0 id with
   | true=>
    obtain⟨o,ho,h0⟩:=a0 id h2
    rw [h1] at h0; cases h0
    obtain⟨ver',xs',s1,s2,s3⟩:=st.vec id t k ver xs ho
    refine⟨ver',xs',(h6 id _ s1).1,s2,fun e=>?_⟩
    obtain⟨q1,q2,q3⟩:=s3 e
    exact⟨q1,(h6 id _ s1).2.trans (q2.trans (hid id _ ho).2),fun b hb=>q3 b ((hid id _ ho).2.trans hb)⟩
   | false=>
    refine⟨ver,xs,(h7 id _ h1 h2).1,Mb,fun _=>⟨rfl,(h7 id _ h1 h2).2,fun b hb=>?_⟩⟩
    obtain⟨f1,f2⟩:=farrest id _ b h1 h2 hb
    exact G23 (st.far b f1 (fun id' h4=>f2 id' h4)).1
  ·cases h2:inL L0 id with
   | true=>
    obtain⟨o,ho,h0⟩:=a0 id h2
    rw [h1] at h0; cases h0
    obtain⟨ver',b6,s1,s2,s3⟩:=st.spare id t k ver hw ho
    refine⟨ver',b6,(h6 id _ s1).1,s2,fun e=>?_⟩
    obtain⟨q1,q2,q3⟩:=s3 e
    exact⟨q1,(h6 id _ s1).2.trans (q2.trans (hid id _ ho).2),fun b hb=>q3 b ((hid id _ ho).2.trans hb)⟩
   | false=>
    refine⟨ver,hw,(h7 id _ h1 h2).1,Mb,fun _=>⟨rfl,(h7 id _ h1 h2).2,fun b hb=>?_⟩⟩
    obtain⟨f1,f2⟩:=farrest id _ b h1 h2 hb
    exact(st.far b f1 (fun id' h4=>f2 id' h4)).1
 refine⟨v,r,β',L',he,hR,?_,step,b2.up a3 h6⟩
 refine⟨fun b i h=>Kv (h8.hid b i h) st.size,fun id b h1 h2=>?_,fun id b j h1 h2=>?_,fun id id' b h1 h2 h3 h4=>?_,fun id o ho=>?_⟩
 ·obtain⟨o,ho⟩:=Kt h1
  cases h3:inL L' id with
  | true=>
   obtain⟨o',h0⟩:=Kt h3
   exact sat'.bnd id b h3 ((h6 id o' h0).2 ▸ h2)
  | false=>
   obtain⟨r1,r2,r3⟩:=h9 id o ho h3
   exact Kv (h8.bnd id b (by rw [r2]; rfl) (r3 ▸ h2)) st.size
 ·obtain⟨o,ho⟩:=Kt h1
  cases h3:inL L' id with
  | true=>
   obtain⟨o',h0⟩:=Kt h3
   exact nothid b j (sat'.apart id b j h3 ((h6 id o' h0).2 ▸ h2))
  | false=>
   obtain⟨r1,r2,r3⟩:=h9 id o ho h3
   exact h8.apart id b j (by rw [r2]; rfl) (r3 ▸ h2)
 ·have key:∀ id id',inL L' id=true→(Ha6 β β' L0 L').at_ id=some b→(lk (H6e L L0 L') id').isSome=true→inL L' id'=false→(Ha6 β β' L0 L').at_ id'=some b→False:=by
   intro id id' h3 h2 b7 b8 b9
   obtain⟨o',h0⟩:=Kt h3
   obtain⟨o2,a2⟩:=Kt b7
   obtain⟨r1,r2,r3⟩:=h9 id' o2 a2 b8
   obtain⟨f1,f2⟩:=farrest id' o2 b r2 r1 (r3 ▸ b9)
   exact(st.far b f1 (fun i h=>f2 i h)).2 id h3 ((h6 id o' h0).2 ▸ h2)
  cases e1:inL L' id with
  | true=>
   cases e2:inL L' id' with
   | true=>
    obtain⟨o1,a7⟩:=Kt e1
    obtain⟨o2,a2⟩:=Kt e2
    exact sat'.inj id id' b e1 e2 ((h6 id o1 a7).2 ▸ h3) ((h6 id' o2 a2).2 ▸ h4)
   | false=>exact(key id id' e1 h3 h2 e2 h4).elim
  | false=>
   cases e2:inL L' id' with
   | true=>exact(key id' id e2 h4 h1 e1 h3).elim
   | false=>
    obtain⟨o1,a7⟩:=Kt h1
    obtain⟨o2,a2⟩:=Kt h2
    obtain⟨_,r2,r3⟩:=h9 id o1 a7 e1
    obtain⟨_,q2,q3⟩:=h9 id' o2 a2 e2
    exact h8.inj id id' b (by rw [r2]; rfl) (by rw [q2]; rfl) (r3 ▸ h3) (q3 ▸ h4)
 ·cases h3:inL L' id with
  | true=>
   obtain⟨o',h0⟩:=Kt h3
   obtain⟨e1,e2⟩:=h6 id o' h0
   rw [ho] at e1; cases e1
   rw [e2]
   exact(sat'.obj id _ h0).up a3 h6
  | false=>
   obtain⟨r1,r2,r3⟩:=h9 id o ho h3
   rw [r3]
   exact(h8.obj id o r2).step step (fun b hb=>by
    obtain⟨f1,f2⟩:=farrest id o b r2 r1 hb
    exact(st.far b f1 (fun id' h4=>f2 id' h4)).1)
set_option linter.unusedSimpArgs false

theorem Gda {k:Nat}:∀ {xs:List AV},(∀ x∈xs,x.cells.length=k)→∀ {m f:Nat} {y:AV},xs[m]? = some y→f < k→(flat xs)[m*k+f]? = y.cells[f]?
 | [],_,m,f,y,h,_=>by simp at h
 | x::r,hk,m,f,y,h,hf=>by
  have hx:=hk x (by simp)
  cases m with
  | zero=>
   simp at h; subst h
   rw [flat,Nat.zero_mul,Nat.zero_add,Md (by omega)]
  | succ m=>
   simp at h
   rw [flat,show (m+1)*k+f=k+(m*k+f) by rw [Nat.add_mul]; omega,Mc (by omega),hx,show k+(m*k+f) - k=m*k+f by omega]
   exact Gda (fun y hy=>hk y (by simp [hy])) h hf
theorem Re5 {k:Nat}:∀ {xs:List AV},(∀ x∈xs,x.cells.length=k)→∀ {m:Nat} {z:AV},m < xs.length→z.cells.length=k→flat (xs.set m z)=(flat xs).take (m*k)++z.cells++(flat xs).drop (m*k+k)
 | [],_,m,z,h,_=>by simp at h
 | x::r,hk,m,z,h,hz=>by
  have hx:=hk x (by simp)
  cases m with
  | zero=>simp [flat,hx]
  | succ m=>
   have ih:=Re5 (xs:=r) (fun y hy=>hk y (by simp [hy])) (m:=m) (z:=z) (by simpa using h) hz
   have e1:(m+1)*k=x.cells.length+m*k:=by rw [hx,Nat.add_mul]; omega
   rw [List.set_cons_succ,flat,ih,flat,e1,List.take_length_add_append,Nat.add_assoc,List.drop_length_add_append]
   simp [List.append_assoc]

section moves
variable {w w':World} {β:Gx} {L:Loc} {i t k ver1:Nat} {xs':List AV}
theorem R5 {ob':Option Nat} (h0:Sat w β L)
  (hold:lk L i=none∨∃ ver xs,lk L i=some (.vec t k ver xs)∧ver≤ver1∧(ver1=ver→xs'.length=xs.length∧ob'=β.at_ i∧∀ b,β.at_ i=some b→w'.shape? b=w.shape? b))
  (a4:w'.os=w.os) (a5:w'.tape=w.tape) (a2:w'.output=w.output∧w.drawn≤w'.drawn) (h9:w.heap.size≤w'.heap.size)
  (a0:∀ b,b < w.heap.size→(inL L i=true→β.at_ i≠some b)→w'.heap[b]? = w.heap[b]?)
  (a6:ob'=none∨(inL L i=true∧ob'=β.at_ i)∨∃ b,ob'=some b∧w.heap.size≤b∧b < w'.heap.size) :
  Step w β L w' (upP β i ob') ((i,.vec t k ver1 xs')::L) ∧
  (Ga1 w' (upP β i ob') ((i,.vec t k ver1 xs')::L) ob' (.vec t k ver1 xs')→Sat w' (upP β i ob') ((i,.vec t k ver1 xs')::L)):=by
 have a1:∀ id b,(lk L id).isSome=true→β.at_ id=some b→i≠id→w'.heap[b]? = w.heap[b]? := by
  intro id b h1 h2 a7
  refine a0 b (h0.bnd id b h1 h2) (fun h3 h4=>a7 ?_)
  exact h0.inj i id b h3 h1 h4 h2
 have h7:∀ id,i≠id→(upP β i ob').at_ id=β.at_ id:=fun id e=>by simp [upP,Ne.symm e]
 have h8:(upP β i ob').at_ i=ob':=by simp [upP]
 have fresh:∀ b,ob'=some b→(inL L i=true∧β.at_ i=some b)∨(w.heap.size≤b∧b < w'.heap.size):=by
  intro b hb
  rcases a6 with h | ⟨h1,h2⟩ | ⟨b',h1,h2,h3⟩
  ·rw [h] at hb; cases hb
  ·exact .inl ⟨h1,by rw [← h2,hb]⟩
  ·rw [h1] at hb; cases hb; exact .inr ⟨h2,h3⟩
 have stabne:∀ b j,Jk w β L b j→inL L i=true→β.at_ i≠some b:=by
  intro b j hs a8 hb
  obtain⟨o,ho⟩:=Kt a8
  have hk:=hs.kept i o ho hb
  rcases hold with h | ⟨ver,xs,h,_⟩
  ·rw [h] at ho; cases ho
  ·rw [h] at ho; cases ho; exact hk
 have st:Step w β L w' (upP β i ob') ((i,.vec t k ver1 xs')::L):=by
  refine⟨a4,a5,a2,h9,fun _ _ _=>Iff.rfl,fun b j hs=>⟨⟨Kv hs.lt h9,hs.seen,fun id o hid hb=>?_⟩,Q1 (w:=w) (a0 b hs.lt (stabne b j hs))⟩,fun b hb hf=>⟨a0 b hb (fun h=>hf i h),fun id hid e=>?_⟩,fun id t' cs hid=>?_,fun id t' cs hid=>?_,fun id t' n cs hid=>?_,fun id t' k' vr zs hid=>?_,fun id t' k' vr hw hid=>?_⟩
  ·rw [Gh] at hid
   by_cases e:i=id
   ·subst e
    rw [h8] at hb
    rcases fresh b hb with ⟨h1,h2⟩ | ⟨h1,_⟩
    ·exact absurd h2 (stabne b j hs h1)
    ·have:=hs.lt; omega
   ·rw [if_neg e] at hid; rw [h7 id e] at hb; exact hs.kept id o hid hb
  ·rw [Gh] at hid
   by_cases e':i=id
   ·subst e'
    rw [h8] at e
    rcases fresh b e with ⟨h1,h2⟩ | ⟨h1,_⟩
    ·exact hf i h1 h2
    ·omega
   ·rw [if_neg e'] at hid; rw [h7 id e'] at e; exact hf id hid e
  ·have e:i≠id:=fun e=>by subst e; rcases hold with h | ⟨_,_,h,_⟩ <;> rw [h] at hid <;> cases hid
   exact⟨h7 id e,cs,by rw [Gh,if_neg e]; exact hid⟩
  ·have e:i≠id:=fun e=>by subst e; rcases hold with h | ⟨_,_,h,_⟩ <;> rw [h] at hid <;> cases hid
   exact⟨h7 id e,cs,by rw [Gh,if_neg e]; exact hid⟩
  ·have e:i≠id:=fun e=>by subst e; rcases hold with h | ⟨_,_,h,_⟩ <;> rw [h] at hid <;> cases hid
   exact⟨h7 id e,n,cs,by rw [Gh,if_neg e]; exact hid⟩
  ·rw [Gh]
   by_cases e:i=id
   ·subst e
    rcases hold with h | ⟨ver,xs,h,h1,h2⟩
    ·rw [h] at hid; cases hid
    ·rw [h] at hid; cases hid
     refine⟨ver1,xs',if_pos rfl,h1,fun e=>?_⟩
     obtain⟨q1,q2,q3⟩:=h2 e
     exact⟨q1,h8.trans q2,q3⟩
   ·exact⟨vr,zs,by rw [if_neg e]; exact hid,Mb,fun _=>⟨rfl,h7 id e,fun b hb=>G23 (a1 id b (by rw [hid]; rfl) hb e)⟩⟩
  ·have e:i≠id:=fun e=>by subst e; rcases hold with h | ⟨_,_,h,_⟩ <;> rw [h] at hid <;> cases hid
   exact⟨vr,hw,by rw [Gh,if_neg e]; exact hid,Mb,fun _=>⟨rfl,h7 id e,fun b hb=>a1 id b (by rw [hid]; rfl) hb e⟩⟩
 refine⟨st,fun a3=>⟨fun b j h=>Kv (h0.hid b j h) h9,fun id b hid hb=>?_,fun id b j hid hb hh=>?_,fun id id' b h1 h2 h3 h4=>?_,fun id o hid=>?_⟩⟩
 ·rw [Gh] at hid
  by_cases e:i=id
  ·subst e
   rw [h8] at hb
   rcases fresh b hb with ⟨h1,h2⟩ | ⟨_,h2⟩
   ·exact Kv (h0.bnd i b h1 h2) h9
   ·exact h2
  ·rw [if_neg e] at hid; rw [h7 id e] at hb; exact Kv (h0.bnd id b hid hb) h9
 ·rw [Gh] at hid
  by_cases e:i=id
  ·subst e
   rw [h8] at hb
   rcases fresh b hb with ⟨h1,h2⟩ | ⟨h1,_⟩
   ·exact h0.apart i b j h1 h2 hh
   ·have:=h0.hid b j hh; omega
  ·rw [if_neg e] at hid; rw [h7 id e] at hb; exact h0.apart id b j hid hb hh
 ·have key:∀ id,i≠id→(lk ((i,J5.vec t k ver1 xs')::L) id).isSome=true→(upP β i ob').at_ id=some b→ob'=some b→False:=by
   intro id e h1 h3 hb
   rw [Gh,if_neg e] at h1
   rw [h7 id e] at h3
   rcases fresh b hb with ⟨h5,h6⟩ | ⟨h5,_⟩
   ·exact e (h0.inj i id b h5 h1 h6 h3)
   ·have:=h0.bnd id _ h1 h3; omega
  by_cases e:i=id
  ·by_cases e':i=id'
   ·rw [← e,e']
   ·subst e; rw [h8] at h3; exact(key id' e' h2 h4 h3).elim
  ·by_cases e':i=id'
   ·subst e'; rw [h8] at h4; exact(key id e h1 h3 h4).elim
   ·rw [Gh,if_neg e] at h1
    rw [Gh,if_neg e'] at h2
    rw [h7 id e] at h3
    rw [h7 id' e'] at h4
    exact h0.inj id id' b h1 h2 h3 h4
 ·rw [Gh] at hid
  by_cases e:i=id
  ·subst e
   rw [if_pos rfl] at hid; cases hid
   rw [h8]; exact a3
  ·rw [if_neg e] at hid
   rw [h7 id e]
   exact(h0.obj id o hid).step st (fun b hb=>a1 id b (by rw [hid]; rfl) hb e)

theorem G79 {n ver:Nat} {xs:List AV} {x:Value} (h0:Sat w β L) (hi:lk L i=some (.vec t k ver xs)) (hv:V w β L (.vec i ver k n) x) :
  n=xs.length∧(∀ y∈xs,y.cells.length=k)∧((x=.slice none 0 0∧xs=[]∧β.at_ i=none) ∨
   ∃ b cap vs,x=.slice (some ⟨b,0,none⟩) xs.length cap∧β.at_ i=some b∧xs.length≤cap∧cap≤maxLen∧w.heap[b]? = some (.cells vs t (0,0))∧vs.size=cap*k ∧
    ∀ (j:Nat) u v,(flat xs)[j]? = some u→vs[j]? = some v→D w (Jk w β L) u v):=by
 have a0:=h0.obj i _ hi
 cases hv with
 | data h=>cases h
 | vec hp a1=>
  obtain⟨t',ver',xs',h1,h2,h3⟩:=hp
  rw [hi] at h1; cases h1
  obtain⟨rfl,h4⟩:=h3 rfl
  obtain⟨o1,o2⟩:=a0
  refine⟨rfl,o1,?_⟩
  rcases h4 with ⟨rfl,h5,h6⟩ | ⟨b,cap,rfl,h6,h7,h8,h9⟩
  ·exact .inl ⟨rfl,Kw h5,h6⟩
  ·right
   rcases o2 with ⟨o3,_⟩ | ⟨b',o3,vs,o4,o5,o6⟩
   ·rw [h6] at o3; cases o3
   ·rw [h6] at o3; cases o3
    have hs:vs.size=cap*k:=by
     have:=h9
     simp [World.shape?,o4] at this
     exact this
    exact⟨b,cap,vs,rfl,h6,h7,h8,o4,hs,o6⟩
end moves

section ops
variable {P:Program} {N:Cfg} {o:Oper} {l:Fr} {L L':Loc} {u:AV} {α:Type}

theorem G73 (i E k:Nat) {x:Operand} (ho:o.op=.assign x) (hx:ev l x=.sc (.slice none 0 0)) (hi:lk L i=none):Gy P o l L (Is (.vec i 0 k 0) ((i,.vec E k 0 [])::L)):=by
 intro a w β K Q h0 hf hK
 have hv:=hf.ev x
 rw [hx] at hv
 have hr:(execOp a.eval o).run P w=.ok (.value (.slice none 0 0)) w:=by simp [execOp,ho,hv.inv_sc]
 unfold Oper.wp
 rw [hr]
 obtain⟨st,sat⟩:=R5 (w':=w) (t:=E) (k:=k) (ver1:=0) (xs':=[]) (ob':=none) h0 (.inl hi) rfl rfl ⟨rfl,Mb⟩ (Mb) (fun _ _ _=>rfl) (.inl rfl)
 exact hK _ _ _ w _ ⟨rfl,rfl⟩ (sat ⟨by simp,.inl ⟨rfl,rfl⟩⟩) st (.vec ⟨E,0,[],by rw [Gh,if_pos rfl],Mb,fun _=>⟨rfl,.inl ⟨rfl,rfl,by simp [upP]⟩⟩⟩ rfl)

theorem Ye2 {s x:Operand} {T E k by_ i ver ver1 n:Nat} {kx:Nat} {xs ys:List AV} (ho:o.op=.call { callee:=.builtin .append,args:=#[s,x],argTypes:=#[T,T] }) (hs:ev l s=.vec i ver k n) (hi:lk L i=some (.vec E k ver xs)) (hx:Qa (ev l x)=some (kx,ys))
  (hT:sliceB P T E k=true) (hE:Yy P E k by_=true) (hb:(xs.length+ys.length)*by_≤140737488355328) (b8:xs.length+ys.length≤maxLen) (a9:∀ y∈ys,y.flatOk=true) (hk:kx=k∨ys=[]) (d6:ver < ver1) :
  Gy P o l L (Is (.vec i ver1 k (xs++ys).length) ((i,.vec E k ver1 (xs++ys))::L)):=by
 intro a w β K Q a0 hf hK
 have hv:=hf.ev s
 rw [hs] at hv
 obtain⟨rfl,b2,b3⟩:=G79 a0 hi hv
 generalize c2:a.eval s=vs at hv b3
 have a1:=(hf.ev x).Qa hx
 obtain⟨ao,cap,b4,_⟩:=a1.len
 rw [b4] at a1
 obtain⟨_,c3,c4,news,c5,a2,b5⟩:=a1.vals
 obtain⟨inf,z,e1,e2,e3,e4,e5,e6⟩:=Yy.out hE
 have a3:∀ y∈ys,y.cells.length=k:=by
  rcases hk with rfl | rfl
  ·exact c3
  ·simp
 have b9:∀ u∈news,u.oneCell'=true:=by
  intro u hu
  obtain⟨j,hj,e⟩:=List.mem_iff_getElem.1 hu
  have b6:j < (flat ys).length:=by omega
  obtain⟨x',h9,a4⟩:=b5 j (flat ys)[j] (by simp [b6])
  have:u=x':=by
   have:news[j]? = some u:=by rw [← e]; simp [hj]
   rw [this] at h9; exact M8 h9
  subst this
  have c6:((flat ys)[j]).isCell=true:=Hf1 a9 (List.getElem_mem b6)
  exact(V.data (L:=L) (β:=β) a4).cell c6
 have c7:(flat ys).length=ys.length*k:=J0 a3
 have c8:(flat xs).length=xs.length*k:=J0 b2
 -- the row aQ the kit knows it
 obtain⟨vals,a5,c9,b7⟩:∃ vals:List Value,w.ownsRow 0 E k vs xs.length vals∧(∀ (j:Nat) u v,(flat xs)[j]? = some u→vals[j]? = some v→D w (Jk w β L) u v)∧vs.ownBlock=β.at_ i:=by
  rcases b3 with ⟨rfl,rfl,h3⟩ | ⟨b,cap',cur,rfl,h2,h3,h4,h5,h6,h7⟩
  ·exact⟨[],⟨by simp,.inl ⟨rfl,rfl⟩⟩,fun j u v hu=>by simp [flat] at hu,by rw [h3]; rfl⟩
  ·refine⟨cur.toList.take (xs.length*k),⟨?_,.inr ⟨b,cap',cur,rfl,Nat.zero_le _,h5,h3,h4,h6,rfl⟩⟩,fun j u v hu hv=>h7 j u v hu ?_,by rw [h2]; rfl⟩
   ·rw [List.length_take]; refine Nat.min_eq_left ?_; exact Nat.le_trans (Nat.mul_le_mul_right _ h3) (Nat.le_of_eq (by simpa using h6.symm))
   ·have hj:=(M6 hv).1
    rw [Mg,if_pos (by rw [List.length_take] at hj; omega)] at hv
    simpa using hv
 obtain⟨v',w',hr,h8,d0,d1,c0,d2,a6,a7⟩:=H98 (P:=P) w T o.type E inf z k (sliceB.out hT).1 e1 e4 e2 e5 e6 vs xs.length vals a5 ao ys.length cap news (by rw [c5,c7]) (fun ad j u h h'=>a2 ad j u h h') c4 b9 b8 (by rw [e3]; exact hb)
 have c1:(execOp a.eval o).run P w=.ok (.value v') w':=by
  simp [execOp,ho,resolve,invoke,builtin,c2,b4,hr]
 unfold Oper.wp
 rw [c1]
 have d3:vals.length=xs.length*k:=a5.1
 have b0:=ownsRow_form h8
 have vlt:∀ b,v'.ownBlock=some b→b < w'.heap.size:=by
  intro b hb
  rcases b0 with ⟨_,_,h0⟩ | ⟨b',cap',cur,_,d4,_,_,hg,_⟩
  ·rw [h0] at hb; cases hb
  ·rw [d4] at hb; cases hb
   exact(Ku hg).1
 obtain⟨st,sat⟩:=R5 (w':=w') (t:=E) (k:=k) (ver1:=ver1) (xs':=xs++ys) (ob':=v'.ownBlock) a0 (.inr ⟨ver,xs,hi,by omega,fun e=>by omega⟩) d0 d1 c0 d2
  (fun b hb d5=>a6 b hb (fun e=>d5 (by rw [inL,hi]; rfl) (b7 ▸ e)))
  (by
   rcases a7 with h | ⟨h,h',_⟩
   ·exact .inr (.inl ⟨by rw [inL,hi]; rfl,h.trans b7⟩)
   ·exact .inr (.inr ⟨_,h,Mb,h'⟩))
 have a8:∀ y∈xs++ys,y.cells.length=k:=fun y hy=>by
  rcases Mo.1 hy with h | h
  ·exact b2 y h
  ·exact a3 y h
 have b1:∀ (j:Nat) u v,(flat (xs++ys))[j]? = some u→(vals++news)[j]? = some v→D w' (Jk w' (upP β i v'.ownBlock) ((i,.vec E k ver1 (xs++ys))::L)) u v:=by
  intro j u v hu hv
  rw [G4a] at hu
  rcases Kz j (flat xs).length with hj | hj
  ·rw [Md hj] at hu
   rw [Md (by omega)] at hv
   exact(c9 j u v hu hv).mono st.stab
  ·rw [Mc hj] at hu
   rw [Mc (by omega)] at hv
   obtain⟨x',h9,a4⟩:=b5 (j - (flat xs).length) u hu
   rw [c8,← d3] at h9
   rw [hv] at h9; cases h9
   exact a4.mono st.stab
 refine hK _ _ v' w' _ ⟨rfl,rfl⟩ (sat ⟨a8,?_⟩) st (.vec ⟨E,ver1,xs++ys,by rw [Gh,if_pos rfl],Mb,fun _=>⟨rfl,?_⟩⟩ ?_)
 ·rcases h8.2 with ⟨h1,h2⟩ | ⟨g,cap',cur,h1,_,h3,h4,h5,h6,h7⟩
  ·refine .inl ⟨by rw [h1]; rfl,Kw (by rw [Mi]; exact h2)⟩
  ·refine .inr ⟨g,by rw [h1]; rfl,cur,h3,?_,fun j u v hu hv=>b1 j u v hu ?_⟩
   ·rw [Mi,h6]; exact Nat.mul_le_mul_right _ h4
   ·have hj:j < (flat (xs++ys)).length:=(M6 hu).1
    rw [J0 a8,Mi] at hj
    rw [← h7,Mg,if_pos hj]
    simpa using hv
 ·rcases h8.2 with ⟨h1,h2⟩ | ⟨g,cap',cur,h1,_,h3,h4,h5,h6,h7⟩
  ·exact .inl ⟨h1,by rw [Mi]; exact h2,by simp [upP,h1,Value.ownBlock]⟩
  ·exact .inr ⟨g,cap',by rw [Mi]; exact h1,by simp [upP,h1,Value.ownBlock],by rw [Mi]; exact h4,h5,by simp [World.shape?,h3,h6]⟩
 ·rcases h8.2 with ⟨h1,_⟩ | ⟨g,cap',cur,h1,_⟩ <;> rw [h1] <;> rfl

theorem Zb1 {x:Operand} {T E k k' i ver n:Nat} (hT:sliceB P T E k'=true) (ho:o.op=.call { callee:=.builtin .len,args:=#[x],argTypes:=#[T] }) (hx:ev l x=.vec i ver k n) {xs:List AV} (hi:lk L i=some (.vec E k ver xs)):Gy P o l L (Is (I64 (n:Int)) L):=
 Hh fun a w β h0 hf=>by
  have hv:=hf.ev x
  rw [hx] at hv
  obtain⟨rfl,_,h⟩:=G79 h0 hi hv
  refine⟨.int .i64 xs.length,?_,.sc⟩
  rcases h with ⟨h1,h2,_⟩ | ⟨b,cap,vs,h1,_⟩
  ·subst h2
   simp [execOp,ho,resolve,invoke,builtin,Builtin.len_,underlying,(sliceB.out hT).1,h1,goInt]
  ·simp [execOp,ho,resolve,invoke,builtin,Builtin.len_,underlying,(sliceB.out hT).1,h1,goInt]

theorem Zb2 {x ix:Operand} {T E k i ver n m:Nat} {kd:IntKind} {z:Int} {xs:List AV} (ho:o.op=.indexAddr T x ix) (hx:ev l x=.vec i ver k n) (h4:ev l ix=.sc (.int kd z)) (hi:lk L i=some (.vec E k ver xs)) (hT:sliceB P T E k=true) (hm:m < xs.length) (hz:z=(m:Int)) :
  Gy P o l L (Is (.vptr i ver m 0) L):=
 Hh fun a w β h0 hf=>by
  subst hz
  have hv:=hf.ev x
  rw [hx] at hv
  have h2:=hf.ev ix
  rw [h4] at h2
  obtain⟨rfl,_,h⟩:=G79 h0 hi hv
  rcases h with ⟨h1,h3,_⟩ | ⟨b,cap,vs,h1,h3,_⟩
  ·subst h3; simp at hm
  ·have hr:=Q9 (sliceB.out hT).2 w
   refine⟨.pointer (some ⟨b,m*k,none⟩),?_,.vptr ⟨E,k,ver,xs,hi,Mb,fun _=>⟨b,h3,rfl⟩⟩ rfl⟩
   simp [execOp,ho,Instr.indexAt,h2.inv_sc,asIntOf,underlying,(sliceB.out hT).1,h1,hm,hr,Addr.add_lit]

theorem V.inv_vptr {w:World} {β:Gx} {i ver m f t k:Nat} {xs:List AV} {x:Value} (hi:lk L i=some (.vec t k ver xs)) (h:V w β L (.vptr i ver m f) x):∃ b,β.at_ i=some b∧x=.pointer (some ⟨b,m*k+f,none⟩):=by
 cases h with
 | data h=>cases h
 | vptr hp _=>
  obtain⟨t',k',ver',xs',h1,_,h3⟩:=hp
  rw [hi] at h1; cases h1
  exact h3 rfl

theorem H45 {w:World} {β:Gx} {i b t k ver:Nat} {xs:List AV} (h0:Sat w β L) (hi:lk L i=some (.vec t k ver xs)) (hb:β.at_ i=some b) :
  (∀ y∈xs,y.cells.length=k)∧∃ vs:Array Value,w.heap[b]? = some (.cells vs t (0,0))∧xs.length*k≤vs.size∧∀ (j:Nat) u v,(flat xs)[j]? = some u→vs[j]? = some v→D w (Jk w β L) u v:=by
 obtain⟨o1,o2⟩:=h0.obj i _ hi
 refine⟨o1,?_⟩
 rcases o2 with ⟨h,_⟩ | ⟨b',h,vs,h1,h2,h3⟩
 ·rw [hb] at h; cases h
 ·rw [hb] at h; cases h; exact⟨vs,h1,h2,h3⟩

theorem Z31 {x:Operand} {T fl off i ver m f t k:Nat} {xs:List AV} (hT:Jw P T fl off=true) (ho:o.op=.fieldAddr T x fl) (hx:ev l x=.vptr i ver m f) (hi:lk L i=some (.vec t k ver xs)):Gy P o l L (Is (.vptr i ver m (f+off)) L):=
 Hh fun a w β h0 hf=>by
  have hv:=hf.ev x
  rw [hx] at hv
  obtain⟨b,hb,he⟩:=hv.inv_vptr hi
  refine⟨.pointer (some ⟨b,m*k+f+off,none⟩),?_,.vptr ⟨t,k,ver,xs,hi,Mb,fun _=>⟨b,hb,by rw [Nat.add_assoc]⟩⟩ rfl⟩
  have:=J56 (P:=P) (b:=b) (o:=m*k+f) hT w
  simp [execOp,ho,he,this]

theorem Z74 {x:Operand} {T i ver m f t k:Nat} {xs:List AV} {y:AV} (hT:Rb P T=true) (ho:o.op=.load T x) (hx:ev l x=.vptr i ver m f) (hi:lk L i=some (.vec t k ver xs)) (hy:xs[m]? = some y) (hu:y.cells[f]? = some u) (h6:f < k):Gy P o l L (Is u L):=
 Hh fun a w β h5 hf=>by
  have hv:=hf.ev x
  rw [hx] at hv
  obtain⟨b,hb,he⟩:=hv.inv_vptr hi
  obtain⟨h1,vs,h2,h3,h4⟩:=H45 h5 hi hb
  have hm:=(M6 hy).1
  have h0:m*k+f < vs.size:=by
   have:(m+1)*k≤xs.length*k:=Nat.mul_le_mul_right _ hm
   rw [Nat.add_mul] at this; omega
  refine⟨vs[m*k+f],?_,.data (h4 (m*k+f) u _ (by rw [Gda h1 hy h6]; exact hu) (by simp [h0]))⟩
  have:=Gd7 (P:=P) (T:=T) (b:=b) (o':=m*k+f) (v:=vs[m*k+f]) hT (w:=w) (by simp [World.cell?,h2,h0])
  simp [execOp,ho,he,this]

theorem Y75 {x:Operand} {T i ver m f t k kk:Nat} {xs ds:List AV} {y:AV} (hT:H3e P T kk=true) (ho:o.op=.load T x) (hx:ev l x=.vptr i ver m f) (hi:lk L i=some (.vec t k ver xs)) (hy:xs[m]? = some y) (h5:takeN kk (y.cells.drop f)=some ds) (h6:f+kk≤k):Gy P o l L (Is (.agg ds) L):=
 Hh fun a w β h0 hf=>by
  have hv:=hf.ev x
  rw [hx] at hv
  obtain⟨b,hb,he⟩:=hv.inv_vptr hi
  obtain⟨h1,vs,h2,h3,h4⟩:=H45 h0 hi hb
  obtain⟨rfl,hk⟩:=Jda h5
  have hm:=(M6 hy).1
  have h7:m*k+f+kk≤vs.size:=by
   have:(m+1)*k≤xs.length*k:=Nat.mul_le_mul_right _ hm
   rw [Nat.add_mul] at this; omega
  have hr:=H10 (P:=P) (T:=T) (k:=kk) (b:=b) (o':=m*k+f) (vs:=(vs.toList.drop (m*k+f)).take kk) hT (by simp; omega) (w:=w) (fun j v hv=>by
   have hj:=(M6 hv).1
   rw [List.length_take] at hj
   rw [Mg,if_pos (by omega),Mh] at hv
   simp [World.cell?,h2] at hv ⊢
   exact hv)
  refine⟨_,by simp [execOp,ho,he,hr]; rfl,.agg (by simp only [List.size_toArray,List.length_take,List.length_drop,Array.length_toList] at hk ⊢; rw [Nat.min_eq_left (by omega),Nat.min_eq_left (by omega)]) (fun j u v hu hv=>?_)⟩
  have hj:=(M6 hu).1
  rw [List.length_take] at hj
  rw [Mg,if_pos (by omega),Mh] at hu
  simp only [List.getElem?_toArray] at hv
  rw [Mg,if_pos (by omega),Mh] at hv
  refine .data (h4 (m*k+(f+j)) u v ?_ ?_)
  ·rw [Gda h1 hy (by omega)]; exact hu
  ·rw [← Nat.add_assoc]; simpa using hv

theorem Rfd {x y:Operand} {T i ver m f t k kk:Nat} {xs ds:List AV} {e z:AV} (hT:Yg P T kk=true) (ho:o.op=.store T x y) (hu:ev l y=u) (hx:ev l x=.vptr i ver m f) (hi:lk L i=some (.vec t k ver xs)) (he:xs[m]? = some e)
  (hc:u.flatOk=true) (hd:u.isData=true) (a3:J93 f u.cells e.cells=some ds) (hz:z.cells=ds) (hk:u.cells.length=kk) (a1:Nat.blt 0 kk=true) :
  Gy P o l L (Is .junk ((i,.vec t k ver (xs.set m z))::L)):=by
 subst hu
 have h2:(ev l y).cells≠[]:=fun e=>by rw [e] at hk; subst hk; cases a1
 obtain⟨rfl,h7⟩:=Q85 a3 h2
 rw [hk] at h7
 intro a w β K Q h3 hf hK
 have h1:=hf.ev x
 rw [hx] at h1
 obtain⟨b,hb,a4⟩:=h1.inv_vptr hi
 obtain⟨q1,vs,q2,q3,q4⟩:=H45 h3 hi hb
 have hm:=(M6 he).1
 have b2:e.cells.length=k:=q1 e (M9 he)
 have a2:m*k+f+kk≤vs.size:=by
  have:(m+1)*k≤xs.length*k:=Nat.mul_le_mul_right _ hm
  rw [Nat.add_mul] at this; omega
 obtain⟨c1,c2,c3⟩:=(hf.ev y).cells hc
 have hr:=Hc3 (P:=P) (off:=m*k+f) hT (c1.trans hk) c3 q2 a2
 unfold Oper.wp
 have a5:(execOp a.eval o).run P w=.ok .skip (w.setRow b (vs.toList.take (m*k+f)++(a.eval y).cells.toList++vs.toList.drop (m*k+f+kk)).toArray):=by
  simp [execOp,ho,a4,hr]
 rw [a5]
 have h8:=setRow_heap w b vs (vs.toList.take (m*k+f)++(a.eval y).cells.toList++vs.toList.drop (m*k+f+kk)).toArray t (0,0) q2
 have h4:(vs.toList.take (m*k+f)++(a.eval y).cells.toList++vs.toList.drop (m*k+f+kk)).toArray.size=vs.size:=by
  simp [c1]; omega
 have h5:z.cells.length=k:=by
  rw [hz]; simp [hk]; omega
 obtain⟨st,sat⟩:=R5 (w':=w.setRow b (vs.toList.take (m*k+f)++(a.eval y).cells.toList++vs.toList.drop (m*k+f+kk)).toArray) (t:=t) (k:=k) (ver1:=ver) (xs':=xs.set m z) (ob':=β.at_ i) h3
  (.inr ⟨ver,xs,hi,Mb,fun _=>⟨by simp,rfl,fun b' h9=>by
   rw [hb] at h9; cases h9
   rw [World.shape?,h8,World.shape?,q2]; simp only [h4]⟩⟩) rfl rfl ⟨rfl,Mb⟩ (by simp)
  (fun b' _ h2=>setRow_other w b b' _ (fun e=>h2 (by rw [inL,hi]; rfl) (by rw [hb,e])))
  (.inr (.inl ⟨by rw [inL,hi]; rfl,rfl⟩))
 have a6:∀ y∈xs.set m z,y.cells.length=k:=fun y hy=>by
  rcases List.mem_or_eq_of_mem_set hy with h | h
  ·exact q1 y h
  ·rw [h]; exact h5
 refine hK _ _ _ _ _ ⟨rfl,rfl⟩ (sat ⟨a6,.inr ⟨b,hb,_,h8,by rw [h4]; simpa using q3,fun j u v hu hv=>?_⟩⟩) st .junk
 rw [Re5 q1 hm h5,hz] at hu
 have b3:(flat xs).length=xs.length*k:=J0 q1
 have b4:m*k+k≤xs.length*k:=by
  have:(m+1)*k≤xs.length*k:=Nat.mul_le_mul_right _ hm
  rwa [Nat.add_mul,Nat.one_mul] at this
 simp only [List.getElem?_toArray] at hv
 have old:∀ j',(flat xs)[j']? = some u→vs[j']? = some v→D _ _ u v:=fun j' a b=>(q4 j' u v a b).mono st.stab
 have h6:(e.cells.take f++(ev l y).cells++e.cells.drop (f+(ev l y).cells.length)).length=k:=by rw [← hz]; exact h5
 have h0:(a.eval y).cells.toList.length=kk:=by rw [Array.length_toList,c1,hk]
 rcases Kz j (m*k) with hj | hj
 ·rw [List.append_assoc,Md (by simp; omega),Mg,if_pos hj] at hu
  rw [List.append_assoc,Md (by simp; omega),Mg,if_pos (by omega)] at hv
  exact old j hu (by simpa using hv)
 rcases Kz j (m*k+k) with a7 | a7
 ·-- in the element
  rw [Md (by rw [Mi,h6]; simp; omega),Mc (by simp; omega)] at hu
  have a8:(List.take (m*k) (flat xs)).length=m*k:=by simp; omega
  rw [a8] at hu
  rcases Kz j (m*k+f) with a0 | a0
  ·rw [List.append_assoc,Md (by simp; omega),Mg,if_pos (by omega)] at hu
   rw [List.append_assoc,Md (by simp; omega),Mg,if_pos a0] at hv
   refine old j ?_ (by simpa using hv)
   rw [show j=m*k+(j - m*k) by omega,Gda q1 he (by omega)]; exact hu
  rcases Kz j (m*k+f+kk) with a9 | a9
  ·rw [Md (by simp [hk]; omega),Mc (by simp; omega)] at hu
   rw [Md (by rw [Mi,h0]; simp; omega),Mc (by simp; omega)] at hv
   have l1:(List.take f e.cells).length=f:=by simp; omega
   have l2:(List.take (m*k+f) vs.toList).length=m*k+f:=by simp; omega
   rw [l1] at hu
   rw [l2] at hv
   rw [show j - m*k - f=j - (m*k+f) by omega] at hu
   have b0:u.isData=true:=by
    have b1:=M9 hu
    exact Qcc (ok:=fun _=>false) hd u b1
   exact((c2 _ u v hu (by simpa using hv)).toD b0).mono st.stab
  ·rw [Mc (by simp [hk]; omega),Mh] at hu
   rw [Mc (by rw [Mi,h0]; simp; omega),Mh] at hv
   have l1:(List.take f e.cells++(ev l y).cells).length=f+kk:=by simp [hk]; omega
   have l2:(List.take (m*k+f) vs.toList++(a.eval y).cells.toList).length=m*k+f+kk:=by rw [Mi,h0]; simp; omega
   rw [l1,hk] at hu
   rw [l2] at hv
   refine old j ?_ ?_
   ·rw [show j=m*k+(j - m*k) by omega,Gda q1 he (by omega)]
    rw [show f+kk+(j - m*k - (f+kk))=j - m*k by omega] at hu; exact hu
   ·rw [show m*k+f+kk+(j - (m*k+f+kk))=j by omega] at hv; simpa using hv
 ·rw [Mc (by rw [Mi,h6]; simp; omega),Mh] at hu
  rw [Mc (by rw [Mi,h0]; simp; omega),Mh] at hv
  have l1:(List.take (m*k) (flat xs)++(e.cells.take f++(ev l y).cells++e.cells.drop (f+(ev l y).cells.length))).length=m*k+k:=by rw [Mi,h6]; simp; omega
  have l2:(List.take (m*k+f) vs.toList++(a.eval y).cells.toList).length=m*k+f+kk:=by rw [Mi,h0]; simp; omega
  rw [l1] at hu
  rw [l2] at hv
  refine old j ?_ ?_
  ·rw [show m*k+k+(j - (m*k+k))=j by omega] at hu; exact hu
  ·rw [show m*k+f+kk+(j - (m*k+f+kk))=j by omega] at hv; simpa using hv
end ops
end Go.Proofs.YtgcpimpnpcdmmaaGreat
