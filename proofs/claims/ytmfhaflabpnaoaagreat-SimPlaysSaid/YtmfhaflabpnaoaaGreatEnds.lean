/-
 Combinators of the models that the extractor prints,and what From the reading of an argument aQ data to the walks' abstra The ends of calls:
-/
import Derived.Test.YtmfhaflabpnaoaaGreatMore
import Derived.ChangeArms
import Derived.ChangeOld
import Derived.Below
import Derived.JoinedOf
import Derived.JoinedAt
namespace Go.Proofs.YtmfhaflabpnaoaaGreat
open Go.RowKit

section model
variable {α β σ:Type}

def loop (b:(σ→Option β)→σ→Option β):Nat→σ→Option β
 | 0,_=>none
 | n+1,s=>b (loop b n) s
def each (b:α→Nat→σ→(σ→Option β)→Option β) (kx:σ→Option β):List α→Nat→σ→Option β
 | [],_,s=>kx s
 | x::xs,i,s=>b x i s (each b kx xs (i+1))
def upto (b:Nat→σ→(σ→Option β)→Option β) (kx:σ→Option β):Nat→Nat→σ→Option β
 | 0,_,s=>kx s
 | n+1,i,s=>b i s (upto b kx n (i+1))
def jp (m:(α→Option β)→Option β) (k:α→Option β):Option β:=m k
def bnd (m:Option α) (k:α→Option β):Option β:=match m with
 | some x=>k x
 | none=>none
def Q8a (z:Int):Bool:=decide (-9223372036854775808≤z)&&decide (z≤9223372036854775807)
def chk (z:Int) (k:Int→Option β):Option β:=bif Q8a z then k z else none
def wrp (z:Int) (k:Int→Option β):Option β:=k (IntKind.i64.wrap z)
theorem Qa4 {z:Int} {k:Int→Option β} {r:β} (h:wrp z k=some r):∃ v,IntKind.i64.wrap z=v∧k v=some r:=⟨_,rfl,h⟩
def Qr (l:List α) (i:Int) (k:α→Option β):Option β:=bif decide (0≤i) then bnd l[i.toNat]? k else none
def need (b:Bool) (k:Option β):Option β:=bif b then k else none

theorem R08 {b:(σ→Option β)→σ→Option β} {n:Nat} {s:σ} {r:β} (h:loop b n s=some r):∃ m nx,n=m+1∧loop b m=nx∧b nx s=some r:=by
 cases n with
 | zero=>cases h
 | succ m=>exact⟨m,_,rfl,rfl,h⟩
theorem J0 {b:α→Nat→σ→(σ→Option β)→Option β} {kx:σ→Option β} {xs:List α} {i k:Nat} {s:σ} {r:β} (h:each b kx (xs.drop k) i s=some r) (hk:¬ k < xs.length):kx s=some r:=by
 rw [List.drop_eq_nil_of_le (by omega)] at h; exact h
theorem Hz {b:α→Nat→σ→(σ→Option β)→Option β} {kx:σ→Option β} {xs:List α} {i k:Nat} {s:σ} {r:β} (h:each b kx (xs.drop k) i s=some r) (hk:k < xs.length) :
  ∃ x nx,xs[k]? = some x∧each b kx (xs.drop (k+1)) (i+1)=nx∧b x i s nx=some r:=by
 rw [List.drop_eq_getElem_cons hk] at h
 exact⟨xs[k],_,by simp [hk],rfl,h⟩
theorem J37 {b:Nat→σ→(σ→Option β)→Option β} {kx:σ→Option β} {n i k:Nat} {s:σ} {r:β} (h:upto b kx (n - k) i s=some r) (hk:¬ k < n):kx s=some r:=by
 rw [show n - k=0 by omega] at h; exact h
theorem J36 {b:Nat→σ→(σ→Option β)→Option β} {kx:σ→Option β} {n i k:Nat} {s:σ} {r:β} (h:upto b kx (n - k) i s=some r) (hk:k < n) :
  ∃ nx,upto b kx (n - (k+1)) (i+1)=nx∧b i s nx=some r:=by
 rw [show n - k=(n - (k+1))+1 by omega] at h
 exact⟨_,rfl,h⟩
theorem Ga2 {m:(α→Option β)→Option β} {k:α→Option β} {r:β} (h:jp m k=some r):∃ kk,k=kk∧m kk=some r:=⟨k,rfl,h⟩
theorem Gj {m:Option α} {k:α→Option β} {r:β} (h:bnd m k=some r):∃ x,m=some x∧k x=some r:=by
 cases m with
 | none=>cases h
 | some x=>exact⟨x,rfl,h⟩
theorem Zw {z:Int} {k:Int→Option β} {r:β} (h:chk z k=some r):∃ v,IntKind.i64.wrap z=v∧k v=some r:=by
 unfold chk at h
 cases hz:Q8a z with
 | true=>
  rw [hz] at h
  simp only [Q8a,Me,Mf] at hz
  exact⟨z,Jc6 hz.1 hz.2,h⟩
 | false=>rw [hz] at h; cases h
theorem Rr {l:List α} {i:Int} {k:α→Option β} {r:β} (h:Qr l i k=some r):∃ (m:Nat) (x:α),i=(m:Int)∧l[m]? = some x∧k x=some r:=by
 unfold Qr at h
 cases hz:decide (0≤i) with
 | true=>
  rw [hz] at h
  obtain⟨x,hx,h⟩:=Gj h
  exact⟨i.toNat,x,by have:=Kw hz; omega,hx,h⟩
 | false=>rw [hz] at h; cases h
theorem Qa {b:Bool} {k:Option β} {r:β} (h:need b k=some r):b=true∧k=some r:=by
 cases b with
 | true=>exact⟨rfl,h⟩
 | false=>cases h
theorem H1 {c:Bool} {x y z:α} (hc:c=true) (h:(bif c then x else y)=z):x=z:=by subst hc; exact h
theorem Hg {c:Bool} {x y z:α} (hc:c=false) (h:(bif c then x else y)=z):y=z:=by subst hc; exact h
theorem Y5a {f:α→AV} {l:List α} {m:Nat} {x:α} (h:l[m]? = some x):(l.map f)[m]? = some (f x):=by simp [h]
end model

abbrev ST (s:ByteArray):AV:=.sc (.string s)
abbrev LS {α:Type} (k:Nat) (f:α→AV) (xs:List α):AV:=.list k (xs.map f)
abbrev E0:Value:=.int .i64 0
abbrev Ej (n:Nat):AV:=I64 (n:Int)
abbrev Eb:=LS 1 U8
abbrev E1:=LS 1 I64
abbrev OW {α:Type} (i k:Nat) (f:α→AV) (xs:List α):AV:=.own i xs.length k (xs.map f)

section ops
variable {P:Program} {N:Cfg} {Q:Post} {l:Fr} {L L':Loc} {ops:Array Oper} {o:Oper} {rest:List Oper} {u:AV} {α:Type}

theorem Hp {x:Operand} {T E k k' d:Nat} {f:α→AV} {xs:List α} (hT:sliceB P T E k'=true) (ho:o.op=.call { callee:=.builtin .len,args:=#[x],argTypes:=#[T] }) (hx:Qb (ev l x)=some (k,xs.map f))
  (hk:xs.length≤maxLen→JL P N ops rest Q ((d,I64 (xs.length:Int))::l) L) (hg:o.guard=none) (hd:o.dst=some d) (hn:Nat.blt d N.n=true):JL P N ops (o::rest) Q l L:=
 Yae hT (fun hm=>by simp only [Mg] at hm ⊢; exact hk hm) ho hx hg hd hn
theorem JLl {x:Operand} {T E k k' d:Nat} {f:α→AV} {xs:List α} (hT:sliceB P T E k'=true) (ho:o.op=.call { callee:=.builtin .len,args:=#[x],argTypes:=#[T] }) (hx:Qb (ev l x)=some (k,xs.map f)) (hd:o.dst=some d)
  (hk:xs.length≤maxLen→JL P N ops rest Q ((d,I64 (xs.length:Int))::l) L) (hg:o.guard=none:=by rfl) (hn:Nat.blt d N.n=true:=by rfl):JL P N ops (o::rest) Q l L:=Hp hT ho hx hk hg hd hn
theorem G2d {x:Operand} {T E k k':Nat} {f:α→AV} {xs:List α} (hT:sliceB P T E k'=true) (ho:o.op=.call { callee:=.builtin .len,args:=#[x],argTypes:=#[T] }) (hx:Qb (ev l x)=some (k,xs.map f)):H2 P o l L (Is (I64 (xs.length:Int)) L):=by
 have:=Y42 (L:=L) hT ho hx
 simpa only [Mg] using this
theorem Gb {x:Operand} {T f off:Nat} {cs ds:List AV} (hT:Jz P T f off=true) (ho:o.op=.fieldAddr T x f) (hx:ev l x=.dptr cs) (hd:cs.drop off=ds):H2 P o l L (Is (.dptr ds) L):=hd ▸ Y7a hT ho hx
theorem H0 {x ix:Operand} {T E k m:Nat} {kd:IntKind} {n:Int} {f:α→AV} {xs:List α} {y:α} (ho:o.op=.indexAddr T x ix) (hx:Qb (ev l x)=some (k,xs.map f)) (hi:ev l ix=.sc (.int kd n)) (hT:sliceB P T E k=true) (hy:xs[m]? = some y) (hm:n=(m:Int)) :
  H2 P o l L (Is (.dptr (f y).cells) L):=Y79 ho hx hi hT (Y5a hy) hm
theorem Z1 {s x:Operand} {T E k by_ i kx:Nat} {f:α→AV} {xs ys:List α} (ho:o.op=.call { callee:=.builtin .append,args:=#[s,x],argTypes:=#[T,T] }) (hs:ev l s=OW i k f xs) (hi:lk L i=some (.spare E k xs.length xs.length)) (hx:Qb (ev l x)=some (kx,ys.map f))
  (hT:sliceB P T E k=true) (hE:Zd P E k by_=true) (hb:decide ((xs.length+ys.length)*by_≤140737488355328∧xs.length+ys.length≤maxLen)=true) (h0:∀ y,(f y).flatOk=true) (hk:kx=k∨ys=[]) (hy:ys.length=1) :
  H2 P o l L (Is (OW i k f (xs++ys)) ((i,.spare E k (xs++ys).length (xs++ys).length)::L)):=by
 have h1:=Kw hb
 have h:=R2a (xs:=xs.map f) (ys:=ys.map f) ho hs hi hx hT hE (by simpa using h1.1) (by simpa using h1.2) (fun y hy=>by
  obtain⟨z,_,rfl⟩:=Mi.1 hy
  exact h0 z) (hk.imp id (fun e=>by rw [e]; rfl))
 simpa only [OW,List.map_append,Mc,Mg,hy] using h
theorem R8f {x p:Operand} {T E k n:Nat} {kd:IntKind} {ni:Int} {f:α→AV} {xs:List α} (ho:o.op=.slice T x none (some p) none) (hx:Qb (ev l x)=some (k,xs.map f)) (hp:ev l p=.sc (.int kd ni)) (hT:sliceB P T E k=true) (hn:ni=(n:Int)∧n≤xs.length) :
  H2 P o l L (Is (LS k f (xs.take n)) L):=by
 have h:=Rf4 (L:=L) ho hx hp hT hn.1 (by simpa using hn.2)
 simpa only [LS,List.map_take] using h
end ops

section model
variable {α β σ:Type}
theorem G65 {z v:Int} (h:chk z some=some v):IntKind.i64.wrap z=v:=by
 obtain⟨x,hx,e⟩:=Zw h
 cases e; exact hx
theorem R1 {l:List α} {i:Int} {x:α} (h:Qr l i some=some x):∃ m:Nat,i=(m:Int)∧l[m]? = some x:=by
 obtain⟨m,y,hm,hy,e⟩:=Rr h
 cases e; exact⟨m,hm,hy⟩
theorem Q90 {l:List α} {i:Int} {k:α→Option β} {r:β} (h:Qr l i k=some r):∃ x,i=(i.toNat:Int)∧l[i.toNat]? = some x∧k x=some r:=by
 obtain⟨m,x,hm,hx,h⟩:=Rr h
 exact⟨x,by omega,by rw [hm]; exact hx,h⟩
def H79 (i:Int) (n:Nat):Option Nat:=bif decide (0≤i)&&decide (i.toNat≤n) then some i.toNat else none
theorem J72 {i:Int} {n m:Nat} (h:H79 i n=some m):i=(m:Int)∧m≤n:=by
 unfold H79 at h
 cases hb:decide (0≤i)&&decide (i.toNat≤n) with
 | true=>
  rw [hb] at h; cases h
  simp only [Me,Mf] at hb
  exact⟨by omega,hb.2⟩
 | false=>rw [hb] at h; cases h
theorem Hw {k n:Nat} (hk:k < n) (hn:n≤maxLen):IntKind.i64.wrap ((k:Int)+1)=((k+1:Nat):Int):=by
 rw [Jc6 (by omega) (by unfold maxLen at hn; omega)]; rfl
theorem J4e {k:Nat} {e:Int} (h:decide ((k:Int) < e)=true):k < e.toNat:=by have:=Kw h; omega
theorem H22 {k:Nat} {e:Int} (h:decide ((k:Int) < e)=false):¬ k < e.toNat:=by have:=Kx h; omega
theorem Q4 {k n:Nat} (h:decide ((k:Int) < (n:Int))=true):k < n:=by have:=Kw h; omega
theorem Hd {k n:Nat} (h:decide ((k:Int) < (n:Int))=false):¬ k < n:=by have:=Kx h; omega
theorem Heb {e:Int} (h:decide (e≤9223372036854775807)=true):e.toNat≤maxLen:=by have:=Kw h; unfold maxLen; omega
theorem app1 {α β:Type} {f g:α→β} {x:α} {r:β} (e:f=g) (h:g x=r):f x=r:=e ▸ h
theorem app2 {α γ β:Type} {f g:α→γ→β} {x:α} {y:γ} {r:β} (e:f=g) (h:g x y=r):f x y=r:=e ▸ h
theorem Jbd {α γ δ β:Type} {f g:α→γ→δ→β} {x:α} {y:γ} {z:δ} {r:β} (e:f=g) (h:g x y z=r):f x y z=r:=e ▸ h
theorem Zi {α γ δ ε β:Type} {f g:α→γ→δ→ε→β} {x:α} {y:γ} {z:δ} {u:ε} {r:β} (e:f=g) (h:g x y z u=r):f x y z u=r:=e ▸ h
theorem Jf {b:α→Nat→σ→(σ→Option β)→Option β} {kx:σ→Option β} {xs:List α} {s:σ} {r:Option β} (h:each b kx xs 0 s=r):∃ b' kx',b=b'∧kx=kx'∧each b' kx' (xs.drop 0) 0 s=r:=⟨b,kx,rfl,rfl,by rw [List.drop_zero]; exact h⟩
theorem Jc8 {b:Nat→σ→(σ→Option β)→Option β} {kx:σ→Option β} {n:Nat} {s:σ} {r:Option β} (h:upto b kx n 0 s=r):∃ b' kx',b=b'∧kx=kx'∧upto b' kx' (n - 0) 0 s=r:=⟨b,kx,rfl,rfl,h⟩
theorem Ra9 {b:(σ→Option β)→σ→Option β} {n:Nat} {s:σ} {r:Option β} (h:loop b n s=r):∃ b',b=b'∧loop b' n s=r:=⟨b,rfl,h⟩
end model

section code
variable {P:Program} {N:Cfg} {Q:Post} {l:Fr} {L:Loc}
theorem Hs {body:Code} {σ:Type} (I:Nat→σ→Prop) (F:Nat→σ→Fr) (M:Nat→σ→Loc) (μ:Nat→Nat) (i0:Nat) (s0:σ) (h0:I i0 s0) (hf:Fits N.base l L (F i0 s0) (M i0 s0))
  (hr:∀ i s,I i s→∀ K:Fr→Loc→Prop,(∀ l L i' s',I i' s'→μ i' < μ i→Fits N.base l L (F i' s') (M i' s')→K l L)→JC P N body (Q.seq K) (F i s) (M i s)):JC P N (.loop body) Q l L:=
 Rb8 (fun x:Nat×σ=>I x.1 x.2) (fun x=>F x.1 x.2) (fun x=>M x.1 x.2) (fun x=>μ x.1) (i0,s0) h0 hf
  (fun x hi K hK=>hr x.1 x.2 hi K (fun l L i' s' h1 h2 h3=>hK l L (i',s') h1 h2 h3))
end code

def Rd (w:World) (S:Nat→Nat→Prop) (us:List AV) (cs:List Value):Prop:=
 cs.length=us.length∧∀ (j:Nat) u v,us[j]? = some u→cs[j]? = some v→D w S u v

def isAgg (P:Program) (t:TypeId):Bool:=match P.underlying t with
 | some (.struct _)=>true
 | _=>false

def H4c (P:Program) (t:TypeId) (us:List AV):AV:=bif isAgg P t then .agg us else us.headD .junk

def Rde (P:Program) (ok:TypeId→Bool):List Field→Nat→Nat→Bool
 | [],off,tot=>Nat.beq off tot
 | f::fs,off,tot=>Nat.beq f.offset off&&ok f.type&&Rde P ok fs (off+P.cellsOf f.type) tot

def Q66 (P:Program):Nat→TypeId→Bool
 | 0,_=>false
 | n+1,t=>match P.underlying t with
  | some .bool=>true
  | some .string=>true
  | some (.int _)=>true
  | some (.slice e)=>Nat.blt 0 (P.cellsOf e)&&Q66 P n e
  | some (.struct fs)=>Rde P (Q66 P n) fs.toList 0 (P.cellsOf t)
  | _=>false

def Jd5 (P:Program) (F:TypeId→List AV→Prop):List Field→List AV→Prop
 | [],us=>us=[]
 | f::fs,us=>∃ a b,us=a++b∧a.length=P.cellsOf f.type∧F f.type a∧Jd5 P F fs b

def Rv (P:Program) (M:Nat):Nat→TypeId→List AV→Prop
 | 0,_,_=>False
 | n+1,t,us=>match P.underlying t with
  | some .bool=>∃ b,us=[.sc (.bool b)]
  | some .string=>∃ s:ByteArray,us=[.sc (.string s)]∧s.size≤maxLen
  | some (.int k)=>∃ z,us=[.sc (.int k z)]∧(Lit.int k z).wf=true
  | some (.slice e)=>∃ xss:List (List AV),us=[.list (P.cellsOf e) (xss.map (H4c P e))]∧xss.length≤M∧∀ xs∈xss,Rv P M n e xs
  | some (.struct fs)=>Jd5 P (Rv P M n) fs.toList us
  | _=>False

theorem Rd.append {w:World} {S:Nat→Nat→Prop} {us us':List AV} {cs cs':List Value} (h:Rd w S us cs) (h':Rd w S us' cs'):Rd w S (us++us') (cs++cs'):=by
 refine⟨by simp [h.1,h'.1],fun j u v hu hv=>?_⟩
 by_cases hj:j < us.length
 ·rw [M7 hj] at hu
  rw [M7 (by rw [h.1]; exact hj)] at hv
  exact h.2 j u v hu hv
 ·rw [M6 (by omega)] at hu
  rw [M6 (by rw [h.1]; omega),h.1] at hv
  exact h'.2 _ u v hu hv

theorem Ra0 {P:Program} {ok:TypeId→Bool}:∀ {fs:List Field} {off tot:Nat},Rde P ok fs off tot=true→off≤tot
 | [],_,_,h=>Nat.le_of_eq (Ks h)
 | _::fs,_,_,h=>by
  simp only [Rde,Me] at h
  have:=Ra0 h.2
  omega

theorem Rb1 {P:Program} {w:World} {S:Nat→Nat→Prop} {ok:TypeId→Bool} {F:TypeId→List AV→Prop} {cs:List Value} :
  ∀ {fs:List Field} {off tot:Nat},Rde P ok fs off tot=true→cs.length=tot →
   (∀ f∈fs,ok f.type=true→∃ us,F f.type us∧Rd w S us ((cs.drop f.offset).take (P.cellsOf f.type)))→∃ us,Jd5 P F fs us∧Rd w S us (cs.drop off)
 | [],off,tot,h,hl,_=>by
  have:=Ks h
  refine⟨[],rfl,?_,fun j u v hu=>by cases hu⟩
  rw [List.length_drop,hl,this]; simp
 | f::fs,off,tot,h,hl,hf=>by
  simp only [Rde,Me] at h
  obtain⟨⟨h1,h2⟩,h3⟩:=h
  have h1:=Ks h1
  obtain⟨us1,f1,r1⟩:=hf f (List.mem_cons_self ..) h2
  obtain⟨us2,f2,r2⟩:=Rb1 h3 hl (fun g hg=>hf g (List.mem_cons_of_mem _ hg))
  rw [h1] at r1
  have h0:=Ra0 h3
  refine⟨us1++us2,⟨us1,us2,rfl,?_,f1,f2⟩,?_⟩
  ·rw [← r1.1,List.length_take,List.length_drop]; omega
  ·have e:cs.drop off=(cs.drop off).take (P.cellsOf f.type)++cs.drop (off+P.cellsOf f.type):=by
    rw [← List.drop_drop,List.take_append_drop]
   rw [e]
   exact r1.append r2

theorem Q31 {P:Program} {M n:Nat} {t:TypeId} {us:List AV} (h:Rv P M n t us):(H4c P t us).cells=us:=by
 cases n with
 | zero=>exact h.elim
 | succ n=>
  unfold Rv at h
  unfold H4c isAgg
  revert h
  split
  ·rintro⟨b,rfl⟩; simp_all [AV.cells]
  ·rintro⟨b,rfl,_⟩; simp_all [AV.cells]
  ·rintro⟨b,rfl,_⟩; simp_all [AV.cells]
  ·rintro⟨xss,rfl,_⟩; simp_all [AV.cells]
  ·intro _; simp_all [AV.cells]
  ·intro h; exact h.elim

theorem cell_spot {w:World} {a:Addr} {v:Value} (h:w.cell? a=some v):a.spot=none:=by
 cases hs:a.spot with
 | none=>rfl
 | some s=>
  unfold World.cell? at h
  split at h
  ·rw [hs] at h; simp at h
  ·cases h

theorem Y64 {w:World} {a:Addr} {v:Value} (h:w.cell? a=some v):a.block < w.heap.size:=by
 unfold World.cell? at h
 split at h
 ·rename_i hh
  exact(Kp hh).1
 ·cases h

theorem R07 {α β:Type} {f:α→Option β}:∀ {l:List α} {r:List β},l.mapM f=some r→r.length=l.length∧∀ (i:Nat) x,l[i]? = some x→f x=r[i]?
 | [],r,h=>by
  simp at h; subst h
  exact⟨rfl,fun i x hx=>by cases hx⟩
 | x::l,r,h=>by
  rw [List.mapM_cons] at h
  cases hx:f x with
  | none=>rw [hx] at h; cases h
  | some y=>
   rw [hx] at h
   cases hl:l.mapM f with
   | none=>rw [hl] at h; cases h
   | some r'=>
    rw [hl] at h
    cases h
    obtain⟨h1,h2⟩:=R07 hl
    refine⟨by simp [h1],fun i z hz=>?_⟩
    cases i with
    | zero=>simp at hz; subst hz; simpa using hx
    | succ i=>simpa using h2 i z (by simpa using hz)

theorem J7e {w:World} {base:Nat} {a:Addr} {n:Nat} {cs:List Value} (h:w.cells? base a n=some cs):cs.length=n∧∀ j,j < n→w.cell? (a.add j)=cs[j]? := by
 unfold World.cells? at h
 split at h
 ·obtain⟨h1,h2⟩:=R07 h
  exact⟨by simpa using h1,fun j hj=>h2 j j (by simp [hj])⟩
 ·cases h

theorem Qc2 {b off:Nat} (i:Nat):Addr.add ⟨b,off,none⟩ i=⟨b,off+i,none⟩:=by
 unfold Addr.add
 split <;> simp_all

section
variable {H:Type} {enc:TypeId×Value→H} {P:Program} {w:World} {base:Nat} {spare:Nat→Bool} {held:Bool} {S:Nat→Nat→Prop}

theorem R7e {M n:Nat} {e:TypeId} {a:Addr} {len cap:Nat} (hS:∀ b i,b < w.heap.size→S b i) (hk:0 < P.cellsOf e) (hl:len≤cap) (hm:cap≤maxLen)
  (a0:∀ i,i < len→∃ us cs,Rv P M n e us∧Rd w S us cs∧w.cells? base (a.add (i*P.cellsOf e)) (P.cellsOf e)=some cs) :
  ∃ xss:List (List AV),xss.length=len∧(∀ xs∈xss,Rv P M n e xs)∧D w S (.list (P.cellsOf e) (xss.map (H4c P e))) (.slice (some a) len cap):=by
 have h9:∀ i,∃ us,i < len→∃ cs,Rv P M n e us∧Rd w S us cs∧w.cells? base (a.add (i*P.cellsOf e)) (P.cellsOf e)=some cs:=fun i=>by
  by_cases hi:i < len
  ·obtain⟨us,cs,h⟩:=a0 i hi
   exact⟨us,fun _=>⟨cs,h⟩⟩
  ·exact⟨[],fun h=>(hi h).elim⟩
 obtain⟨f,hf⟩:=Classical.skolem.1 h9
 refine⟨(List.range len).map f,by simp,?_,?_⟩
 ·intro xs hx
  obtain⟨i,hi,rfl⟩:=Mi.1 hx
  obtain⟨cs,h,_⟩:=hf i (List.mem_range.1 hi)
  exact h
 cases len with
 | zero=>exact .nil hm
 | succ len=>
  obtain⟨cs0,_,_,a1⟩:=hf 0 (Nat.succ_pos _)
  obtain⟨l0,g0⟩:=J7e a1
  have g00:=g0 0 hk
  have hx:∃ v,cs0[0]? = some v:=⟨cs0[0],by simp⟩
  obtain⟨v0,a2⟩:=hx
  rw [a2] at g00
  have a3:a.spot=none:=by
   have:=cell_spot g00
   unfold Addr.add at this
   simpa using this
  obtain⟨b,off,sp⟩:=a
  subst a3
  have hb:b < w.heap.size:=by
   have:=Y64 g00
   simpa [Qc2] using this
  have h5:∀ x∈((List.range (len+1)).map f).map (H4c P e),x.cells.length=P.cellsOf e:=by
   intro x hx
   obtain⟨us,hu,rfl⟩:=Mi.1 hx
   obtain⟨i,hi,rfl⟩:=Mi.1 hu
   obtain⟨cs,h1,h2,h3⟩:=hf i (List.mem_range.1 hi)
   rw [Q31 h1,← h2.1,(J7e h3).1]
  have h0:(((List.range (len+1)).map f).map (H4c P e)).length=len+1:=by simp
  have h4:∀ J,J < (flat (((List.range (len+1)).map f).map (H4c P e))).length→∃ u v,(flat (((List.range (len+1)).map f).map (H4c P e)))[J]? = some u∧w.cell? ⟨b,off+J,none⟩=some v∧D w S u v:=by
   intro J hJ
   rw [J3 h5,h0] at hJ
   have hi:J / P.cellsOf e < len+1:=(Nat.div_lt_iff_lt_mul hk).2 hJ
   have hj:J % P.cellsOf e < P.cellsOf e:=Nat.mod_lt _ hk
   have h6:J / P.cellsOf e*P.cellsOf e+J % P.cellsOf e=J:=by
    rw [Nat.mul_comm]; exact Nat.div_add_mod J _
   obtain⟨cs,h1,h2,h3⟩:=hf _ hi
   obtain⟨l1,g1⟩:=J7e h3
   have hx:(((List.range (len+1)).map f).map (H4c P e))[J / P.cellsOf e]? = some (H4c P e (f (J / P.cellsOf e))):=by
    rw [M9,M9,List.getElem?_range hi]; rfl
   have h7:=Qba h5 hx _ hj
   rw [h6,Q31 h1] at h7
   have a4:(f (J / P.cellsOf e)).length=P.cellsOf e:=by rw [← h2.1,l1]
   have hu:(f (J / P.cellsOf e))[J % P.cellsOf e]? = some ((f (J / P.cellsOf e))[J % P.cellsOf e]'(by rw [a4]; exact hj)):=by simp
   have hv:cs[J % P.cellsOf e]? = some (cs[J % P.cellsOf e]'(by rw [l1]; exact hj)):=by simp
   refine⟨_,_,h7.trans hu,?_,h2.2 _ _ _ hu hv⟩
   have:=g1 _ hj
   rw [Qc2,Qc2,Nat.add_assoc,h6,hv] at this
   exact this
  have hD:=D.list (w:=w) (S:=S) (k:=P.cellsOf e) (b:=b) (off:=off) (cap:=cap) (xs:=((List.range (len+1)).map f).map (H4c P e)) (fun J=>(w.cell? ⟨b,off+J,none⟩).getD undef) (by rw [h0]; exact hl) hm h5
   (fun J hJ=>by
    obtain⟨u,v,_,hv,_⟩:=h4 J hJ
    exact⟨hS _ _ hb,by rw [hv]; rfl⟩)
   (fun J u hu=>by
    have hJ:J < (flat (((List.range (len+1)).map f).map (H4c P e))).length:=(M0 hu).1
    obtain⟨u',v,h8,hv,hd⟩:=h4 J hJ
    rw [hu] at h8
    cases h8
    rw [hv]; exact hd)
  rw [h0] at hD
  exact hD

structure Hfe (H:Type) (M:Nat) (small:DataW H→Prop):Prop where
 slice:∀ elems spare,small (.slice elems spare)→elems.length≤maxLen→elems.length≤M∧∀ e∈elems,small e
 agg:∀ parts,small (.agg parts)→∀ p∈parts,small p
theorem Hfe.all {H:Type}:Hfe H maxLen (fun _=>True):=⟨fun _ _ _ h=>⟨h,fun _ _=>trivial⟩,fun _ _ _ _=>trivial⟩
theorem Hae (hS:∀ b i,b < w.heap.size→S b i) {M:Nat} {small:DataW H→Prop} (h5:Hfe H M small):∀ (n:Nat) (t:TypeId) (fuel:Nat) (cs:List Value) (x:DataW H×List MemPlace),Q66 P n t=true →
  DataW.trod enc P w base spare held fuel t cs=some x→small x.1→∃ us,Rv P M n t us∧Rd w S us cs
 | 0,_,_,_,_,h,_,_=>by cases h
 | n+1,t,fuel,cs,x,h,hx,h6=>by
  unfold Q66 at h
  unfold Rv
  have one:∀ {u:AV} {v:Value},D w S u v→Rd w S [u] [v]:=fun {u v} hd=>⟨rfl,fun j u' v' hu hv=>by
   cases j with
   | zero=>simp at hu hv; subst hu; subst hv; exact hd
   | succ j=>cases hu⟩
  revert h
  split
  ·rename_i ht
   intro _
   obtain⟨b,rfl,_⟩:=DataW.trod_bool ht hx
   exact⟨_,⟨b,rfl⟩,one .sc⟩
  ·rename_i ht
   intro _
   obtain⟨s,rfl,_,hs⟩:=DataW.trod_string ht hx
   exact⟨_,⟨s,rfl,hs⟩,one .sc⟩
  ·rename_i k ht
   intro _
   obtain⟨z,rfl,_,hz⟩:=DataW.trod_int ht hx
   exact⟨_,⟨z,rfl,hz⟩,one .sc⟩
  ·rename_i e ht
   intro h
   rw [Me] at h
   have hk:0 < P.cellsOf e:=Eq.mp Nat.blt_eq h.1
   rcases DataW.trod_slice ht hx with ⟨rfl,_⟩ | ⟨a,len,cap,elems,rest,m,_,rfl,h7,hb,hl,hm,h0,a0,_,_⟩
   ·exact⟨_,⟨[],rfl,Nat.zero_le _,fun xs hx=>by cases hx⟩,one (.nil (Nat.zero_le _))⟩
   ·rw [h7] at h6
    obtain⟨hM,h4⟩:=h5.slice _ _ h6 (by rw [Mg,h0]; exact Nat.le_trans hl hm)
    rw [Mg,h0] at hM
    obtain⟨xss,h1,h2,h3⟩:=R7e (P:=P) (base:=base) (n:=n) (e:=e) (a:=a) (len:=len) (cap:=cap) hS hk hl hm (fun i hi=>by
     have he:=a0 i hi
     rw [M1 (by rw [h0]; exact hi)] at he
     obtain⟨cs',hc,a1⟩:=Option.bind_eq_some_iff.1 he
     obtain⟨us,hf,hr⟩:=Hae hS h5 n e m cs' _ h.2 a1 (h4 _ (Mi.2 ⟨_,List.getElem_mem _,rfl⟩))
     exact⟨us,cs',hf,hr,hc⟩)
    exact⟨_,⟨xss,rfl,by rw [h1]; exact hM,h2⟩,one h3⟩
  ·rename_i fs ht
   intro h
   obtain⟨xs,m,_,h7,hl,h0,hf⟩:=DataW.trod_struct ht hx
   rw [h7] at h6
   have h4:=h5.agg _ h6
   obtain⟨us,h1,h2⟩:=Rb1 (w:=w) (S:=S) (F:=Rv P M n) h hl (fun f a2 a3=>by
    obtain⟨i,hi⟩:=List.mem_iff_getElem?.1 a2
    have h8:fs[i]? = some f:=by simpa using hi
    have:=hf i f h8
    have h9:i < xs.length:=by rw [h0]; exact(Kp h8).1
    rw [M1 h9] at this
    exact Hae hS h5 n f.type m _ _ a3 this (h4 _ (Mi.2 ⟨_,List.getElem_mem h9,rfl⟩)))
   exact⟨us,h1,by simpa using h2⟩
  ·intro h; cases h

theorem He1 (hS:∀ b i,b < w.heap.size→S b i) {M:Nat} {small:DataW H→Prop} (h3:Hfe H M small) {n:Nat} {t:TypeId} {r:Reach} {b0:Nat} {v:Value} {d:DataW H} {ps:List MemPlace} (h4:Q66 P n t=true)
  (h0:Value.okWide P w r b0 t v) (hd:DataW.Trod enc P w base spare held t v d ps) (h5:small d):∃ us,Rv P M n t us∧D w S (H4c P t us) v:=by
 obtain⟨fuel,hf⟩:=hd
 obtain⟨us,h1,h2⟩:=Hae hS h3 n t fuel _ _ h4 hf h5
 refine⟨us,h1,?_⟩
 have single:∀ {u:AV},us=[u]→isAgg P t=false→v.cells.toList=[v]→D w S (H4c P t us) v:=fun {u} hu ha hv=>by
  subst hu
  unfold H4c
  rw [ha]
  rw [hv] at h2
  exact h2.2 0 _ _ rfl rfl
 cases n with
 | zero=>exact h1.elim
 | succ n=>
  unfold Rv at h1
  revert h1
  split
  ·rename_i ht
   rintro⟨b,e⟩
   obtain⟨b',rfl⟩:=Go.WideShapes.okWide_bool ht h0
   exact single e (by simp [isAgg,ht]) (by simp [Value.cells])
  ·rename_i ht
   rintro⟨b,e,_⟩
   obtain⟨b',rfl⟩:=Go.WideShapes.okWide_string ht h0
   exact single e (by simp [isAgg,ht]) (by simp [Value.cells])
  ·rename_i ht
   rintro⟨b,e,_⟩
   obtain⟨b',rfl⟩:=Go.WideShapes.okWide_int ht h0
   exact single e (by simp [isAgg,ht]) (by simp [Value.cells])
  ·rename_i ht
   rintro⟨b,e,_⟩
   obtain⟨a,l,c,rfl⟩:=Go.WideShapes.okWide_slice ht h0
   exact single e (by simp [isAgg,ht]) (by simp [Value.cells])
  ·rename_i fs ht
   intro _
   obtain⟨cs,rfl,_⟩:=Go.WideShapes.okWide_struct ht h0
   unfold H4c
   rw [show isAgg P t=true by simp [isAgg,ht]]
   refine .agg ?_ (fun j u v hu hv=>h2.2 j u v hu ?_)
   ·simpa [Value.cells] using h2.1
   ·simpa [Value.cells] using hv
  ·intro h; exact h.elim

end

theorem Step.below {w w':World} {β β':H5} {L':Loc} (h:Step w β [] w' β' L'):Below w.heap.size w w':=
 ⟨h.os,h.tape,h.output.1,h.size,fun k hk=>(h.far k hk (fun id hi=>by simp [lk] at hi)).1⟩

theorem Y53 {P:Program} {f:FuncId} {args:List AV} {R:AV→Prop} (hc:Pure P f args R) {w:World} {vs:Array Value} (hl:vs.size=args.length)
  (hv:∀ (j:Nat) u v,args[j]? = some u→vs[j]? = some v→D w (Jj w ⟨fun _=>none,fun _ _=>False⟩ []) u v) :
  Calls P f vs w fun e w'=>∃ v r β' ,e=.returned v∧Below w.heap.size w w'∧V w' β' [] r v∧R r:=by
 refine(hc w ⟨fun _=>none,fun _ _=>False⟩ vs ⟨fun b i h=>h.elim,fun id b h=>by simp [lk] at h,fun id b j h=>by simp [lk] at h,fun id id' b h=>by simp [lk] at h,fun id o h=>by simp [lk] at h⟩ hl
  (fun j u v hu h0=>.data (hv j u v hu h0))).mono fun e w' h=>?_
 obtain⟨v,r,β',L',he,h3,h1,h2,rfl,hR⟩:=h
 exact⟨v,r,β',he,h1.below,h2,hR⟩

theorem Hd3 {w:World}:∀ b i,b < w.heap.size→Jj w ⟨fun _=>none,fun _ _=>False⟩ [] b i:=fun _ _ h=>⟨h,fun h=>h,fun id o h=>by simp [lk] at h⟩

section
variable {P:Program} {M n:Nat} {t e:TypeId} {us:List AV}
theorem R5a (h:Rv P M (n+1) t us) (ht:P.underlying t=some .bool):∃ b:Bool,True∧us=[BL b]:=by
 unfold Rv at h; rw [ht] at h
 obtain⟨b,rfl⟩:=h
 exact⟨b,trivial,rfl⟩
theorem Qac (h:Rv P M (n+1) t us) (ht:P.underlying t=some .string):∃ s:ByteArray,s.size≤maxLen∧us=[ST s]:=by
 unfold Rv at h; rw [ht] at h
 obtain⟨s,rfl,hs⟩:=h
 exact⟨s,hs,rfl⟩
theorem Q75 {k:IntKind} (h:Rv P M (n+1) t us) (ht:P.underlying t=some (.int k)):∃ z:Int,(Lit.int k z).wf=true∧us=[.sc (.int k z)]:=by
 unfold Rv at h; rw [ht] at h
 obtain⟨z,rfl,hz⟩:=h
 exact⟨z,hz,rfl⟩
theorem G5c {α:Type} {av:α→AV} {ok:α→Prop} {k:Nat} (h:Rv P M (n+1) t us) (ht:P.underlying t=some (.slice e)) (hk:P.cellsOf e=k)
  (h0:∀ us,Rv P M n e us→∃ x,ok x∧H4c P e us=av x):∃ xs:List α,((∀ x∈xs,ok x)∧xs.length≤M)∧us=[LS k av xs]:=by
 unfold Rv at h; rw [ht] at h
 obtain⟨xss,rfl,hl,hx⟩:=h
 have key:∀ (l:List (List AV)),(∀ xs∈l,Rv P M n e xs)→∃ xs:List α,(∀ x∈xs,ok x)∧xs.length=l.length∧l.map (H4c P e)=xs.map av:=by
  intro l
  induction l with
  | nil=>exact fun _=>⟨[],⟨fun x hx=>(M4 hx).elim,rfl,rfl⟩⟩
  | cons a l ih=>
   intro hl
   obtain⟨x,h1,h2⟩:=h0 a (hl a (List.mem_cons_self ..))
   obtain⟨xs,h3,h4,h5⟩:=ih (fun y hy=>hl y (List.mem_cons_of_mem _ hy))
   refine⟨x::xs,fun y hy=>?_,by simp [h4],by simp [h2,h5]⟩
   rcases Mk.1 hy with rfl | hy
   ·exact h1
   ·exact h3 y hy
 obtain⟨xs,h1,h2,h3⟩:=key xss hx
 exact⟨xs,⟨h1,by rw [h2]; exact hl⟩,by rw [hk,h3]⟩
theorem Yp {fs:Array Field} (h:Rv P M (n+1) t us) (ht:P.underlying t=some (.struct fs)):Jd5 P (Rv P M n) fs.toList us:=by
 unfold Rv at h; rw [ht] at h
 exact h
theorem Haf {fs:Array Field} (ht:P.underlying t=some (.struct fs)):H4c P t us=.agg us:=by
 unfold H4c isAgg; rw [ht]; rfl
theorem Q36 {u:AV} (ht:isAgg P t=false):H4c P t [u]=u:=by
 unfold H4c; rw [ht]; rfl
end

theorem u8r {z:Int} (h:(Lit.int .u8 z).wf=true):0≤z∧z≤255:=by
 simp only [Lit.wf,Me,Mf] at h
 exact h

def Yde (P:Program) (l:Fr) (L:Loc):ResultVar→AV→Prop
 | .tmp t,u=>look l t=u
 | .cell t T,u=>∃ i tt cs k,look l t=.ptr i 0∧lk L i=some (.box tt cs)∧cs.length=k∧((H10 P T k=true∧u=.agg cs)∨(Rm P T=true∧cs[0]? = some u))
inductive Rba (ok:Nat→Bool):AV→AV→Prop
 | conv {u u':AV} (h:Conv ok u u'):Rba ok u u'
 | agg {cs cs':List AV} (h:Hc3 ok cs cs'):Rba ok (.agg cs) (.agg cs')
def R85 (P:Program) (l:Fr) (L:Loc) (ok:Nat→Bool):List ResultVar→List AV→Prop
 | [],[]=>True
 | rv::r,u'::s=>(∃ u,Yde P l L rv u∧Rba ok u u')∧R85 P l L ok r s
 | _,_=>False
def Y11:List AV→AV
 | [u]=>u
 | us=>.tup us
def Y70 (P:Program) (B:List Nat) (rvs:List ResultVar) (R:AV→Loc→Prop):Fr→Loc→Prop:=
 fun l L=>∃ us L',Ge4 (fun i=>(lk L' i).isSome) L L'∧allIn L' B=true∧R85 P l L (fun i=>(lk L' i).isSome) rvs us∧R (Y11 us) L'

theorem V.convA {w:World} {β:H5} {L L':Loc} (hd:J32 L L') {u u':AV} {v:Value} (h:V w β L u v) (hc:Rba (fun i=>(lk L' i).isSome) u u'):V w β L' u' v:=by
 cases hc with
 | conv hc=>exact h.conv hd hc
 | @agg cs cs' hc=>
  obtain⟨vs,rfl,hl,hv⟩:=h.inv_agg
  exact .agg (hl.trans hc.length) (fun j u' v hu h0=>by
   have hj:j < vs.size:=(Kp h0).1
   obtain⟨u,h1⟩:∃ u,cs[j]? = some u:=⟨_,M1 (hl ▸ hj)⟩
   exact(hv j u v h1 h0).conv hd (hc.get j u u' h1 hu))

def J6f (a:Act):ResultVar→Sem Value
 | .tmp t=>pure (a.tmps.getD t undef)
 | .cell q t=>do loadVar t (← asAddr (a.tmps.getD q undef))
theorem R99 {P:Program} {w:World} {β:H5} {L L':Loc} {l:Fr} {a:Act} (h6:Sat w β L) (hf:Q6 a w β L l) (hd:J32 L L') :
  ∀ {rvs:List ResultVar} {us:List AV},R85 P l L (fun i=>(lk L' i).isSome) rvs us →
  ∃ vs:List Value,(rvs.mapM (J6f a)).run P w=.ok vs w∧vs.length=us.length ∧
   ∀ (j:Nat) u v,us[j]? = some u→vs[j]? = some v→V w β L' u v
 | [],[],_=>⟨[],by simp,rfl,fun j u v hu=>by simp at hu⟩
 | rv::r,u'::s,⟨⟨u,hu,hc⟩,h⟩=>by
  obtain⟨vs,h1,h2,h3⟩:=R99 (P:=P) h6 hf hd (rvs:=r) (us:=s) h
  have key:∃ v,(J6f a rv).run P w=.ok v w∧V w β L u v:=by
   cases rv with
   | tmp t=>
    refine⟨_,rfl,?_⟩
    have:=hf.tmp t
    rw [show look l t=u from hu] at this
    exact this
   | cell q T=>
    obtain⟨i,tt,cs,k,e1,e2,e3,e4⟩:=hu
    have hv:=hf.tmp q
    rw [e1] at hv
    obtain⟨b,hb,he⟩:=hv.inv_ptr
    obtain⟨xs,x1,x2,x3⟩:=He0 h6 e2 hb
    rcases e4 with ⟨e4,rfl⟩ | ⟨e4,e5⟩
    ·refine⟨.agg xs,?_,.agg x2 x3⟩
     have:=Ja8 (w:=w) e4 x1 (x2.trans e3)
     simp only [J6f,he,asAddr,Sem.run_bind,Sem.run_pure,Result.andThen_ok]
     exact this
    ·have h7:0 < xs.size:=by
      have:=(M0 e5).1
      omega
     refine⟨xs[0],?_,x3 0 u _ e5 (by simp [h7])⟩
     have h5:=Ga7 (P:=P) (T:=T) (b:=b) (o':=0) (v:=xs[0]) e4 (w:=w) (by simp [World.cell?,x1,h7])
     simp only [J6f,he,asAddr,Sem.run_bind,Sem.run_pure,Result.andThen_ok]
     simpa [Instr.loadAt,Instr.sureAddr,asAddr] using h5
  obtain⟨v,k1,k2⟩:=key
  refine⟨v::vs,?_,by simp [h2],fun j u0 v0 h0 h4=>?_⟩
  ·rw [List.mapM_cons,Sem.run_bind,k1,Result.andThen_ok,Sem.run_bind,h1,Result.andThen_ok]
   rfl
  ·cases j with
   | zero=>simp at h0 h4; subst h0 h4; exact k2.convA hd hc
   | succ j=>simp at h0 h4; exact h3 j u0 v0 h0 h4
 | [],_::_,h=>h.elim
 | _::_,[],h=>h.elim

theorem Ye {P:Program} {f:FuncId} {fn:Func} {c:Code} {args:List AV} {L0:Loc} {R:AV→Loc→Prop} (base:List Nat) (rvs:List ResultVar) (hf:P.funcs[f]? = some fn) (hb:fn.body=some c) (h6:fn.results=rvs.toArray)
  (h4:∀ id,(lk L0 id).isSome=true→id∈base) (h:JC P ⟨fn.ntmps,base,none⟩ c (.fin (Y70 P base rvs R)) (Gec 0 args) L0):Jx P f args L0 R:=
 Hb0 hf hb h4 (fun w0 β0 a w β l L hs hq=>by
  obtain⟨us,L',q1,q2,q3,q4⟩:=hq
  have h0:Fits base l L [] L':=⟨trivial,q1,q2⟩
  have h5:=hs.fits h0
  obtain⟨vs,h1,h2,h3⟩:=R99 hs.sat hs.frame h0.drop q3
  have h7:(results fn a.tmps).run P w=.ok (if h:vs.toArray.size=1 then vs.toArray[0] else .tuple vs.toArray) w:=by
   have e:results fn a.tmps=(do let vs ← fn.results.mapM (J6f a); pure (if h:vs.size=1 then vs[0] else .tuple vs)):=by
    unfold results
    refine congrArg (fun g=>bind (Array.mapM g fn.results) _) ?_
    funext rv
    cases rv <;> rfl
   rw [e,h6,List.mapM_toArray,Sem.run_bind]
   rw [show (List.toArray <$> List.mapM (J6f a) rvs:Sem (Array Value)).run P w=.ok vs.toArray w from by
    rw [map_eq_pure_bind,Sem.run_bind,h1,Result.andThen_ok]; rfl]
   rfl
  refine⟨_,Y11 us,L',h7,h5.sat,h5.step,?_,q4⟩
  match us,vs,h2,h3 with
  | [u],[v],_,h3=>simpa [Y11] using h3 0 u v rfl rfl
  | [],[],_,h3=>exact .tup rfl (fun j u v hu=>by simp at hu)
  | u::u2::us,v::v2::vs,h2,h3=>
   have:¬ (v::v2::vs).toArray.size=1:=by simp
   rw [dif_neg this]
   exact .tup (by simpa using h2) (fun j u v hu hv=>h3 j u v hu (by simpa using hv))) h

theorem H3 {P:Program} {f:FuncId} {fn:Func} {c:Code} {args:List AV} {R:AV→Prop} (rvs:List ResultVar) (hf:P.funcs[f]? = some fn) (hb:fn.body=some c) (h0:fn.results=rvs.toArray)
  (h:JC P ⟨fn.ntmps,[],none⟩ c (.fin (Y70 P [] rvs (fun r L'=>L'=[]∧R r))) (Gec 0 args) []):Pure P f args R:=Ye [] rvs hf hb h0 Y17 h
theorem fin1 {P:Program} {t:Tmp} {α:Type} {l:Fr} {L:Loc} (f:α→AV) {a r:α} (h:some a=some r) (hc:Conv (fun i=>(lk [] i).isSome) (look l t) (f a):=by exact .same rfl):Y70 P [] [.tmp t] (fun u L'=>L'=[]∧u=f r) l L:=
 ⟨[f a],[],trivial,rfl,⟨⟨_,rfl,.conv hc⟩,trivial⟩,rfl,congrArg f (M2 h)⟩
theorem fin1l {P:Program} {t:Tmp} {α:Type} {l:Fr} {L:Loc} (f:α→AV) {a r:α} (h:some a=some r) (hc:Conv (fun i=>(lk [] i).isSome) (look l t) (f a):=by exact .list rfl):Y70 P [] [.tmp t] (fun u L'=>L'=[]∧u=f r) l L:=fin1 f h hc
end Go.Proofs.YtmfhaflabpnaoaaGreat
