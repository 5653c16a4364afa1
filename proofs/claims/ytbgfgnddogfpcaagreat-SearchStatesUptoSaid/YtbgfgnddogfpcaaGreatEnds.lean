/-
 Combinators of the models that the extractor prints,and what From the reading of an argument aQ data to the walks' abstra The ends of AA:
-/
import Derived.Test.YtbgfgnddogfpcaaGreatMore
import Derived.ChangeArms
import Derived.ChangeOld
import Derived.Below
import Derived.JoinedOf
import Derived.JoinedAt
namespace Go.Proofs.YtbgfgnddogfpcaaGreat
open Go.RowKit

section model
variable {W U Z:Type}

def loop (b:(Z->Option U)->Z->Option U):Nat->Z->Option U
 | 0,_=>none
 | n+1,s=>b (loop b n) s
def each (b:W->Nat->Z->(Z->Option U)->Option U) (kx:Z->Option U):List W->Nat->Z->Option U
 | [],_,s=>kx s
 | x::xs,i,s=>b x i s (each b kx xs (i+1))
def upto (b:Nat->Z->(Z->Option U)->Option U) (kx:Z->Option U):Nat->Nat->Z->Option U
 | 0,_,s=>kx s
 | n+1,i,s=>b i s (upto b kx n (i+1))
def jp (m:(W->Option U)->Option U) (k:W->Option U):Option U:=m k
def bnd (m:Option W) (k:W->Option U):Option U:=match m with
 | some x=>k x
 | none=>none
def Gd8 (z:Int):Bool:=decide (-9223372036854775808<=z)&&decide (z<=9223372036854775807)
def chk (z:Int) (k:Int->Option U):Option U:=bif Gd8 z then k z else none
def wrp (z:Int) (k:Int->Option U):Option U:=k (IntKind.i64.wrap z)
variable {r:U}
theorem Gea {z:Int} {k:Int->Option U} (h:wrp z k=some r):∃ v,IntKind.i64.wrap z=v/\k v=some r:=⟨_,rfl,h⟩
def Jw (l:List W) (i:Int) (k:W->Option U):Option U:=bif decide (0<=i) then bnd l[i.toNat]? k else none
def need (b:Bool) (k:Option U):Option U:=bif b then k else none

variable {n:Nat} {s:Z}
theorem Jb9 {b:(Z->Option U)->Z->Option U} (h:loop b n s=some r):∃ m nx,n=m+1/\loop b m=nx/\b nx s=some r:=by
 cases n with
 | zero=>cases h
 | succ m=>exact⟨m,_,rfl,rfl,h⟩
variable {i k:Nat} {kx:Z->Option U}
theorem Ho {b:W->Nat->Z->(Z->Option U)->Option U} {xs:List W} (h:each b kx (xs.drop k) i s=some r) (hk:¬ k < xs.length):kx s=some r:=by
 rw [List.drop_eq_nil_of_le (by omega)] at h; exact h
theorem Hn {b:W->Nat->Z->(Z->Option U)->Option U} {xs:List W} (h:each b kx (xs.drop k) i s=some r) (hk:k < xs.length) :
  ∃ x nx,xs[k]? = some x/\each b kx (xs.drop (k+1)) (i+1)=nx/\b x i s nx=some r:=by
 rw [List.drop_eq_getElem_cons hk] at h;exact⟨xs[k],_,by simp [hk],rfl,h⟩
theorem bG {b:Nat->Z->(Z->Option U)->Option U} (h:upto b kx (n - k) i s=some r) (hk:¬ k < n):kx s=some r:=by
 rw [show n - k=0 by omega] at h; exact h
theorem bF {b:Nat->Z->(Z->Option U)->Option U} (h:upto b kx (n - k) i s=some r) (hk:k < n) :
  ∃ nx,upto b kx (n - (k+1)) (i+1)=nx/\b i s nx=some r:=by
 rw [show n - k=(n - (k+1))+1 by omega] at h;exact⟨_,rfl,h⟩
theorem eJ {m:(W->Option U)->Option U} {k:W->Option U} (h:jp m k=some r):∃ kk,k=kk/\m kk=some r:=⟨k,rfl,h⟩
theorem Gd {m:Option W} {k:W->Option U} (h:bnd m k=some r):∃ x,m=some x/\k x=some r:=by
 cases m with
 | none=>cases h
 | some x=>exact⟨x,rfl,h⟩
theorem R7 {z:Int} {k:Int->Option U} (h:chk z k=some r):∃ v,IntKind.i64.wrap z=v/\k v=some r:=by
 unfold chk at h;cases hz:Gd8 z with
 | true=>
  rw [hz] at h;simp only [Gd8,Pp,Pq] at hz;exact⟨z,dM hz.1 hz.2,h⟩
 | false=>rw [hz] at h; cases h
theorem Qe {l:List W} {i:Int} {k:W->Option U} (h:Jw l i k=some r):∃ (m:Nat) (x:W),i=(m:Int)/\l[m]? = some x/\k x=some r:=by
 unfold Jw at h;cases hz:decide (0<=i) with
 | true=>
  rw [hz] at h;obtain⟨x,hx,h⟩:=Gd h;exact⟨i.toNat,x,by have:=P6 hz; omega,hx,h⟩
 | false=>rw [hz] at h; cases h
theorem J3 {b:Bool} {k:Option U} (h:need b k=some r):b=true/\k=some r:=by
 cases b with
 | true=>exact⟨rfl,h⟩
 | false=>cases h
variable {x:W}
theorem Gz {c:Bool} {y z:W} (hc:c=true) (h:(bif c then x else y)=z):x=z:=by subst hc; exact h
theorem Ht {c:Bool} {y z:W} (hc:c=false) (h:(bif c then x else y)=z):y=z:=by subst hc; exact h
theorem Q24 {f:W->AV} {l:List W} {m:Nat} (h:l[m]? = some x):(l.map f)[m]? = some (f x):=by simp [h]
end model

abbrev ST (s:ByteArray):AV:=.sc (.string s)
abbrev LS {W:Type} (k:Nat) (f:W->AV) (xs:List W):AV:=.list k (xs.map f)
abbrev E0:Value:=.int .i64 0
abbrev Em (n:Nat):AV:=I64 (n:Int)
abbrev Ee:=LS 1 U8
abbrev E5:=LS 1 I64
abbrev OW {W:Type} (i k:Nat) (f:W->AV) (xs:List W):AV:=.own i xs.length k (xs.map f)

section ops
variable {P:Program} {N:Cfg} {Q:Post} {l:Fr} {L L':Loc} {ops:Array Oper} {o:Oper} {rest:AM} {u:AV} {W:Type}

variable {xs:List W} {E T k k':Nat} {x:Operand} {f:W->AV}
theorem H4 {d:Nat} (hT:sliceB P T E k'=true) (ho:o.op=.call { callee:=.builtin .len,args:=#[x],argTypes:=#[T] }) (hx:Jv (ev l x)=some (k,xs.map f))
  (hk:xs.length<=maxLen->JL P N ops rest Q ((d,I64 (xs.length:Int))::l) L) (hg:o.guard=none) (hd:o.dst=some d) (hn:Nat.blt d N.n=true):JL P N ops (o::rest) Q l L:=
 Q9f hT (fun hm=>by simp only [Pr] at hm ⊢; exact hk hm) ho hx hg hd hn
theorem JLl {d:Nat} (hT:sliceB P T E k'=true) (ho:o.op=.call { callee:=.builtin .len,args:=#[x],argTypes:=#[T] }) (hx:Jv (ev l x)=some (k,xs.map f)) (hd:o.dst=some d)
  (hk:xs.length<=maxLen->JL P N ops rest Q ((d,I64 (xs.length:Int))::l) L) (hg:o.guard=none:=by rfl) (hn:Nat.blt d N.n=true:=by rfl):JL P N ops (o::rest) Q l L:=H4 hT ho hx hk hg hd hn
theorem Qj (hT:sliceB P T E k'=true) (ho:o.op=.call { callee:=.builtin .len,args:=#[x],argTypes:=#[T] }) (hx:Jv (ev l x)=some (k,xs.map f)):Gy P o l L (Is (I64 (xs.length:Int)) L):=by
 have:=Je6 (L:=L) hT ho hx;simpa only [Pr] using this
theorem G9 {f off:Nat} {cs ds:AD} (hT:Jk P T f off=true) (ho:o.op=.fieldAddr T x f) (hx:ev l x=.GY cs) (hd:cs.drop off=ds):Gy P o l L (Is (.GY ds) L):=hd ▸ QT hT ho hx
variable {kd:IntKind}
theorem Gs {ix:Operand} {m:Nat} {n:Int} {y:W} (ho:o.op=.indexAddr T x ix) (hx:Jv (ev l x)=some (k,xs.map f)) (hi:ev l ix=.sc (.int kd n)) (hT:sliceB P T E k=true) (hy:xs[m]? = some y) (hm:n=(m:Int)) :
  Gy P o l L (Is (.GY (f y).cells) L):=Q55 ho hx hi hT (Q24 hy) hm
theorem Y7 {s:Operand} {by_ i kx:Nat} {ys:List W} (ho:o.op=.call { callee:=.builtin .append,args:=#[s,x],argTypes:=#[T,T] }) (hs:ev l s=OW i k f xs) (hi:lk L i=some (.spare E k xs.length xs.length)) (hx:Jv (ev l x)=some (kx,ys.map f))
  (hT:sliceB P T E k=true) (hE:Qa P E k by_=true) (hb:decide ((xs.length+ys.length)*by_<=140737488355328/\xs.length+ys.length<=maxLen)=true) (h0:∀ y,(f y).BI=true) (hk:kx=k\/ys=[]) (hy:ys.length=1) :
  Gy P o l L (Is (OW i k f (xs++ys)) ((i,.spare E k (xs++ys).length (xs++ys).length)::L)):=by
 have h1:=P6 hb;have h:=Hab (xs:=xs.map f) (ys:=ys.map f) ho hs hi hx hT hE (by simpa using h1.1) (by simpa using h1.2) (fun y hy=>by
  obtain⟨z,_,rfl⟩:=Pt.1 hy;exact h0 z) (hk.imp id (fun e=>by rw [e]; rfl))
 simpa only [OW,List.map_append,Pn,Pr,hy] using h
theorem J21 {p:Operand} {m:Nat} {mi:Int} (ho:o.op=.slice T x (some p) none none) (hx:Jv (ev l x)=some (k,xs.map f)) (hp:ev l p=.sc (.int kd mi)) (hT:sliceB P T E k=true) (hm:mi=(m:Int)/\m<=xs.length) :
  Gy P o l L (Is (LS k f (xs.drop m)) L):=by
 have h:=J8f (L:=L) ho hx hp hT hm.1 (by simpa using hm.2);simpa only [LS,List.map_drop] using h
theorem J22 {p:Operand} {n:Nat} {ni:Int} (ho:o.op=.slice T x none (some p) none) (hx:Jv (ev l x)=some (k,xs.map f)) (hp:ev l p=.sc (.int kd ni)) (hT:sliceB P T E k=true) (hn:ni=(n:Int)/\n<=xs.length) :
  Gy P o l L (Is (LS k f (xs.take n)) L):=by
 have h:=J90 (L:=L) ho hx hp hT hn.1 (by simpa using hn.2);simpa only [LS,List.map_take] using h
end ops

section model
variable {W U Z:Type}
theorem bN {z v:Int} (h:chk z some=some v):IntKind.i64.wrap z=v:=by
 obtain⟨x,hx,e⟩:=R7 h;cases e; exact hx
variable {i:Int}
theorem Qq {l:List W} {x:W} (h:Jw l i some=some x):∃ m:Nat,i=(m:Int)/\l[m]? = some x:=by
 obtain⟨m,y,hm,hy,e⟩:=Qe h;cases e; exact⟨m,hm,hy⟩
theorem Gdb {l:List W} {k:W->Option U} {r:U} (h:Jw l i k=some r):∃ x,i=(i.toNat:Int)/\l[i.toNat]? = some x/\k x=some r:=by
 obtain⟨m,x,hm,hx,h⟩:=Qe h;exact⟨x,by omega,by rw [hm]; exact hx,h⟩
def fC (i:Int) (n:Nat):Option Nat:=bif decide (0<=i)&&decide (i.toNat<=n) then some i.toNat else none
variable {n:Nat}
theorem aE {m:Nat} (h:fC i n=some m):i=(m:Int)/\m<=n:=by
 unfold fC at h;cases hb:decide (0<=i)&&decide (i.toNat<=n) with
 | true=>
  rw [hb] at h; cases h;simp only [Pp,Pq] at hb;exact⟨by omega,hb.2⟩
 | false=>rw [hb] at h; cases h
def Gce (m n:Int):Option Int:=bif decide (n=0) then none else chk (m.tdiv n) some
theorem yQ {m n v:Int} (h:Gce m n=some v):n≠0/\IntKind.i64.wrap (m.tdiv n)=v:=by
 unfold Gce at h;cases hb:decide (n=0) with
 | true=>rw [hb] at h; cases h
 | false=>rw [hb] at h; exact⟨P7 hb,bN h⟩
variable {k:Nat}
theorem H9 (hk:k < n) (hn:n<=maxLen):IntKind.i64.wrap ((k:Int)+1)=((k+1:Nat):Int):=by
 rw [dM (by omega) (by unfold maxLen at hn; omega)]; rfl
variable {e:Int}
theorem bM (h:decide ((k:Int) < e)=true):k < e.toNat:=by have:=P6 h; omega
theorem R6 (h:decide ((k:Int) < e)=false):¬ k < e.toNat:=by have:=P7 h; omega
theorem Ji (h:decide ((k:Int) < (n:Int))=true):k < n:=by have:=P6 h; omega
theorem H8 (h:decide ((k:Int) < (n:Int))=false):¬ k < n:=by have:=P7 h; omega
theorem Zc (h:decide (e<=9223372036854775807)=true):e.toNat<=maxLen:=by have:=P6 h; unfold maxLen; omega
theorem app1 {W U:Type} {f g:W->U} {x:W} {r:U} (e:f=g) (h:g x=r):f x=r:=e ▸ h
variable {Y:Type} {y:Y}
theorem app2 {W U:Type} {f g:W->Y->U} {x:W} {r:U} (e:f=g) (h:g x y=r):f x y=r:=e ▸ h
theorem wM {W C U:Type} {f g:W->Y->C->U} {x:W} {z:C} {r:U} (e:f=g) (h:g x y z=r):f x y z=r:=e ▸ h
theorem Ry {W C ε U:Type} {f g:W->Y->C->ε->U} {x:W} {z:C} {u:ε} {r:U} (e:f=g) (h:g x y z u=r):f x y z u=r:=e ▸ h
variable {r:Option U} {s:Z}
theorem J0 {b:W->Nat->Z->(Z->Option U)->Option U} {kx:Z->Option U} {xs:List W} (h:each b kx xs 0 s=r):∃ b' kx',b=b'/\kx=kx'/\each b' kx' (xs.drop 0) 0 s=r:=⟨b,kx,rfl,rfl,by rw [List.drop_zero]; exact h⟩
theorem dN {b:Nat->Z->(Z->Option U)->Option U} {kx:Z->Option U} (h:upto b kx n 0 s=r):∃ b' kx',b=b'/\kx=kx'/\upto b' kx' (n - 0) 0 s=r:=⟨b,kx,rfl,rfl,h⟩
theorem Q26 {b:(Z->Option U)->Z->Option U} (h:loop b n s=r):∃ b',b=b'/\loop b' n s=r:=⟨b,rfl,h⟩
end model

section code
variable {P:Program} {N:Cfg} {Q:Post} {l:Fr} {L:Loc}
variable {body:Code} {Z:Type}
theorem Hb (I:Nat->Z->Prop) (F:Nat->Z->Fr) (M:Nat->Z->Loc) (A:Nat->Nat) (i0:Nat) (s0:Z) (h0:I i0 s0) (hf:Fits N.base l L (F i0 s0) (M i0 s0))
  (hr:∀ i s,I i s->∀ K:Fr->Loc->Prop,(∀ l L i' s',I i' s'->A i' < A i->Fits N.base l L (F i' s') (M i' s')->K l L)->JC P N body (Q.seq K) (F i s) (M i s)):JC P N (.loop body) Q l L:=
 dH (fun x:Nat×Z=>I x.1 x.2) (fun x=>F x.1 x.2) (fun x=>M x.1 x.2) (fun x=>A x.1) (i0,s0) h0 hf
  (fun x hi K hK=>hr x.1 x.2 hi K (fun l L i' s' h1 h2 h3=>hK l L (i',s') h1 h2 h3))
theorem GO {W U:Type} {b:W->Nat->Z->(Z->Option U)->Option U} {kx:Z->Option U} {xs:List W} {r:Option U} {s0:Z} (h:each b kx (xs.drop 0) 0 s0=r) (F:Nat->Z->Fr) (M:Nat->Z->Loc) (hf:Fits N.base l L (F 0 s0) (M 0 s0)) (hr:∀ i s,each b kx (xs.drop i) i s=r->∀ K:Fr->Loc->Prop,(∀ l L i' s',each b kx (xs.drop i') i' s'=r->xs.length - i' < xs.length - i->Fits N.base l L (F i' s') (M i' s')->K l L)->JC P N body (Q.seq K) (F i s) (M i s)):JC P N (.loop body) Q l L:=Hb (fun i s=>each b kx (xs.drop i) i s=r) F M (fun i=>xs.length - i) 0 s0 h hf hr
theorem GS {U:Type} {b:Nat->Z->(Z->Option U)->Option U} {kx:Z->Option U} {n:Nat} {r:Option U} {s0:Z} (h:upto b kx (n - 0) 0 s0=r) (F:Nat->Z->Fr) (M:Nat->Z->Loc) (hf:Fits N.base l L (F 0 s0) (M 0 s0)) (hr:∀ i s,upto b kx (n - i) i s=r->∀ K:Fr->Loc->Prop,(∀ l L i' s',upto b kx (n - i') i' s'=r->n - i' < n - i->Fits N.base l L (F i' s') (M i' s')->K l L)->JC P N body (Q.seq K) (F i s) (M i s)):JC P N (.loop body) Q l L:=Hb (fun i s=>upto b kx (n - i) i s=r) F M (fun i=>n - i) 0 s0 h hf hr
end code

def Rd (w:World) (S:Nat->Nat->Prop) (us:AD) (cs:AK):Prop:=
 cs.length=us.length/\∀ (j:Nat) u v,us[j]? = some u->cs[j]? = some v->D w S u v

def isAgg (P:Program) (t:TypeId):Bool:=match P.underlying t with
 | some (.struct _)=>true
 | _=>false

def qD (P:Program) (t:TypeId) (us:AD):AV:=bif isAgg P t then .agg us else us.headD .AL

def J6f (P:Program) (ok:TypeId->Bool):List Field->Nat->Nat->Bool
 | [],off,tot=>Nat.beq off tot
 | f::fs,off,tot=>Nat.beq f.offset off&&ok f.type&&J6f P ok fs (off+P.cellsOf f.type) tot

def J6e (P:Program):Nat->TypeId->Bool
 | 0,_=>false
 | n+1,t=>match P.underlying t with
  | some .bool=>true
  | some .string=>true
  | some (.int _)=>true
  | some (.slice e)=>Nat.blt 0 (P.cellsOf e)&&J6e P n e
  | some (.struct fs)=>J6f P (J6e P n) fs.toList 0 (P.cellsOf t)
  | _=>false

def G21 (P:Program) (F:TypeId->AD->Prop):List Field->AD->Prop
 | [],us=>us=[]
 | f::fs,us=>∃ a b,us=a++b/\a.length=P.cellsOf f.type/\F f.type a/\G21 P F fs b

def eT (P:Program) (M:Nat):Nat->TypeId->AD->Prop
 | 0,_,_=>False
 | n+1,t,us=>match P.underlying t with
  | some .bool=>∃ b,us=[.sc (.bool b)]
  | some .string=>∃ s:ByteArray,us=[.sc (.string s)]/\s.size<=maxLen
  | some (.int k)=>∃ z,us=[.sc (.int k z)]/\(Lit.int k z).wf=true
  | some (.slice e)=>∃ xss:List AD,us=[.list (P.cellsOf e) (xss.map (qD P e))]/\xss.length<=M/\∀ xs∈xss,eT P M n e xs
  | some (.struct fs)=>G21 P (eT P M n) fs.toList us
  | _=>False

variable {w:World}
theorem Rd.append {S:Nat->Nat->Prop} {us us':AD} {cs cs':AK} (h:Rd w S us cs) (h':Rd w S us' cs'):Rd w S (us++us') (cs++cs'):=by
 refine⟨by simp [h.1,h'.1],fun j u v hu hv=>?_⟩;by_cases hj:j < us.length
 .rw [Ph hj] at hu;rw [Ph (by rw [h.1]; exact hj)] at hv;exact h.2 j u v hu hv
 .rw [Pg (by omega)] at hu;rw [Pg (by rw [h.1]; omega),h.1] at hv;exact h'.2 _ u v hu hv

theorem J36 {P:Program} {ok:TypeId->Bool}:∀ {fs:List Field} {off tot:Nat},J6f P ok fs off tot=true->off<=tot
 | [],_,_,h=>Nat.le_of_eq (P2 h)
 | _::fs,_,_,h=>by
  simp only [J6f,Pp] at h;have:=J36 h.2;omega

theorem J41 {P:Program} {w:World} {S:Nat->Nat->Prop} {ok:TypeId->Bool} {F:TypeId->AD->Prop} {cs:AK} :
  ∀ {fs:List Field} {off tot:Nat},J6f P ok fs off tot=true->cs.length=tot ->
   (∀ f∈fs,ok f.type=true->∃ us,F f.type us/\Rd w S us ((cs.drop f.offset).take (P.cellsOf f.type)))->∃ us,G21 P F fs us/\Rd w S us (cs.drop off)
 | [],off,tot,h,hl,_=>by
  have:=P2 h;refine⟨[],rfl,?_,fun j u v hu=>by cases hu⟩;rw [List.length_drop,hl,this]; simp
 | f::fs,off,tot,h,hl,hf=>by
  simp only [J6f,Pp] at h;obtain⟨⟨h1,h2⟩,h3⟩:=h;have h1:=P2 h1;obtain⟨us1,f1,r1⟩:=hf f (List.mem_cons_self ..) h2;obtain⟨us2,f2,r2⟩:=J41 h3 hl (fun g hg=>hf g (List.mem_cons_of_mem _ hg));rw [h1] at r1;have h0:=J36 h3;refine⟨us1++us2,⟨us1,us2,rfl,?_,f1,f2⟩,?_⟩
  .rw [<- r1.1,List.length_take,List.length_drop]; omega
  .have e:cs.drop off=(cs.drop off).take (P.cellsOf f.type)++cs.drop (off+P.cellsOf f.type):=by
    rw [<- List.drop_drop,List.take_append_drop]
   rw [e];exact r1.append r2

variable {P:Program}
theorem G5e {M n:Nat} {t:TypeId} {us:AD} (h:eT P M n t us):(qD P t us).cells=us:=by
 cases n with
 | zero=>exact h.elim
 | succ n=>
  unfold eT at h;unfold qD isAgg;revert h;split
  .rintro⟨b,rfl⟩; simp_all [AV.cells]
  .rintro⟨b,rfl,_⟩; simp_all [AV.cells]
  .rintro⟨b,rfl,_⟩; simp_all [AV.cells]
  .rintro⟨xss,rfl,_⟩; simp_all [AV.cells]
  .intro _; simp_all [AV.cells]
  .intro h; exact h.elim

variable {a:Addr} {v:Value}
theorem cell_spot (h:w.cell? a=some v):a.spot=none:=by
 cases hs:a.spot with
 | none=>rfl
 | some s=>
  unfold World.cell? at h;split at h
  .rw [hs] at h; simp at h
  .cases h

theorem Q32 (h:w.cell? a=some v):a.block < w.heap.size:=by
 unfold World.cell? at h;split at h
 .rename_i hh;exact(Nz hh).1
 .cases h

theorem H7b {W U:Type} {f:W->Option U}:∀ {l:List W} {r:List U},l.mapM f=some r->r.length=l.length/\∀ (i:Nat) x,l[i]? = some x->f x=r[i]?
 | [],r,h=>by
  simp at h; subst h;exact⟨rfl,fun i x hx=>by cases hx⟩
 | x::l,r,h=>by
  rw [List.mapM_cons] at h;cases hx:f x with
  | none=>rw [hx] at h; cases h
  | some y=>
   rw [hx] at h;cases hl:l.mapM f with
   | none=>rw [hl] at h; cases h
   | some r'=>
    rw [hl] at h;cases h;obtain⟨h1,h2⟩:=H7b hl;refine⟨by simp [h1],fun i z hz=>?_⟩;cases i with
    | zero=>simp at hz; subst hz; simpa using hx
    | succ i=>simpa using h2 i z (by simpa using hz)

theorem RU {base:Nat} {n:Nat} {cs:AK} (h:w.cells? base a n=some cs):cs.length=n/\∀ j,j < n->w.cell? (a.add j)=cs[j]? := by
 unfold World.cells? at h;split at h
 .obtain⟨h1,h2⟩:=H7b h;exact⟨by simpa using h1,fun j hj=>h2 j j (by simp [hj])⟩
 .cases h

theorem H0c {b off:Nat} (i:Nat):Addr.add ⟨b,off,none⟩ i=⟨b,off+i,none⟩:=by
 unfold Addr.add;split <;> simp_all

section
variable {H:Type} {enc:TypeId×Value->H} {P:Program} {w:World} {base:Nat} {spare:Nat->Bool} {held:Bool} {S:Nat->Nat->Prop}

theorem J12 {M n:Nat} {e:TypeId} {a:Addr} {len cap:Nat} (hS:∀ b i,b < w.heap.size->S b i) (hk:0 < P.cellsOf e) (hl:len<=cap) (hm:cap<=maxLen)
  (a0:∀ i,i < len->∃ us cs,eT P M n e us/\Rd w S us cs/\w.cells? base (a.add (i*P.cellsOf e)) (P.cellsOf e)=some cs) :
  ∃ xss:List AD,xss.length=len/\(∀ xs∈xss,eT P M n e xs)/\D w S (.list (P.cellsOf e) (xss.map (qD P e))) (.slice (some a) len cap):=by
 have h9:∀ i,∃ us,i < len->∃ cs,eT P M n e us/\Rd w S us cs/\w.cells? base (a.add (i*P.cellsOf e)) (P.cellsOf e)=some cs:=fun i=>by
  by_cases hi:i < len
  .obtain⟨us,cs,h⟩:=a0 i hi;exact⟨us,fun _=>⟨cs,h⟩⟩
  .exact⟨[],fun h=>(hi h).elim⟩
 obtain⟨f,hf⟩:=Classical.skolem.1 h9;refine⟨(List.range len).map f,by simp,?_,?_⟩
 .intro xs hx;obtain⟨i,hi,rfl⟩:=Pt.1 hx;obtain⟨cs,h,_⟩:=hf i (List.mem_range.1 hi);exact h
 cases len with
 | zero=>exact .nil hm
 | succ len=>
  obtain⟨cs0,_,_,a1⟩:=hf 0 (Nat.succ_pos _);obtain⟨l0,g0⟩:=RU a1;have g00:=g0 0 hk;have hx:∃ v,cs0[0]? = some v:=⟨cs0[0],by simp⟩;obtain⟨v0,a2⟩:=hx;rw [a2] at g00;have a3:a.spot=none:=by
   have:=cell_spot g00;unfold Addr.add at this;simpa using this
  obtain⟨b,off,sp⟩:=a;subst a3;have hb:b < w.heap.size:=by
   have:=Q32 g00;simpa [H0c] using this
  have h5:∀ x∈((List.range (len+1)).map f).map (qD P e),x.cells.length=P.cellsOf e:=by
   intro x hx;obtain⟨us,hu,rfl⟩:=Pt.1 hx;obtain⟨i,hi,rfl⟩:=Pt.1 hu;obtain⟨cs,h1,h2,h3⟩:=hf i (List.mem_range.1 hi);rw [G5e h1,<- h2.1,(RU h3).1]
  have h0:(((List.range (len+1)).map f).map (qD P e)).length=len+1:=by simp
  have h4:∀ J,J < (flat (((List.range (len+1)).map f).map (qD P e))).length->∃ u v,(flat (((List.range (len+1)).map f).map (qD P e)))[J]? = some u/\w.cell? ⟨b,off+J,none⟩=some v/\D w S u v:=by
   intro J hJ;rw [J2 h5,h0] at hJ;have hi:J / P.cellsOf e < len+1:=(Nat.div_lt_iff_lt_mul hk).2 hJ;have hj:J % P.cellsOf e < P.cellsOf e:=Nat.mod_lt _ hk;have h6:J / P.cellsOf e*P.cellsOf e+J % P.cellsOf e=J:=by
    rw [Nat.mul_comm]; exact Nat.div_add_mod J _
   obtain⟨cs,h1,h2,h3⟩:=hf _ hi;obtain⟨l1,g1⟩:=RU h3;have hx:(((List.range (len+1)).map f).map (qD P e))[J / P.cellsOf e]? = some (qD P e (f (J / P.cellsOf e))):=by
    rw [Pj,Pj,List.getElem?_range hi]; rfl
   have h7:=H03 h5 hx _ hj;rw [h6,G5e h1] at h7;have a4:(f (J / P.cellsOf e)).length=P.cellsOf e:=by rw [<- h2.1,l1]
   have hu:(f (J / P.cellsOf e))[J % P.cellsOf e]? = some ((f (J / P.cellsOf e))[J % P.cellsOf e]'(by rw [a4]; exact hj)):=by simp
   have hv:cs[J % P.cellsOf e]? = some (cs[J % P.cellsOf e]'(by rw [l1]; exact hj)):=by simp
   refine⟨_,_,h7.trans hu,?_,h2.2 _ _ _ hu hv⟩;have:=g1 _ hj;rw [H0c,H0c,Nat.add_assoc,h6,hv] at this;exact this
  have hD:=D.list (w:=w) (S:=S) (k:=P.cellsOf e) (b:=b) (off:=off) (cap:=cap) (xs:=((List.range (len+1)).map f).map (qD P e)) (fun J=>(w.cell? ⟨b,off+J,none⟩).getD undef) (by rw [h0]; exact hl) hm h5
   (fun J hJ=>by
    obtain⟨u,v,_,hv,_⟩:=h4 J hJ;exact⟨hS _ _ hb,by rw [hv]; rfl⟩)
   (fun J u hu=>by
    have hJ:J < (flat (((List.range (len+1)).map f).map (qD P e))).length:=(Pa hu).1;obtain⟨u',v,h8,hv,hd⟩:=h4 J hJ;rw [hu] at h8;cases h8;rw [hv]; exact hd)
  rw [h0] at hD;exact hD

structure zB (H:Type) (M:Nat) (small:DataW H->Prop):Prop where
 slice:∀ elems spare,small (.slice elems spare)->elems.length<=maxLen->elems.length<=M/\∀ e∈elems,small e
 agg:∀ parts,small (.agg parts)->∀ p∈parts,small p
theorem vT (hS:∀ b i,b < w.heap.size->S b i) {M:Nat} {small:DataW H->Prop} (h5:zB H M small):∀ (n:Nat) (t:TypeId) (fuel:Nat) (cs:AK) (x:DataW H×List MemPlace),J6e P n t=true ->
  DataW.trod enc P w base spare held fuel t cs=some x->small x.1->∃ us,eT P M n t us/\Rd w S us cs
 | 0,_,_,_,_,h,_,_=>by cases h
 | n+1,t,fuel,cs,x,h,hx,h6=>by
  unfold J6e at h;unfold eT;have one:∀ {u:AV} {v:Value},D w S u v->Rd w S [u] [v]:=fun {u v} hd=>⟨rfl,fun j u' v' hu hv=>by
   cases j with
   | zero=>simp at hu hv; subst hu; subst hv; exact hd
   | succ j=>cases hu⟩
  revert h;split
  .rename_i ht;intro _;obtain⟨b,rfl,_⟩:=DataW.trod_bool ht hx;exact⟨_,⟨b,rfl⟩,one .sc⟩
  .rename_i ht;intro _;obtain⟨s,rfl,_,hs⟩:=DataW.trod_string ht hx;exact⟨_,⟨s,rfl,hs⟩,one .sc⟩
  .rename_i k ht;intro _;obtain⟨z,rfl,_,hz⟩:=DataW.trod_int ht hx;exact⟨_,⟨z,rfl,hz⟩,one .sc⟩
  .rename_i e ht;intro h;rw [Pp] at h;have hk:0 < P.cellsOf e:=Eq.mp Nat.blt_eq h.1;rcases DataW.trod_slice ht hx with ⟨rfl,_⟩ | ⟨a,len,cap,elems,rest,m,_,rfl,h7,hb,hl,hm,h0,a0,_,_⟩
   .exact⟨_,⟨[],rfl,Nat.zero_le _,fun xs hx=>by cases hx⟩,one (.nil (Nat.zero_le _))⟩
   .rw [h7] at h6;obtain⟨hM,h4⟩:=h5.slice _ _ h6 (by rw [Pr,h0]; exact Nat.le_trans hl hm);rw [Pr,h0] at hM;obtain⟨xss,h1,h2,h3⟩:=J12 (P:=P) (base:=base) (n:=n) (e:=e) (a:=a) (len:=len) (cap:=cap) hS hk hl hm (fun i hi=>by
     have he:=a0 i hi;rw [Pb (by rw [h0]; exact hi)] at he;obtain⟨cs',hc,a1⟩:=Option.bind_eq_some_iff.1 he;obtain⟨us,hf,hr⟩:=vT hS h5 n e m cs' _ h.2 a1 (h4 _ (Pt.2 ⟨_,List.getElem_mem _,rfl⟩));exact⟨us,cs',hf,hr,hc⟩)
    exact⟨_,⟨xss,rfl,by rw [h1]; exact hM,h2⟩,one h3⟩
  .rename_i fs ht;intro h;obtain⟨xs,m,_,h7,hl,h0,hf⟩:=DataW.trod_struct ht hx;rw [h7] at h6;have h4:=h5.agg _ h6;obtain⟨us,h1,h2⟩:=J41 (w:=w) (S:=S) (F:=eT P M n) h hl (fun f a2 a3=>by
    obtain⟨i,hi⟩:=List.mem_iff_getElem?.1 a2;have h8:fs[i]? = some f:=by simpa using hi
    have:=hf i f h8;have h9:i < xs.length:=by rw [h0]; exact(Nz h8).1
    rw [Pb h9] at this;exact vT hS h5 n f.type m _ _ a3 this (h4 _ (Pt.2 ⟨_,List.getElem_mem h9,rfl⟩)))
   exact⟨us,h1,by simpa using h2⟩
  .intro h; cases h

theorem Jc5 (hS:∀ b i,b < w.heap.size->S b i) {M:Nat} {small:DataW H->Prop} (h3:zB H M small) {n:Nat} {t:TypeId} {r:Reach} {b0:Nat} {v:Value} {d:DataW H} {ps:List MemPlace} (h4:J6e P n t=true)
  (h0:Value.okWide P w r b0 t v) (hd:DataW.Trod enc P w base spare held t v d ps) (h5:small d):∃ us,eT P M n t us/\D w S (qD P t us) v:=by
 obtain⟨fuel,hf⟩:=hd;obtain⟨us,h1,h2⟩:=vT hS h3 n t fuel _ _ h4 hf h5;refine⟨us,h1,?_⟩;have single:∀ {u:AV},us=[u]->isAgg P t=false->v.cells.toList=[v]->D w S (qD P t us) v:=fun {u} hu ha hv=>by
  subst hu;unfold qD;rw [ha];rw [hv] at h2;exact h2.2 0 _ _ rfl rfl
 cases n with
 | zero=>exact h1.elim
 | succ n=>
  unfold eT at h1;revert h1;split
  .rename_i ht;rintro⟨b,e⟩;obtain⟨b',rfl⟩:=Go.WideShapes.okWide_bool ht h0;exact single e (by simp [isAgg,ht]) (by simp [Value.cells])
  .rename_i ht;rintro⟨b,e,_⟩;obtain⟨b',rfl⟩:=Go.WideShapes.okWide_string ht h0;exact single e (by simp [isAgg,ht]) (by simp [Value.cells])
  .rename_i ht;rintro⟨b,e,_⟩;obtain⟨b',rfl⟩:=Go.WideShapes.okWide_int ht h0;exact single e (by simp [isAgg,ht]) (by simp [Value.cells])
  .rename_i ht;rintro⟨b,e,_⟩;obtain⟨a,l,c,rfl⟩:=Go.WideShapes.okWide_slice ht h0;exact single e (by simp [isAgg,ht]) (by simp [Value.cells])
  .rename_i fs ht;intro _;obtain⟨cs,rfl,_⟩:=Go.WideShapes.okWide_struct ht h0;unfold qD;rw [show isAgg P t=true by simp [isAgg,ht]];refine .agg ?_ (fun j u v hu hv=>h2.2 j u v hu ?_)
   .simpa [Value.cells] using h2.1
   .simpa [Value.cells] using hv
  .intro h; exact h.elim

end

theorem Step.below {w':World} {U U':Gx} {L':Loc} (h:Step w U [] w' U' L'):Below w.heap.size w w':=
 ⟨h.os,h.tape,h.output.1,h.size,fun k hk=>(h.far k hk (fun id hi=>by simp [lk] at hi)).1⟩

variable {f:FuncId} {args:AD}
theorem Q1e {R:AV->Prop} (hc:Pure P f args R) {vs:Array Value} (hl:vs.size=args.length)
  (hv:∀ (j:Nat) u v,args[j]? = some u->vs[j]? = some v->D w (Hs w ⟨fun _=>none,fun _ _=>False⟩ []) u v) :
  Calls P f vs w fun e w'=>∃ v r U' ,e=.returned v/\Below w.heap.size w w'/\V w' U' [] r v/\R r:=by
 refine(hc w ⟨fun _=>none,fun _ _=>False⟩ vs ⟨fun b i h=>h.elim,fun id b h=>by simp [lk] at h,fun id b j h=>by simp [lk] at h,fun id id' b h=>by simp [lk] at h,fun id o h=>by simp [lk] at h⟩ hl
  (fun j u v hu h0=>.data (hv j u v hu h0))).mono fun e w' h=>?_
 obtain⟨v,r,U',L',he,h3,h1,h2,rfl,hR⟩:=h;exact⟨v,r,U',he,h1.below,h2,hR⟩

theorem Ja1:∀ b i,b < w.heap.size->Hs w ⟨fun _=>none,fun _ _=>False⟩ [] b i:=fun _ _ h=>⟨h,fun h=>h,fun id o h=>by simp [lk] at h⟩

section
variable {P:Program} {M n:Nat} {t e:TypeId} {us:AD}
theorem Hf5 (h:eT P M (n+1) t us) (ht:P.underlying t=some .bool):∃ b:Bool,True/\us=[BL b]:=by
 unfold eT at h; rw [ht] at h;obtain⟨b,rfl⟩:=h;exact⟨b,trivial,rfl⟩
theorem Gf7 (h:eT P M (n+1) t us) (ht:P.underlying t=some .string):∃ s:ByteArray,s.size<=maxLen/\us=[ST s]:=by
 unfold eT at h; rw [ht] at h;obtain⟨s,rfl,hs⟩:=h;exact⟨s,hs,rfl⟩
theorem Gc2 {k:IntKind} (h:eT P M (n+1) t us) (ht:P.underlying t=some (.int k)):∃ z:Int,(Lit.int k z).wf=true/\us=[.sc (.int k z)]:=by
 unfold eT at h; rw [ht] at h;obtain⟨z,rfl,hz⟩:=h;exact⟨z,hz,rfl⟩
theorem G40 {W:Type} {av:W->AV} {ok:W->Prop} {k:Nat} (h:eT P M (n+1) t us) (ht:P.underlying t=some (.slice e)) (hk:P.cellsOf e=k)
  (h0:∀ us,eT P M n e us->∃ x,ok x/\qD P e us=av x):∃ xs:List W,((∀ x∈xs,ok x)/\xs.length<=M)/\us=[LS k av xs]:=by
 unfold eT at h; rw [ht] at h;obtain⟨xss,rfl,hl,hx⟩:=h;have key:∀ (l:List AD),(∀ xs∈l,eT P M n e xs)->∃ xs:List W,(∀ x∈xs,ok x)/\xs.length=l.length/\l.map (qD P e)=xs.map av:=by
  intro l
  induction l with
  | nil=>exact fun _=>⟨[],⟨fun x hx=>(Pe hx).elim,rfl,rfl⟩⟩
  | cons a l ih=>
   intro hl;obtain⟨x,h1,h2⟩:=h0 a (hl a (List.mem_cons_self ..));obtain⟨xs,h3,h4,h5⟩:=ih (fun y hy=>hl y (List.mem_cons_of_mem _ hy));refine⟨x::xs,fun y hy=>?_,by simp [h4],by simp [h2,h5]⟩;rcases Pv.1 hy with rfl | hy
   .exact h1
   .exact h3 y hy
 obtain⟨xs,h1,h2,h3⟩:=key xss hx;exact⟨xs,⟨h1,by rw [h2]; exact hl⟩,by rw [hk,h3]⟩
theorem cI {fs:Array Field} (h:eT P M (n+1) t us) (ht:P.underlying t=some (.struct fs)):G21 P (eT P M n) fs.toList us:=by
 unfold eT at h; rw [ht] at h;exact h
theorem Jc0 {fs:Array Field} (ht:P.underlying t=some (.struct fs)):qD P t us=.agg us:=by
 unfold qD isAgg; rw [ht]; rfl
theorem J13 {u:AV} (ht:isAgg P t=false):qD P t [u]=u:=by
 unfold qD; rw [ht]; rfl
end

theorem u8r {z:Int} (h:(Lit.int .u8 z).wf=true):0<=z/\z<=255:=by
 simp only [Lit.wf,Pp,Pq] at h;exact h

def Qe0 (P:Program) (l:Fr) (L:Loc):ResultVar->AV->Prop
 | .tmp t,u=>look l t=u
 | .cell t T,u=>∃ i tt cs k,look l t=.ptr i 0/\lk L i=some (.box tt cs)/\cs.length=k/\((gQ P T k=true/\u=.agg cs)\/(J9 P T=true/\cs[0]? = some u))
inductive J4e (ok:Nat->Bool):AV->AV->Prop
 | conv {u u':AV} (h:Conv ok u u'):J4e ok u u'
 | agg {cs cs':AD} (h:uK ok cs cs'):J4e ok (.agg cs) (.agg cs')
def J17 (P:Program) (l:Fr) (L:Loc) (ok:Nat->Bool):List ResultVar->AD->Prop
 | [],[]=>True
 | rv::r,u'::s=>(∃ u,Qe0 P l L rv u/\J4e ok u u')/\J17 P l L ok r s
 | _,_=>False
def Jb2:AD->AV
 | [u]=>u
 | us=>.tup us
def Q46 (P:Program) (B:AI) (rvs:List ResultVar) (R:AV->Loc->Prop):Fr->Loc->Prop:=
 fun l L=>∃ us L',aX (fun i=>(lk L' i).isSome) L L'/\allIn L' B=true/\J17 P l L (fun i=>(lk L' i).isSome) rvs us/\R (Jb2 us) L'

variable {L:Loc}
theorem V.convA {U:Gx} {L':Loc} (hd:tV L L') {u u':AV} (h:V w U L u v) (hc:J4e (fun i=>(lk L' i).isSome) u u'):V w U L' u' v:=by
 cases hc with
 | conv hc=>exact h.conv hd hc
 | @agg cs cs' hc=>
  obtain⟨vs,rfl,hl,hv⟩:=h.inv_agg;exact .agg (hl.trans hc.length) (fun j u' v hu h0=>by
   have hj:j < vs.size:=(Nz h0).1;obtain⟨u,h1⟩:∃ u,cs[j]? = some u:=⟨_,Pb (hl ▸ hj)⟩;exact(hv j u v h1 h0).conv hd (hc.get j u u' h1 hu))

def RG (a:Act):ResultVar->Sem Value
 | .tmp t=>pure (a.tmps.getD t undef)
 | .cell q t=>do loadVar t (<- asAddr (a.tmps.getD q undef))
theorem J2e {P:Program} {w:World} {U:Gx} {L L':Loc} {l:Fr} {a:Act} (h6:Sat w U L) (hf:Jq a w U L l) (hd:tV L L') :
  ∀ {rvs:List ResultVar} {us:AD},J17 P l L (fun i=>(lk L' i).isSome) rvs us ->
  ∃ vs:AK,(rvs.mapM (RG a)).run P w=.ok vs w/\vs.length=us.length /\
   ∀ (j:Nat) u v,us[j]? = some u->vs[j]? = some v->V w U L' u v
 | [],[],_=>⟨[],by simp,rfl,fun j u v hu=>by simp at hu⟩
 | rv::r,u'::s,⟨⟨u,hu,hc⟩,h⟩=>by
  obtain⟨vs,h1,h2,h3⟩:=J2e (P:=P) h6 hf hd (rvs:=r) (us:=s) h;have key:∃ v,(RG a rv).run P w=.ok v w/\V w U L u v:=by
   cases rv with
   | tmp t=>
    refine⟨_,rfl,?_⟩;have:=hf.tmp t;rw [show look l t=u from hu] at this;exact this
   | cell q T=>
    obtain⟨i,tt,cs,k,e1,e2,e3,e4⟩:=hu;have hv:=hf.tmp q;rw [e1] at hv;obtain⟨b,hb,he⟩:=hv.inv_ptr;obtain⟨xs,x1,x2,x3⟩:=yB h6 e2 hb;rcases e4 with ⟨e4,rfl⟩ | ⟨e4,e5⟩
    .refine⟨.agg xs,?_,.agg x2 x3⟩;have:=ZI (w:=w) e4 x1 (x2.trans e3);simp only [RG,he,asAddr,Sem.run_bind,Sem.run_pure,Result.andThen_ok];exact this
    .have h7:0 < xs.size:=by
      have:=(Pa e5).1;omega
     refine⟨xs[0],?_,x3 0 u _ e5 (by simp [h7])⟩;have h5:=gM (P:=P) (T:=T) (b:=b) (o':=0) (v:=xs[0]) e4 (w:=w) (by simp [World.cell?,x1,h7]);simp only [RG,he,asAddr,Sem.run_bind,Sem.run_pure,Result.andThen_ok];simpa [Instr.loadAt,Instr.sureAddr,asAddr] using h5
  obtain⟨v,k1,k2⟩:=key;refine⟨v::vs,?_,by simp [h2],fun j u0 v0 h0 h4=>?_⟩
  .rw [List.mapM_cons,Sem.run_bind,k1,Result.andThen_ok,Sem.run_bind,h1,Result.andThen_ok];rfl
  .cases j with
   | zero=>simp at h0 h4; subst h0 h4; exact k2.convA hd hc
   | succ j=>simp at h0 h4; exact h3 j u0 v0 h0 h4
 | [],_::_,h=>h.elim
 | _::_,[],h=>h.elim

theorem aW {fn:Func} {c:Code} {L0:Loc} {R:AV->Loc->Prop} (base:AI) (rvs:List ResultVar) (hf:P.funcs[f]? = some fn) (hb:fn.body=some c) (h6:fn.results=rvs.toArray)
  (h4:∀ id,(lk L0 id).isSome=true->id∈base) (h:JC P ⟨fn.ntmps,base,none⟩ c (.fin (Q46 P base rvs R)) (kM 0 args) L0):Q2 P f args L0 R:=
 vV hf hb h4 (fun w0 U0 a w U l L hs hq=>by
  obtain⟨us,L',q1,q2,q3,q4⟩:=hq;have h0:Fits base l L [] L':=⟨trivial,q1,q2⟩;have h5:=hs.fits h0;obtain⟨vs,h1,h2,h3⟩:=J2e hs.sat hs.frame h0.drop q3;have h7:(results fn a.tmps).run P w=.ok (if h:vs.toArray.size=1 then vs.toArray[0] else .tuple vs.toArray) w:=by
   have e:results fn a.tmps=(do let vs <- fn.results.mapM (RG a); pure (if h:vs.size=1 then vs[0] else .tuple vs)):=by
    unfold results;refine congrArg (fun g=>bind (Array.mapM g fn.results) _) ?_;funext rv;cases rv <;> rfl
   rw [e,h6,List.mapM_toArray,Sem.run_bind];rw [show (List.toArray <$> List.mapM (RG a) rvs:Sem (Array Value)).run P w=.ok vs.toArray w from by
    rw [map_eq_pure_bind,Sem.run_bind,h1,Result.andThen_ok]; rfl]
   rfl
  refine⟨_,Jb2 us,L',h7,h5.sat,h5.step,?_,q4⟩
  match us,vs,h2,h3 with
  | [u],[v],_,h3=>simpa [Jb2] using h3 0 u v rfl rfl
  | [],[],_,h3=>exact .tup rfl (fun j u v hu=>by simp at hu)
  | u::u2::us,v::v2::vs,h2,h3=>
   have:¬ (v::v2::vs).toArray.size=1:=by simp
   rw [dif_neg this];exact .tup (by simpa using h2) (fun j u v hu hv=>h3 j u v hu (by simpa using hv))) h

theorem Gw {fn:Func} {c:Code} {R:AV->Prop} (rvs:List ResultVar) (hf:P.funcs[f]? = some fn) (hb:fn.body=some c) (h0:fn.results=rvs.toArray)
  (h:JC P ⟨fn.ntmps,[],none⟩ c (.fin (Q46 P [] rvs (fun r L'=>L'=[]/\R r))) (kM 0 args) []):Pure P f args R:=aW [] rvs hf hb h0 Jb3 h
theorem AF {t:Tmp} {W:Type} {l:Fr} (f:W->AV) {a r:W} (h:some a=some r) (hc:Conv (fun i=>(lk [] i).isSome) (look l t) (f a):=by exact .same rfl):Q46 P [] [.tmp t] (fun u L'=>L'=[]/\u=f r) l L:=
 ⟨[f a],[],trivial,rfl,⟨⟨_,rfl,.conv hc⟩,trivial⟩,rfl,congrArg f (Pc h)⟩
theorem fin1l {t:Tmp} {W:Type} {l:Fr} (f:W->AV) {a r:W} (h:some a=some r) (hc:Conv (fun i=>(lk [] i).isSome) (look l t) (f a):=by exact .list rfl):Q46 P [] [.tmp t] (fun u L'=>L'=[]/\u=f r) l L:=AF f h hc
end Go.Proofs.YtbgfgnddogfpcaaGreat
