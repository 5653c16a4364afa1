/-
 Parts of slices that the call may write in place: Calls that leave objects whose versions are not known before Models of functions that range over maps: Functions that are ranged over: A range over a function,the caller's side:
-/
import Derived.Test.YtmfhaflabpnaoaaGreatSortI
namespace Go.Proofs.YtmfhaflabpnaoaaGreat
open Go.RowKit

def Q41 (w:World) (S:Nat→Nat→Prop) (k:Nat) (ys:List AV) (v:Value):Prop:=
 (∀ y∈ys,y.cells.length=k)∧∃ (a:Option Addr) (cap:Nat) (cs:List Value),v=.slice a ys.length cap∧(a=none→ys=[])∧cs.length=ys.length*k∧(∀ (ad:Addr) (j:Nat) u,a=some ad→cs[j]? = some u→w.cell? (ad.add j)=some u) ∧
  ∀ (j:Nat) u x,(flat ys)[j]? = some u→cs[j]? = some x→D w S u x

theorem V.inv_vsl {w:World} {β:H5} {L:Loc} {i ver k k' off n t:Nat} {xs:List AV} {x:Value} (hi:lk L i=some (.vec t k' ver xs)) (h:V w β L (.vsl i ver k off n) x):k=k'∧off+n≤xs.length∧Q3f (β.at_ i) k off n x:=by
 cases h with
 | data h=>cases h
 | vsl hp _=>
  obtain⟨t',ver',xs',h1,_,h3⟩:=hp
  rw [hi] at h1; cases h1
  exact⟨rfl,(h3 rfl).1,(h3 rfl).2.1⟩
theorem V.inv_vsl0 {w:World} {β:H5} {L:Loc} {i ver k k' n t:Nat} {xs:List AV} {x:Value} (hi:lk L i=some (.vec t k' ver xs)) (h:V w β L (.vsl i ver k 0 n) x):Q40 w (β.at_ i) t k n x:=by
 cases h with
 | data h=>cases h
 | vsl hp _=>
  obtain⟨t',ver',xs',h1,_,h3⟩:=hp
  rw [hi] at h1; cases h1
  exact(h3 rfl).2.2 rfl

theorem J35 {w:World} {β:H5} {L:Loc} {i ver k t n:Nat} {xs:List AV} {x:Value} (h0:Sat w β L) (hi:lk L i=some (.vec t k ver xs)) (hv:V w β L (.vec i ver k n) x):n=xs.length∧Q3f (β.at_ i) k 0 n x:=by
 obtain⟨rfl,_,h⟩:=G58 h0 hi hv
 refine⟨rfl,?_⟩
 rcases h with ⟨rfl,rfl,_⟩ | ⟨b,cap,vs,rfl,h1,h2,h3,_⟩
 ·exact⟨none,0,rfl,M5,Nat.zero_le _,.inl rfl⟩
 ·exact⟨_,cap,rfl,h2,h3,.inr ⟨b,h1,by rw [Nat.zero_mul]⟩⟩

theorem Q20 {w:World} {β:H5} {L:Loc} {i ver k t off n:Nat} {xs:List AV} {x:Value} (h4:Sat w β L) (hi:lk L i=some (.vec t k ver xs)) (hn:off+n≤xs.length) (h:Q3f (β.at_ i) k off n x):Q41 w (Jj w β L) k ((xs.drop off).take n) x:=by
 obtain⟨o1,o2⟩:=h4.obj i _ hi
 have hk:∀ y∈(xs.drop off).take n,y.cells.length=k:=fun y hy=>o1 y (List.mem_of_mem_drop (List.mem_of_mem_take hy))
 have hl:((xs.drop off).take n).length=n:=by simp; omega
 refine⟨hk,?_⟩
 obtain⟨a,cap,rfl,h1,h2,h3⟩:=h
 rw [hl]
 by_cases h0:n=0
 ·subst h0
  exact⟨a,cap,[],rfl,fun _=>by simp,by simp,fun ad j u _ hu=>by simp at hu,fun j u x _ hx=>by simp at hx⟩
 ·rcases h3 with h3 | ⟨b,hb,rfl⟩
  ·exact absurd h3 h0
  ·obtain⟨q1,vs,q2,q3,q4⟩:=Gf5 h4 hi hb
   have hm:off*k+n*k≤xs.length*k:=by rw [← Nat.add_mul]; exact Nat.mul_le_mul_right _ hn
   refine⟨_,cap,(vs.toList.drop (off*k)).take (n*k),rfl,(fun e=>by cases e),by simp; omega,fun ad j u e hu=>?_,fun j u x hu hx=>?_⟩
   ·cases e
    have hj:=(M0 hu).1
    rw [List.length_take] at hj
    rw [Ma,if_pos (by omega),Mb] at hu
    rw [Addr.add_lit]
    simp [World.cell?,q2]
    simpa using hu
   ·have hj:=(M0 hx).1
    rw [List.length_take] at hj
    rw [Ma,if_pos (by omega),Mb] at hx
    have h5:∀ y∈xs.drop off,y.cells.length=k:=fun y hy=>o1 y (List.mem_of_mem_drop hy)
    rw [G72 h5,Hf9 o1,Ma,if_pos (by omega),Mb] at hu
    exact q4 _ u x hu (by simpa using hx)

theorem R78 {w:World} {S:Nat→Nat→Prop} {k k':Nat} {ys:List AV} {x:Value} (h:D w S (.list k' ys) x) (hk:k'=k∨ys=[]):Q41 w S k ys x:=by
 obtain⟨ao,cap,rfl,_⟩:=h.len
 obtain⟨_,h1,h2,cs,h3,h4,h5⟩:=h.vals
 have h0:∀ y∈ys,y.cells.length=k:=by
  rcases hk with rfl | rfl
  ·exact h1
  ·simp
 refine⟨h0,ao,cap,cs,rfl,fun e=>Kr (h2 e),h3.trans (J3 h0),h4,fun j u x hu hx=>?_⟩
 obtain⟨x',h6,hd⟩:=h5 j u hu
 rw [hx] at h6; cases h6
 exact hd

def He3 (L:Loc) (k:Nat) (s:AV) (ys:List AV):Prop:=
 (∃ kx,Qb s=some (kx,ys)∧(kx=k∨ys=[]))∨(∃ i ver n t,s=.vec i ver k n∧lk L i=some (.vec t k ver ys))∨(∃ i ver off n t zs,s=.vsl i ver k off n∧lk L i=some (.vec t k ver zs)∧ys=(zs.drop off).take n)
theorem He3.reads {w:World} {β:H5} {L:Loc} {k:Nat} {s:AV} {ys:List AV} {x:Value} (h0:Sat w β L) (h:He3 L k s ys) (hv:V w β L s x):Q41 w (Jj w β L) k ys x:=by
 rcases h with ⟨kx,h1,h2⟩ | ⟨i,ver,n,t,rfl,hi⟩ | ⟨i,ver,off,n,t,zs,rfl,hi,rfl⟩
 ·exact R78 (hv.Qb h1) h2
 ·obtain⟨rfl,h⟩:=J35 h0 hi hv
  have:=Q20 h0 hi (by simp) h
  simpa using this
 ·obtain⟨_,h1,h2⟩:=hv.inv_vsl hi
  exact Q20 h0 hi h1 h2
section ops
variable {P:Program} {N:Cfg} {o:Oper} {l:Fr} {L L':Loc} {u:AV} {α:Type}

end ops

/-! ### Typed elements -/
section typed
variable {P:Program} {o:Oper} {l:Fr} {L:Loc} {α:Type}
end typed
set_option linter.unusedVariables false

theorem Jx.mono {P:Program} {f:FuncId} {args:List AV} {L0:Loc} {R R':AV→Loc→Prop} (h:Jx P f args L0 R) (hr:∀ u L,R u L→R' u L):Jx P f args L0 R':=fun w β vs a b c=>
 (h w β vs a b c).mono fun e w' hh=>by
  obtain⟨v,r,β',L',h1,h2,h3,h4,h5⟩:=hh
  exact⟨v,r,β',L',h1,h2,h3,h4,hr _ _ h5⟩
theorem Pure.monoP {P:Program} {f:FuncId} {args:List AV} {R R':AV→Prop} (h:Pure P f args R) (hr:∀ u,R u→R' u):Pure P f args R':=Jx.mono h (fun u L hh=>⟨hh.1,hr u hh.2⟩)
def R7c:Loc→List Nat→Bool
 | [],_=>true
 | (i,_)::r,B=>B.any (Nat.beq i)&&R7c r B
theorem H18 {B:List Nat}:∀ {L0:Loc},R7c L0 B=true→∀ id,(lk L0 id).isSome=true→id∈B
 | [],_,id,h=>by simp [lk] at h
 | (i,o)::r,hb,id,h=>by
  simp only [R7c,Me,List.any_eq_true] at hb
  rw [Gm] at h
  by_cases e:i=id
  ·obtain⟨x,hx,h0⟩:=hb.1
   rw [← e,Ks h0]; exact hx
  ·rw [if_neg e] at h; exact H18 hb.2 id h

theorem Gbb {P:Program} {N:Cfg} {c:Code} {Q:Post} {l:Fr} {L:Loc} (s:Nat) {i ver k n E:Nat} {xs:List AV} (h1:look l s=.vec i ver k n) (hi:lk L i=some (.vec E k ver xs)) (h:n=xs.length→JC P N c Q l L):JC P N c Q l L:=fun n w0 β0 L0 a w β hs=>
 h (by
  have hv:=hs.frame.tmp s
  rw [h1] at hv
  exact(G58 hs.sat hi hv).1) n w0 β0 L0 a w β hs
theorem R21 {P:Program} {N:Cfg} {o:Oper} {ops:Array Oper} {rest:List Oper} {Q:Post} {l:Fr} {L:Loc} {α:Type} {x:Operand} {T E k k' d i ver n:Nat} {f:α→AV} {xs:List α} (hT:sliceB P T E k'=true) (ho:o.op=.call { callee:=.builtin .len,args:=#[x],argTypes:=#[T] }) (hx:ev l x=.vec i ver k n) (hi:lk L i=some (.vec E k ver (xs.map f)))
  (hk:xs.length≤maxLen→JL P N ops rest Q ((d,I64 (xs.length:Int))::l) L) (hg:o.guard=none) (hd:o.dst=some d) (hn:Nat.blt d N.n=true):JL P N ops (o::rest) Q l L:=by
 intro n w0 β0 L0 a w β hs
 have hv:=hs.frame.ev x
 rw [hx] at hv
 obtain⟨e,_,h⟩:=G58 hs.sat hi hv
 rw [Mg] at e
 subst e
 have hm:xs.length≤maxLen:=by
  rcases h with ⟨_,h2,_⟩ | ⟨b,cap,vs,_,_,h3,h4,_⟩
  ·rw [List.map_eq_nil_iff] at h2
   rw [h2]; exact Nat.zero_le _
  ·rw [Mg] at h3; exact Nat.le_trans h3 h4
 exact G0 (Yb1 hT ho hx hi) (hk hm) hg hd hn (by unfold G4f; rw [ho]) n w0 β0 L0 a w β hs

section calls
variable {P:Program} {o:Oper} {l:Fr} {L:Loc} {γ:Type}
theorem Q38 {f:FuncId} {vs:Array Value} {args:List AV} {L0:Loc} {u:γ→AV} {Lr:γ→Loc} {a:Act} {w:World} {β:H5} {K:Act→World→Prop} {Q:Exit→Act→World→Prop} (hc:Jx P f args L0 (fun r L'=>∃ p,r=u p∧L'=Lr p)) (h0:Sat w β L)
  (h4:Q64 L L0) (h6:closedIn (inL L0) L0=true) (h5:∀ p,H17 L L0 (Lr p)=true) (hl:vs.size=args.length)
  (hv:∀ (j:Nat) u v,args[j]? = some u→vs[j]? = some v→V w β L u v∧u.refs (inL L0)=true)
  (hK:∀ u' L' v w' β',(∃ p,u'=u p∧L'=Lr p++H76 L L0)→Sat w' β' L'→Step w β L w' β' L'→V w' β' L' u' v→K (a.put o.dst v) w') :
  Calls P f vs w fun
   | .returned v,w''=>K (a.put o.dst v) w''
   | .panicked chain,w''=>Q (.panic chain) a w''
   | .outgrown,_=>LetsOut Q:=by
 refine(Q2f hc h0 (fun id ob h=>h4.get h) (fun id ob h=>closedIn.get h6 h) hl hv (fun r L' hR id h=>by obtain⟨p,_,rfl⟩:=hR; exact H17.get (h5 p) h)).mono fun e w' h=>?_
 obtain⟨v,r,β',L',rfl,⟨p,rfl,rfl⟩,h1,h2,h3⟩:=h
 exact hK _ _ v w' _ ⟨p,rfl,rfl⟩ h1 h2 h3

theorem Q5c {f:FuncId} {xs:List Operand} {args:List AV} {ts:Array TypeId} {L0:Loc} {u:γ→AV} {Lr:γ→Loc} (ho:o.op=.call { callee:=.value (.func f),args:=xs.toArray,argTypes:=ts }) (hc:Jx P f args L0 (fun r L'=>∃ p,r=u p∧L'=Lr p)) (hB:H9 P f=true) (ha:Hc4 l L0 xs args)
  (h0:Q64 L L0) (h5:closedIn (inL L0) L0=true) (h3:∀ p,H17 L L0 (Lr p)=true):H2 P o l L (fun u' L''=>∃ p,u'=u p∧L''=Lr p++H76 L L0):=by
 intro a w β K Q h4 hf hK
 have hr:(execOp a.eval o).run P w=.ok (.enter f (xs.toArray.map a.eval)) w:=by
  simp [execOp,ho,resolve,Act.eval,Deferred.ofValue,invoke,H9.out hB]
 unfold Oper.wp
 rw [hr]
 refine Q38 hc h4 h0 h5 h3 (by simp [ha.length]) (fun j u v hu hv=>?_) hK
 simp only [Array.getElem?_map,List.getElem?_toArray,Option.map_eq_some_iff] at hv
 obtain⟨x,hx,rfl⟩:=hv
 obtain⟨h1,h2⟩:=ha.get hx hu
 refine⟨?_,h2⟩
 rcases h1 with h1 | h1
 ·rw [← h1]; exact hf.ev x
 ·rw [← h1]; exact(hf.ev x).plain

end calls

section rel
variable {α β σ R:Type} {r:R}
def Rel (r:R) (m:Option Prop) (d:Option R):Prop:=d=some r→∃ p:Prop,m=some p∧p
theorem J46 {e:R}:Rel r (some (e=r)) (some e):=fun h=>⟨_,rfl,M2 h⟩
theorem Hd8 {m:Option Prop}:Rel r m none:=fun h=>by cases h
theorem Hf0 {m:Option α} {k:α→Option Prop} {k':α→Option R} (h:∀ x,Rel r (k x) (k' x)):Rel r (bnd m k) (bnd m k'):=by
 cases m with
 | none=>exact Hd8
 | some x=>exact h x
theorem H56 {c:Bool} {x y:Option Prop} {x' y':Option R} (h1:c=true→Rel r x x') (h2:c=false→Rel r y y'):Rel r (bif c then x else y) (bif c then x' else y'):=by
 cases c with
 | true=>exact h1 rfl
 | false=>exact h2 rfl
theorem R9d {z:Int} {k:Int→Option Prop} {k':Int→Option R} (h:∀ x,Rel r (k x) (k' x)):Rel r (chk z k) (chk z k'):=by
 unfold chk; exact H56 (fun _=>h z) (fun _=>Hd8)
theorem Y9a {m:(α→Option Prop)→Option Prop} {m':(α→Option R)→Option R} {k:α→Option Prop} {k':α→Option R} (h:∀ K K',(∀ a,Rel r (K a) (K' a))→Rel r (m K) (m' K')) (hk:∀ a,Rel r (k a) (k' a)):Rel r (jp m k) (jp m' k'):=h k k' hk
theorem J47 {b:α→Nat→σ→(σ→Option Prop)→Option Prop} {b':α→Nat→σ→(σ→Option R)→Option R} {kx:σ→Option Prop} {kx':σ→Option R}
  (h:∀ x i s nx nx',(∀ s,Rel r (nx s) (nx' s))→Rel r (b x i s nx) (b' x i s nx')) (hk:∀ s,Rel r (kx s) (kx' s)):∀ {xs:List α} {i:Nat} {s:σ},Rel r (each b kx xs i s) (each b' kx' xs i s)
 | [],_,s=>hk s
 | x::_,i,s=>h x i s _ _ (fun _=>J47 h hk)
theorem J44 {c:α→Bool} {e e':β}:∀ (l:List α) (s:Unit),H00 (fun x (_:Unit) nx=>bif c x then lft (some e) else nx ()) (fun _=>some e') l s=some (bif l.any c then e else e')
 | [],_=>rfl
 | x::l,s=>by
  rw [H00]
  cases hc:c x with
  | true=>simp [lft,hc]
  | false=>simp [hc,J44 l]
theorem Y51 {c:α→Bool} {e e':R} {l:List α}:Rel r (Hbc (fun x (_:Unit) nx=>bif c x then lft (some (e=r)) else nx ()) (fun _=>some (e'=r)) l ()) (H00 (fun x (_:Unit) nx=>bif c x then lft (some e) else nx ()) (fun _=>some e') l ()):=fun h=>by
 refine⟨_,rfl,fun q hq=>?_⟩
 rw [J44] at h
 refine⟨_,J44 q (),?_⟩
 have h0:q.any c=l.any c:=by
  rw [Bool.eq_iff_iff,List.any_eq_true,List.any_eq_true]
  exact⟨fun⟨x,h1,h2⟩=>⟨x,hq.mem_iff.1 h1,h2⟩,fun⟨x,h1,h2⟩=>⟨x,hq.mem_iff.2 h1,h2⟩⟩
 rw [h0]
 have:=M2 h
 cases hc:l.any c <;> rw [hc] at this <;> exact this
end rel
set_option linter.unusedSimpArgs false

structure R84 (X:Nat→Prop) (W W':World):Prop where
 os:W'.os=W.os
 tape:W'.tape=W.tape
 output:W'.output=W.output∧W.drawn≤W'.drawn
 size:W.heap.size≤W'.heap.size
 keep:∀ b,b < W.heap.size→¬ X b→W'.heap[b]? = W.heap[b]?

structure H50 (κ:Type) where
 W0:World
 S:Nat→Nat→Prop
 lp:Nat
 J:κ→(Nat→Prop)→(Nat→Nat→Prop)→World→Prop
 nx:κ→List AV→κ→Prop
def H50.After {κ:Type} (E:H50 κ) (k':κ) (X:Nat→Prop) (T:Nat→Nat→Prop) (W:World) (e:Ending) (W':World):Prop:=
 e=.returned (.bool true)∧∃ X':Nat→Prop,E.J k' X' T W'∧R84 X W W'∧(∀ b,b < W.heap.size→(X' b ↔ X b))∧∀ b,X' b→b < W'.heap.size
structure H50.Ok {κ:Type} (E:H50 κ) (P:Program):Prop where
 abide:∀ k X T W W',E.J k X T W→R84 (fun b=>E.W0.heap.size≤b∧¬ X b) W W'→(∀ b i,T b i→G3b W' b i=G3b W b i)→E.J k X T W'
 round:∀ (m:Nat) (k k':κ) us X T (T':Nat→Nat→Prop) W (vs:Array Value),E.nx k us k'→E.J k X T W→(∀ b i,T b i→T' b i)→(∀ b i,T' b i→¬ T b i→E.W0.heap.size≤b∧¬ X b∧b < W.heap.size)→vs.size=us.length →
  (∀ (j:Nat) u v,us[j]? = some u→vs[j]? = some v→D W (fun b i=>E.S b i∨T' b i) u v)→YieldAt Fence.wide m P E.lp vs W (E.After k' X T' W)

def Ga1 (P:Program) (g:FuncId) (caps:List AV) {κ:Type} (k0:κ) (nx:κ→List AV→κ→Prop) (fin:κ→Prop):Prop:=
 ∀ (n:Nat) (E:H50 κ) (lb:Array Value) (X0:Nat→Prop),E.Ok P→E.nx=nx→lb.size=caps.length→(∀ (j:Nat) u v,caps[j]? = some u→lb[j]? = some v→D E.W0 E.S u v)→(∀ b i,E.S b i→b < E.W0.heap.size∧¬ X0 b)→(∀ b,X0 b→b < E.W0.heap.size) →
  E.J k0 X0 (fun _ _=>False) E.W0→CallsIn Fence.wide n P g (#[.func (.yield E.lp) #[] #[]]++lb) E.W0 fun e W'=>(∃ v,e=.returned v)∧∃ k X T,fin k∧E.J k X T W'
structure StI {κ:Type} (E:H50 κ) (N:Cfg) (a:Act) (w:World) (β:H5) (l:Fr) (L:Loc) (k:κ):Prop where
 sat:Sat w β L
 frame:Q6 a w β L l
 size:N.n≤a.tmps.size
 defers:a.defers=[]
 old:E.W0.heap.size≤w.heap.size
 own:∀ id b,(lk L id).isSome=true→β id=some b→E.W0.heap.size≤b
 gh:∃ X T,E.J k X T w∧(∀ b,X b→b < w.heap.size∧∀ i,β.hid b i)∧∀ b i,T b i→Jj w β L b i
 vis:∀ b i,b < E.W0.heap.size→¬ β.hid b i→E.S b i

structure Ge2 (κ:Type) where
 norm:Fr→Loc→κ→Prop
 ret:Fr→Loc→κ→Prop
 exit:Nat→Fr→Loc→κ→Prop
def Ge2.seq {κ:Type} (Q:Ge2 κ) (K:Fr→Loc→κ→Prop):Ge2 κ:=⟨K,Q.ret,Q.exit⟩
def Ge2.blk {κ:Type} (Q:Ge2 κ) (i:Nat):Ge2 κ:=⟨Q.norm,Q.ret,fun j l L k=>bif Nat.beq j i then Q.norm l L k else Q.exit j l L k⟩
def Ge2.out {κ:Type} (Q:Ge2 κ) (E:H50 κ) (N:Cfg):Exit→Act→World→Prop
 | .normal,a,w=>∃ β l L k,StI E N a w β l L k∧Q.norm l L k
 | .ret,a,w=>∃ β l L k,StI E N a w β l L k∧Q.ret l L k
 | .exit i,a,w=>∃ β l L k,StI E N a w β l L k∧Q.exit i l L k
 | _,_,_=>False
def JI {κ:Type} (E:H50 κ) (P:Program) (N:Cfg) (c:Code) (Q:Ge2 κ) (l:Fr) (L:Loc) (k:κ):Prop:=
 ∀ (n:Nat) a w β,StI E N a w β l L k→c.wpIn Fence.wide n P (Q.out E N) a w
def JIL {κ:Type} (E:H50 κ) (P:Program) (N:Cfg) (ops:Array Oper) (rest:List Oper) (Q:Ge2 κ) (l:Fr) (L:Loc) (k:κ):Prop:=
 ∀ (n:Nat) a w β,StI E N a w β l L k→wpListIn Fence.wide n P ops (Q.out E N) rest a w

theorem StI.step {κ:Type} {E:H50 κ} {P:Program} {N:Cfg} {a a':Act} {w w':World} {β β':H5} {l l':Fr} {L L':Loc} {k:κ} (hE:E.Ok P) (h:StI E N a w β l L k) (h0:Step w β L w' β' L') (h5:Sat w' β' L') (hf:Q6 a' w' β' L' l') (h6:a'.tmps.size=a.tmps.size) (hd:a'.defers=a.defers):StI E N a' w' β' l' L' k:=by
 have old':=h.old
 refine⟨h5,hf,by rw [h6]; exact h.size,by rw [hd]; exact h.defers,Nat.le_trans h.old h0.size,fun id b h1 h2=>?_,?_,fun b i hb hn=>h.vis b i hb fun hh=>hn ((h0.hid b i (Kq hb h.old)).2 hh)⟩
 ·rcases Ku b w.heap.size with hb | hb
  ·refine Classical.byContradiction fun hn=>?_
   have:∀ id0,(lk L id0).isSome=true→β id0≠some b:=fun id0 h3 h4=>hn (h.own id0 b h3 h4)
   exact(h0.far b hb this).2 id h1 h2
  ·omega
 ·obtain⟨X,T,hJ,hX,hT⟩:=h.gh
  refine⟨X,T,hE.abide k X T w w' hJ ⟨h0.os,h0.tape,h0.output,h0.size,fun b hb hn=>(h0.far b hb fun id h1 h2=>?_).1⟩ (fun b i h=>(h0.stab b i (hT b i h)).2),fun b hb=>⟨Kq (hX b hb).1 h0.size,fun i=>(h0.hid b i (hX b hb).1).2 ((hX b hb).2 i)⟩,fun b i h=>(h0.stab b i (hT b i h)).1⟩
  exact hn ⟨h.own id b h1 h2,fun hx=>h.sat.apart id b 0 h1 h2 ((hX b hx).2 0)⟩

theorem Sat.fits {B:List Nat} {w:World} {β:H5} {l l':Fr} {L L':Loc} (hs:Sat w β L) (h:Fits B l L l' L'):Sat w β L':=by
 have hd:=h.drop
 refine⟨hs.hid,fun id b hid hb=>hs.bnd id b (hd.some hid) hb,fun id b j hid hb=>hs.apart id b j (hd.some hid) hb,fun id id' b h1 h2=>hs.inj id id' b (hd.some h1) (hd.some h2),fun id o' h6=>?_⟩
 obtain⟨o,ho,hc⟩:=h.loc.get h6
 have h0:=hs.obj id o ho
 cases hc with
 | same=>exact h0
 | map=>
  obtain⟨b,h1,h2⟩:=h0
  exact⟨b,h1,h2.mono rfl fun h=>h.mono fun b i hs=>⟨hd.stab hs,rfl⟩⟩
 | vec=>
  obtain⟨h7,h0⟩:=h0
  refine⟨h7,?_⟩
  rcases h0 with h0 | ⟨b,h1,vs,h2,h3,h4⟩
  ·exact .inl h0
  ·exact .inr ⟨b,h1,vs,h2,h3,fun j u v hu hv=>(h4 j u v hu hv).mono fun b i hs=>⟨hd.stab hs,rfl⟩⟩
 | pin=>
  obtain⟨h1,vs,h2,h3,h4⟩:=h0
  exact⟨h1,vs,h2,h3,fun j u v hu hv=>(h4 j u v hu hv).mono fun b i hs=>⟨hd.stab hs,rfl⟩⟩
 | iter hm=>
  obtain⟨b,h1,bm,h2,h4⟩:=h0
  exact⟨b,h1,bm,h2.drop hd hm,h4⟩
 | box hl hc=>
  obtain⟨b,h1,vs,h2,h3,h4⟩:=h0
  refine⟨b,h1,vs,h2,h3.trans hl,fun j u' v h5 hv=>?_⟩
  rename_i cs cs'
  have hj:j < cs.length:=by
   rcases Ku j cs'.length with h | h
   ·omega
   ·simp [List.getElem?_eq_none h] at h5
  exact(h4 j cs[j] v (by simp [hj]) hv).conv hd (hc j _ _ (by simp [hj]) h5)
theorem StI.fits {κ:Type} {E:H50 κ} {N:Cfg} {a:Act} {w:World} {β:H5} {l l':Fr} {L L':Loc} {k:κ} (h:StI E N a w β l L k) (h0:Fits N.base l L l' L'):StI E N a w β l' L' k:=
 ⟨h.sat.fits h0,⟨fun t=>(h.frame.tmp t).conv h0.drop (h0.fr.get t)⟩,h.size,h.defers,h.old,fun id b h1 h2=>h.own id b (h0.drop.some h1) h2,(by obtain⟨X,T,h1,h2,h3⟩:=h.gh; exact⟨X,T,h1,h2,fun b i h=>h0.drop.stab (h3 b i h)⟩),h.vis⟩

section code
variable {κ:Type} {E:H50 κ} {P:Program} {N:Cfg} {Q:Ge2 κ} {l:Fr} {L:Loc} {k:κ}

theorem G5e {x y:Code} (h:∀ K:Fr→Loc→κ→Prop,(∀ l L k,JI E P N y Q l L k→K l L k)→JI E P N x (Q.seq K) l L k):JI E P N (.seq x y) Q l L k:=
 fun n a w β hs=>wpIn_seq (Code.wpIn_mono (fun e a' w' q=>by
  cases e with
  | normal=>obtain⟨β',l',L',k',h0,hq⟩:=q; exact hq n a' w' β' h0
  | exit i=>exact q
  | ret=>exact q
  | goto l=>exact q
  | panic c=>exact q
  | outgrown=>exact q) (h (fun l L k=>JI E P N y Q l L k) (fun _ _ _ h=>h) n a w β hs))
theorem Hff (h:Q.norm l L k):JI E P N .skip Q l L k:=fun _ _ _ β hs=>wpIn_skip ⟨β,l,L,k,hs,h⟩
theorem Qca {i:Nat} (h:Q.exit i l L k):JI E P N (.exit i) Q l L k:=fun _ _ _ β hs=>wpIn_exit ⟨β,l,L,k,hs,h⟩
theorem Rb7 {c:Operand} {x y:Code} {b:Bool} (hc:ev l c=.sc (.bool b)) (ht:b=true→JI E P N x Q l L k) (hf:b=false→JI E P N y Q l L k):JI E P N (.cond c x y) Q l L k:=
 fun n a w β hs=>by
  have hv:=hs.frame.ev c
  rw [hc] at hv
  exact wpIn_cond_split hv.inv_sc (fun e=>ht e n a w β hs) (fun e=>hf e n a w β hs)
theorem H8e {i:Nat} {c:Code} (h:JI E P N c (Q.blk i) l L k):JI E P N (.block i c) Q l L k:=
 fun n a w β hs=>wpIn_block (Code.wpIn_mono (fun e a' w' q=>by
  cases e with
  | normal=>exact q
  | exit j=>
   obtain⟨β',l',L',k',h0,hq⟩:=q
   simp only [Exit.inBlock]
   by_cases e:j=i
   ·subst e
    simp only [if_true]
    exact⟨β',l',L',k',h0,by simpa [Ge2.blk] using hq⟩
   ·have hb:Nat.beq j i=false:=by
     cases hb:Nat.beq j i with
     | false=>rfl
     | true=>exact absurd (Ks hb) e
    simp only [if_neg e]
    exact⟨β',l',L',k',h0,by simpa [Ge2.blk,e] using hq⟩
  | ret=>exact q
  | goto l=>exact q
  | panic c=>exact q
  | outgrown=>exact q) (h n a w β hs))
theorem G33 {id:Nat} {ops:List Oper} (h:JIL E P N ops.toArray ops Q l L k):JI E P N (.region id ops.toArray false) Q l L k:=
 fun n a w β hs=>wpIn_region_lit (h n a w β hs)
theorem G5f {ops:Array Oper} (h:Q.norm l L k):JIL E P N ops [] Q l L k:=fun _ _ _ β hs=>⟨β,l,L,k,hs,h⟩

theorem Jd6 {body:Code} {X:Type} (I:X→Prop) (F:X→Fr) (M:X→Loc) (kf:X→κ) (μ:X→Nat) (x0:X) (h0:I x0) (hf:Fits N.base l L (F x0) (M x0)) (hk:k=kf x0)
  (hr:∀ x,I x→∀ K:Fr→Loc→κ→Prop,(∀ l L x',I x'→μ x' < μ x→Fits N.base l L (F x') (M x')→K l L (kf x'))→JI E P N body (Q.seq K) (F x) (M x) (kf x)):JI E P N (.loop body) Q l L k:=by
 subst hk
 intro n a w β hs b kk cs h8 h6 h5
 have key:∀ m x a w β,μ x=m→I x→StI E N a w β (F x) (M x) (kf x) →
   ∃ e a' w',Q.out E N e a' w'∧ArrivesIn (Machine.fenced P Fence.wide) P (lone (b.atR a (.code body::.inLoop body::kk)) cs w) b kk cs e a' w':=by
  intro m
  induction m using Nat.strongRecOn with
  | _ m ih=>
   intro x a w β hn hI hs
   obtain⟨e,a₁,w₁,hq,h4⟩:=hr x hI (fun l L q=>∃ x',I x'∧μ x' < μ x∧Fits N.base l L (F x') (M x')∧q=kf x') (fun l L x' h1 h2 h3=>⟨x',h1,h2,h3,rfl⟩) n a w β hs b (.inLoop body::kk) cs h8 h6 h5
   cases e with
   | normal=>
    obtain⟨β',l',L',q,h9,x',a0,a1,h7,rfl⟩:=hq
    obtain⟨e₂,a₂,w₂,hq₂,harr₂⟩:=ih (μ x') (hn ▸ a1) x' a₁ w₁ β' rfl a0 (h9.fits h7)
    exact⟨e₂,a₂,w₂,hq₂,.of_steps (StepsIn.trans h4 (.one (fenced_calm h6 h5 rfl) stepR_inLoop)) harr₂⟩
   | exit id=>exact⟨.exit id,a₁,w₁,hq,.pass (x:=.inLoop body) rfl (fun _ _=>.inl (by simp)) h4⟩
   | goto l=>exact hq.elim
   | ret=>exact⟨.ret,a₁,w₁,hq,.pass (x:=.inLoop body) rfl (fun _ _=>.inl (by simp)) h4⟩
   | panic ch=>exact hq.elim
   | outgrown=>exact hq.elim
 obtain⟨e,a',w',hq,h4⟩:=key _ x0 a w β rfl h0 (hs.fits hf)
 exact⟨e,a',w',hq,.of_steps (.one (fenced_calm h6 h5 rfl) stepR_loop) h4⟩
end code

section ops
variable {κ:Type} {E:H50 κ} {P:Program} {N:Cfg} {Q:Ge2 κ} {l:Fr} {L L':Loc} {k:κ} {ops:Array Oper} {o:Oper} {rest:List Oper} {u:AV}

theorem Yt {d:Nat} (hE:E.Ok P) (h:H2 P o l L (Is u L')) (hk:JIL E P N ops rest Q ((d,u)::l) L' k) (hg:o.guard=none) (hd:o.dst=some d) (hn:Nat.blt d N.n=true) (h2:G4f o=true):JIL E P N ops (o::rest) Q l L k:=by
 intro n a w β hs
 refine Gc3 (ro:=none) hg h2 fun K hK=>h a w β K _ hs.sat hs.frame ?_
 intro u' L'' v w' β' hr h1 h0 hv
 obtain⟨rfl,rfl⟩:=hr
 have h3:d < a.tmps.size:=Kq (by simpa [Nat.blt_eq] using hn) hs.size
 rw [hd]
 exact hK _ _ (hk n _ w' β' (hs.step hE h0 h1 ((hs.frame.step h0).put h3 hv) (Act.put_size ..) (Act.put_defers' ..)))
theorem Y6b (hE:E.Ok P) (h:H2 P o l L (Is u L')) (hk:JIL E P N ops rest Q l L' k) (hg:o.guard=none) (hd:o.dst=none) (h2:G4f o=true):JIL E P N ops (o::rest) Q l L k:=by
 intro n a w β hs
 refine Gc3 (ro:=none) hg h2 fun K hK=>h a w β K _ hs.sat hs.frame ?_
 intro u' L'' v w' β' hr h1 h0 hv
 obtain⟨rfl,rfl⟩:=hr
 rw [hd]
 exact hK _ _ (hk n _ w' β' (hs.step hE h0 h1 (hs.frame.step h0) rfl rfl))

theorem StI.round {L:Loc} {w w':World} {β:H5} {X X':Nat→Prop} {T:Nat→Nat→Prop} (h0:Sat w β L) (hX:∀ b,X b→b < w.heap.size∧∀ i,¬ T b i→β.hid b i) (notX:∀ id b,(lk L id).isSome=true→β id=some b→¬ X b) (ht:R84 X w w')
  (hT:∀ b i,T b i→X b→G3b w' b i=G3b w b i) (h4:∀ b,b < w.heap.size→(X' b ↔ X b)) (h3:∀ b,X' b→b < w'.heap.size) :
  let β':H5:=⟨β.at_,fun b i=>β.hid b i∨(w.heap.size≤b∧b < w'.heap.size)⟩
  Sat w' β' L∧H81 w β L w' β' L∧∀ b,X' b→b < w'.heap.size∧∀ i,¬ T b i→β'.hid b i:=by
 intro β'
 have same:∀ id b,(lk L id).isSome=true→β id=some b→w'.heap[b]? = w.heap[b]? := fun id b h1 h2=>ht.keep b (h0.bnd id b h1 h2) (notX id b h1 h2)
 have stab:∀ b i,Jj w β L b i→Jj w' β' L b i:=fun b i hs=>⟨Kq hs.lt ht.size,fun h=>h.elim hs.seen (fun h=>by have:=hs.lt; omega),hs.kept⟩
 have cell:∀ b i,Jj w β L b i→G3b w' b i=G3b w b i:=fun b i hs=>by
  by_cases hx:X b
  ·by_cases h:T b i
   ·exact hT b i h hx
   ·exact(hs.seen ((hX b hx).2 i h)).elim
  ·exact Jw (w:=w) (ht.keep b hs.lt hx)
 have stw:H81 w β L w' β' L:=⟨fun b i hs=>⟨stab b i hs,cell b i hs⟩,fun _ _ cs h=>⟨rfl,cs,h⟩,fun _ _ es h=>⟨rfl,es,h⟩,fun _ _ n es h=>⟨rfl,n,es,h⟩,
  fun id _ _ ver xs h=>⟨ver,xs,h,M5,fun _=>⟨rfl,rfl,fun b hb=>G11 (same id b (by rw [h]; rfl) hb)⟩⟩,
  fun id _ _ ver hw h=>⟨ver,hw,h,M5,fun _=>⟨rfl,rfl,fun b hb=>same id b (by rw [h]; rfl) hb⟩⟩⟩
 refine⟨⟨fun b i h=>h.elim (fun h=>Kq (h0.hid b i h) ht.size) (fun h=>h.2),fun id b h1 h2=>Kq (h0.bnd id b h1 h2) ht.size,fun id b j h1 h2 h=>h.elim (h0.apart id b j h1 h2) (fun h=>by have:=h0.bnd id b h1 h2; omega),h0.inj,
  fun id o ho=>(h0.obj id o ho).stepW stw (fun b hb=>same id b (by rw [ho]; rfl) hb)⟩,stw,fun b hb=>⟨h3 b hb,fun i hn=>?_⟩⟩
 rcases Ku b w.heap.size with h | h
 ·exact .inl ((hX b ((h4 b h).1 hb)).2 i hn)
 ·exact .inr ⟨h,h3 b hb⟩

def J64 (l:Fr):List Operand→List AV→Prop
 | [],[]=>True
 | x::r,u::s=>ev l x=u∧u.isData=true∧J64 l r s
 | _,_=>False
theorem J64.length {l:Fr}:∀ {xs:List Operand} {us:List AV},J64 l xs us→xs.length=us.length
 | [],[],_=>rfl
 | _::_,_::_,h=>by simp [J64.length h.2.2]
 | [],_::_,h=>h.elim
 | _::_,[],h=>h.elim
theorem J64.get {l:Fr}:∀ {xs:List Operand} {us:List AV},J64 l xs us→∀ {j:Nat} {x:Operand} {u:AV},xs[j]? = some x→us[j]? = some u→ev l x=u∧u.isData=true
 | _::_,_::_,h,0,x,u,hx,hu=>by simp at hx hu; subst hx; subst hu; exact⟨h.1,h.2.1⟩
 | _::_,_::_,h,j+1,x,u,hx,hu=>J64.get h.2.2 (by simpa using hx) (by simpa using hu)
 | [],[],_,j,x,u,hx,_=>by simp at hx
 | [],_::_,h,_,_,_,_,_=>h.elim
 | _::_,[],h,_,_,_,_,_=>h.elim

theorem J8a {k':κ} {d:Nat} {x:Operand} {xs:List Operand} {us:List AV} {ts:Array TypeId} (hE:E.Ok P) (ho:o.op=.call { callee:=.value x,args:=xs.toArray,argTypes:=ts }) (hx:ev l x=.sc (.func (.yield E.lp) #[] #[]))
  (ha:J64 l xs us) (hy:E.nx k us k') (hk:JIL E P N ops rest Q ((d,BL true)::l) L k') (hg:o.guard=none) (hd:o.dst=some d) (hn:Nat.blt d N.n=true):JIL E P N ops (o::rest) Q l L k:=by
 intro n a w β hs
 obtain⟨X,T,hJ,hX,hT⟩:=hs.gh
 have h7:d < a.tmps.size:=Kq (by simpa [Nat.blt_eq] using hn) hs.size
 have hv:=hs.frame.ev x
 rw [hx] at hv
 have h8:=hv.inv_sc
 obtain⟨fn,tmps,assign,body,hr,hR⟩:=hE.round (n - 1) k k' us X T (fun b i=>T b i∨(E.W0.heap.size≤b∧Jj w β L b i)) w (xs.toArray.map a.eval) hy hJ (fun b i h=>.inl h) (fun b i h hn=>h.elim (fun h=>(hn h).elim) fun h=>⟨h.1,fun hx=>h.2.seen ((hX b hx).2 i),h.2.lt⟩) (by simp [ha.length]) (fun j u v hu hv=>by
  simp only [Array.getElem?_map,List.getElem?_toArray,Option.map_eq_some_iff] at hv
  obtain⟨y,hy,rfl⟩:=hv
  obtain⟨h1,h2⟩:=ha.get hy hu
  have:=hs.frame.ev y
  rw [h1] at this
  exact(this.toD h2).mono fun b i h4=>⟨(Ku b E.W0.heap.size).elim (fun h=>.inl (hs.vis b i h h4.seen)) (fun h=>.inr (.inr ⟨h,h4⟩)),rfl⟩)
 refine wpListIn_plain hg fun K hK=>?_
 refine⟨fun _ _=>trivial,?_⟩
 have h5:(execOp a.eval o).run P w=.ok (.round E.lp fn tmps assign body) w:=by
  have h0:(execOp a.eval o).run P w=(Instr.yield E.lp (xs.toArray.map a.eval)).run P w:=by
   simp [execOp,ho,resolve,h8,Deferred.ofValue,invoke]
   done
  rw [h0,hr]
 rw [show o.semAt Fence.wide.round a.eval=execOp a.eval o from rfl,h5,Oper.uponIn_round]
 refine⟨fun e=>(by cases e),hR.mono fun e w' h=>?_⟩
 obtain⟨rfl,X',h9,ht,a0,h6⟩:=h
 have a1:∀ b i,(T b i∨(E.W0.heap.size≤b∧Jj w β L b i))→Jj w β L b i:=fun b i h=>h.elim (hT b i) (·.2)
 obtain⟨h1,h2,h3⟩:=StI.round (T:=fun _ _=>False) hs.sat (fun b h=>⟨(hX b h).1,fun i _=>(hX b h).2 i⟩) (fun id b h1 h2 hx=>hs.sat.apart id b 0 h1 h2 ((hX b hx).2 0)) ht (fun _ _ h=>h.elim) a0 h6
 rw [hd]
 refine hK _ _ (hk n _ w' _ ⟨h1,(hs.frame.stepW h2).put h7 .sc,by rw [Act.put_size]; exact hs.size,by rw [Act.put_defers']; exact hs.defers,Nat.le_trans hs.old ht.size,hs.own,⟨X',_,h9,fun b h=>⟨(h3 b h).1,fun i=>(h3 b h).2 i id⟩,fun b i h=>(h2.stab b i (a1 b i h)).1⟩,fun b i hb hn=>hs.vis b i hb fun h=>hn (.inl h)⟩)

theorem J62 {g:FuncId} {fn:Func} {c:Code} {caps:List AV} {κ:Type} {k0:κ} {nx:κ→List AV→κ→Prop} {fi:κ→Prop} (hf:P.funcs[g]? = some fn) (hb:fn.body=some c) (h2:fn.results=#[])
  (h:∀ E:H50 κ,E.Ok P→E.nx=nx→JI E P ⟨fn.ntmps,[],none⟩ c ⟨fun _ _ k=>fi k,fun _ _ k=>fi k,fun _ _ _ _=>False⟩ (Gec 0 (.sc (.func (.yield E.lp) #[] #[])::caps)) [] k0):Ga1 P g caps k0 nx fi:=by
 intro n E lb X0 hE h4 hl h3 hS h0 hJ
 have h5:(#[Value.func (.yield E.lp) #[] #[]]++lb).size=(AV.sc (.func (.yield E.lp) #[] #[])::caps).length:=by simp [hl]; omega
 refine callsIn_of_wp hf hb trivial (Code.wpIn_mono (fun e a' w' q=>?_) (h E hE h4 n _ E.W0 ⟨fun _=>none,fun b i=>¬ E.S b i∧b < E.W0.heap.size⟩ ⟨⟨fun b i h=>h.2,fun id b h=>by simp [lk] at h,fun id b j h=>by simp [lk] at h,fun id id' b h=>by simp [lk] at h,fun id o h=>by simp [lk] at h⟩,⟨fun t=>?_⟩,?_,rfl,M5,fun id b h=>by simp [lk] at h,⟨X0,_,hJ,fun b hb=>⟨h0 b hb,fun i=>⟨fun hs=>(hS b i hs).2 hb,h0 b hb⟩⟩,fun _ _ h=>h.elim⟩,fun b i hb hn=>Classical.byContradiction fun h=>hn ⟨h,hb⟩⟩))
 ·have fin:(∃ β' l' L' k',StI E ⟨fn.ntmps,[],none⟩ a' w' β' l' L' k'∧fi k')→a'.defers=[]∧∃ v,(results fn a'.tmps).run P w'=.ok v w'∧((∃ v',Ending.returned v=.returned v')∧∃ k X T,fi k∧E.J k X T w'):=by
   rintro⟨β',l',L',k',hs,h6⟩
   obtain⟨X,T,hX,_⟩:=hs.gh
   exact⟨hs.defers,_,results_none h2 _ _ _,⟨_,rfl⟩,k',X,T,h6,hX⟩
  cases e with
  | normal=>exact fin q
  | ret=>exact fin q
  | exit i=>obtain⟨_,_,_,_,_,hq⟩:=q; exact hq.elim
  | goto l=>exact q.elim
  | panic c=>exact q.elim
  | outgrown=>exact q.elim
 ·rw [Hdb]
  simp only [Nat.zero_le,if_true,Nat.sub_zero]
  cases hu:(AV.sc (.func (.yield E.lp) #[] #[])::caps)[t]? with
  | none=>exact .junk
  | some u=>
   have ht:t < (#[Value.func (.yield E.lp) #[] #[]]++lb).size:=by rw [h5]; exact(M0 hu).1
   have e:((#[Value.func (.yield E.lp) #[] #[]]++lb)++Array.replicate (fn.ntmps - (#[Value.func (.yield E.lp) #[] #[]]++lb).size) undef).getD t undef=(#[Value.func (.yield E.lp) #[] #[]]++lb)[t]:=by
    rw [Array.getD_eq_getD_getElem?,Array.getElem?_append_left ht,Array.getElem?_eq_getElem ht]; rfl
   rw [e]
   cases t with
   | zero=>simp at hu; subst hu; simp; exact .sc
   | succ t=>
    have h1:caps[t]? = some u:=by simpa using hu
    have h7:t < lb.size:=by rw [hl]; exact(M0 h1).1
    have hv:=h3 t u lb[t] h1 (by simp [h7])
    have ev:(#[Value.func (.yield E.lp) #[] #[]]++lb)[t+1]=lb[t]:=by simp [Array.getElem_append]
    rw [ev]
    exact .data (hv.mono fun b i hs=>⟨⟨(hS b i hs).1,fun h=>h.1 hs,fun id o h=>by simp [lk] at h⟩,rfl⟩)
 ·simp; omega
end ops

section code
variable {κ:Type} {E:H50 κ} {P:Program} {N:Cfg} {Q:Ge2 κ} {l:Fr} {L:Loc} {k:κ}
theorem Q51 {c:Operand} {x y:Code} (hc:ev l c=.sc (.bool true)) (ht:JI E P N x Q l L k):JI E P N (.cond c x y) Q l L k:=Rb7 hc (fun _=>ht) (fun e=>by cases e)
theorem H8d {c:Operand} {x y:Code} (hc:ev l c=.sc (.bool false)) (hf:JI E P N y Q l L k):JI E P N (.cond c x y) Q l L k:=Rb7 hc (fun e=>by cases e) (fun _=>hf)
end code

def J45:List Tmp→List AV→Fr→Fr
 | p::ps,u::us,l=>J45 ps us ((p,u)::l)
 | _,_,l=>l
theorem Q6.round {w:World} {β:H5} {L:Loc}:∀ {ps:List Tmp} {us:List AV} {vs:List Value} {tmps:Array Value} {l:Fr},ps.length=us.length→vs.length=us.length→(∀ p∈ps,p < tmps.size)→Q6 { tmps:=tmps,defers:=[] } w β L l →
  (∀ (j:Nat) u v,us[j]? = some u→vs[j]? = some v→V w β L u v)→Q6 { tmps:=(ps.zip vs).foldl (fun t (x:Tmp×Value)=>t.setIfInBounds x.1 x.2) tmps,defers:=[] } w β L (J45 ps us l)
 | [],[],[],_,_,_,_,_,h,_=>h
 | p::ps,u::us,v::vs,tmps,l,h1,h2,h3,h,hv=>by
  have hp:=h.put (d:=p) (u:=u) (v:=v) (h3 p (List.mem_cons_self ..)) (hv 0 u v rfl rfl)
  exact Q6.round (ps:=ps) (us:=us) (vs:=vs) (by simpa using h1) (by simpa using h2) (fun q hq=>by simpa using h3 q (List.mem_cons_of_mem _ hq)) hp (fun j u' v' hu h0=>hv (j+1) u' v' (by simpa using hu) (by simpa using h0))
 | [],_::_,_,_,_,h,_,_,_,_=>by simp at h
 | _::_,[],_,_,_,h,_,_,_,_=>by simp at h
 | _,[],_::_,_,_,_,h,_,_,_=>by simp at h
 | _,_::_,[],_,_,_,h,_,_,_=>by simp at h
theorem Rfa {ps:List Tmp}:∀ {vs:List Value} {tmps:Array Value},((ps.zip vs).foldl (fun t (x:Tmp×Value)=>t.setIfInBounds x.1 x.2) tmps).size=tmps.size:=by
 induction ps with
 | nil=>intro vs tmps; simp
 | cons p ps ih=>
  intro vs tmps
  cases vs with
  | nil=>simp
  | cons v vs=>rw [List.zip_cons_cons,List.foldl_cons,ih]; simp

theorem Step.thenW {w0 W W':World} {β0 β β':H5} {L0 L L':Loc} (h:Step w0 β0 L0 W β L) (k:H81 W β L W' β' L') (h1:W'.os=W.os) (h2:W'.tape=W.tape) (h3:W'.output=W.output∧W.drawn≤W'.drawn) (h4:W.heap.size≤W'.heap.size)
  (hid:∀ b i,b < w0.heap.size→(β'.hid b i ↔ β.hid b i)) (far:∀ b,b < w0.heap.size→(∀ id,(lk L id).isSome=true→β id≠some b)→W'.heap[b]? = W.heap[b]? ∧ ∀ id,(lk L' id).isSome=true→β' id≠some b):Step w0 β0 L0 W' β' L' where
 os:=h1.trans h.os
 tape:=h2.trans h.tape
 output:=⟨h3.1.trans h.output.1,Nat.le_trans h.output.2 h3.2⟩
 size:=Nat.le_trans h.size h4
 hid:=fun b i hb=>(hid b i hb).trans (h.hid b i hb)
 stab:=fun b i hs=>by
  obtain⟨a1,a2⟩:=h.stab b i hs
  obtain⟨k1,k2⟩:=k.stab b i a1
  exact⟨k1,k2.trans a2⟩
 far:=fun b hb hf=>by
  obtain⟨a1,a2⟩:=h.far b hb hf
  obtain⟨k1,k2⟩:=far b hb a2
  exact⟨k1.trans a1,k2⟩
 box:=fun id t cs hi=>by
  obtain⟨h1,cs',h2⟩:=h.box id t cs hi
  obtain⟨k1,k2⟩:=k.box id t cs' h2
  exact⟨k1.trans h1,k2⟩
 map:=fun id t es hi=>by
  obtain⟨h1,es',h2⟩:=h.map id t es hi
  obtain⟨k1,k2⟩:=k.map id t es' h2
  exact⟨k1.trans h1,k2⟩
 iter:=fun id m n es hi=>by
  obtain⟨h1,n',es',h2⟩:=h.iter id m n es hi
  obtain⟨k1,k2⟩:=k.iter id m n' es' h2
  exact⟨k1.trans h1,k2⟩
 vec:=fun id t kk ver xs hi=>by
  obtain⟨v1,xs1,h1,h2,h3⟩:=h.vec id t kk ver xs hi
  obtain⟨v2,xs2,k1,k2,k3⟩:=k.vec id t kk v1 xs1 h1
  refine⟨v2,xs2,k1,Nat.le_trans h2 k2,fun e=>?_⟩
  obtain⟨a1,a2,a3⟩:=h3 (by omega)
  obtain⟨b1,b2,b3⟩:=k3 (by omega)
  exact⟨b1.trans a1,b2.trans a2,fun b hb=>(b3 b (a2.trans hb)).trans (a3 b hb)⟩
 spare:=fun id t kk ver hw hi=>by
  obtain⟨v1,hw1,h1,h2,h3⟩:=h.spare id t kk ver hw hi
  obtain⟨v2,h0,k1,k2,k3⟩:=k.spare id t kk v1 hw1 h1
  refine⟨v2,h0,k1,Nat.le_trans h2 k2,fun e=>?_⟩
  obtain⟨a1,a2,a3⟩:=h3 (by omega)
  obtain⟨b1,b2,b3⟩:=k3 (by omega)
  exact⟨b1.trans a1,b2.trans a2,fun b hb=>(b3 b (a2.trans hb)).trans (a3 b hb)⟩

theorem Step.drop {w0 w:World} {β0 β:H5} {L0 L L':Loc} {N:Cfg} {a:Act} {l l':Fr} (h:Step w0 β0 L0 w β L) (h1:Sat w β L) (h0:∀ id,(lk L0 id).isSome=true→id∈N.base) (hf:Fits N.base l L l' L') (ha:N.n≤a.tmps.size) (hd:a.defers=[]) (h2:Q6 a w β L l):Step w0 β0 L0 w β L':=
 (Rf.fits (N:=N) (a:=a) ⟨h1,h,h2,ha,h0,by rw [hd]; exact .nil⟩ hf).step

def J25:Loc→Bool
 | []=>true
 | (_,.spare _ _ _ hw)::r=>Nat.beq hw 0&&J25 r
 | _::r=>J25 r
theorem Q84:∀ {L:Loc},J25 L=true→∀ {id:Nat} {o:Jh},lk L id=some o→∀ i,¬ o.keeps i
 | (j,x)::r,h,id,o,ho,i=>by
  rw [Gm] at ho
  split at ho
  ·cases ho
   cases x with
   | spare t k ver hw=>
    simp only [J25,Me] at h
    have:=Ks h.1
    subst this
    simp [Jh.keeps]
   | _=>simp [Jh.keeps]
  ·refine Q84 (L:=r) ?_ ho i
   cases x <;> simp [J25] at h ⊢ <;> first | exact h | exact h.2
 | [],_,id,o,ho,_=>by simp [lk] at ho

structure Between (P:Program) (N:Cfg) (w0:World) (β0:H5) (L0:Loc) (tmps:Array Value) (ds:List Deferred) (l1:Fr) (S:Nat→Nat→Prop) (n0 lp D:Nat) (rec:Loop) (L:Loc) (X:Nat→Prop) (T:Nat→Nat→Prop) (W:World) (β:H5):Prop where
 sat:Sat W β L
 step:Step w0 β0 L0 W β L
 frame:Q6 { tmps:=tmps,defers:=[] } W β L l1
 obj:∀ id b,(lk L id).isSome=true→β id=some b→X b∧b≠lp∧b≠D
 hid:∀ b,n0≤b→b < W.heap.size→¬ X b→∀ i,¬ T b i→β.hid b i
 lt:∀ b,X b→b < W.heap.size
 loop:W.heap[lp]? = some (.loop rec)
 mark:W.heap[D]? = some (.deferred (some []))
 old:n0≤W.heap.size
 data:∀ b i,S b i→Jj W β L b i
 tdata:∀ b i,T b i→n0≤b∧Jj W β L b i
 defs:H8f none w0.heap.size W β L ds
 deflt:∀ d∈ds,∀ D',d={ target:=.collected D',args:=#[] }→D' < n0
theorem H8f.turned {ro:Option Nat} {B n0:Nat} {w w':World} {β β':H5} {L:Loc} {ds:List Deferred} (h:H8f ro B w β L ds) (h0:∀ d∈ds,∀ D',d={ target:=.collected D',args:=#[] }→D' < n0) (hk:∀ D,D < n0→w.heap[D]? = some (.deferred (some []))→w'.heap[D]? = w.heap[D]?) (hb:∀ id,β' id=β id):H8f ro B w' β' L ds:=
 ⟨h.top,h.nodup,fun d hd=>by
  obtain⟨D,e,h1,h2,h3⟩:=h.each d hd
  exact⟨D,e,h1,(hk D (h0 d hd D e) h2).trans h2,fun id hi he=>h3 id hi ((hb id).symm.trans he)⟩⟩

def Mid (P:Program) (N:Cfg) (body:Code) (Q:Post) (l:Fr) (L:Loc):Prop:=
 ∃ l' L',(∀ w0 β0 L0 a w β,Rf N w0 β0 L0 a w β l L→∃ β',Rf N w0 β0 L0 a w β' l' L')∧JC P ⟨N.n,L'.map (·.1),N.ro⟩ body Q l' L'
theorem R87 {P:Program} {N:Cfg} {body:Code} {Q:Post} {l:Fr} {L:Loc} (h:JC P ⟨N.n,L.map (·.1),N.ro⟩ body Q l L):Mid P N body Q l L:=⟨l,L,fun _ _ _ _ _ β hs=>⟨β,hs⟩,h⟩
theorem R1f {P:Program} {N:Cfg} {body:Code} {Q:Post} {l l':Fr} {L L':Loc} (hc:∀ w0 β0 L0 a w β,Rf N w0 β0 L0 a w β l L→∃ β',Rf N w0 β0 L0 a w β' l' L') (h:Mid P N body Q l' L'):Mid P N body Q l L:=by
 obtain⟨l2,L2,h1,h2⟩:=h
 refine⟨l2,L2,fun w0 β0 L0 a w β hs=>?_,h2⟩
 obtain⟨β',h0⟩:=hc w0 β0 L0 a w β hs
 exact h1 w0 β0 L0 a w β' h0

theorem R88 {P:Program} {N:Cfg} {body:Code} {Q:Post} {l:Fr} {L:Loc} (l':Fr) (L':Loc) (i:Nat) {t:TypeId} {cs:List AV} (hi:lk L i=some (.box t cs)) (hd:Qs (fun _=>false) cs=true)
  (h0:lk L' i=none) (hl:Ge4 (fun j=>(lk L' j).isSome) L L') (hb:allIn L' N.base=true) (hf:R8c i cs (fun j=>(lk L' j).isSome) l l') (hk:Mid P N body Q l' L'):Mid P N body Q l L:=
 R1f (fun _ _ _ _ _ β hs=>⟨β,hs.freeze i hi hd h0 hl hb hf⟩) hk
theorem Between.more {P:Program} {N:Cfg} {w0:World} {β0:H5} {L0:Loc} {tmps:Array Value} {ds:List Deferred} {l1:Fr} {S:Nat→Nat→Prop} {n0 lp D:Nat} {rec:Loop} {L:Loc} {X:Nat→Prop} {T T':Nat→Nat→Prop} {W:World} {β:H5}
  (h:Between P N w0 β0 L0 tmps ds l1 S n0 lp D rec L X T W β) (h1:∀ b i,T b i→T' b i) (h2:∀ b i,T' b i→¬ T b i→n0≤b∧¬ X b∧b < W.heap.size) (h0:w0.heap.size≤n0) :
  Between P N w0 β0 L0 tmps ds l1 S n0 lp D rec L X T' W ⟨β.at_,fun b i=>β.hid b i∧¬ T' b i⟩:=by
 have told:∀ b i,T' b i→n0≤b:=fun b i h'=>by
  by_cases ht:T b i
  ·exact(h.tdata b i ht).1
  ·exact(h2 b i h' ht).1
 have stab:∀ b i,Jj W β L b i→Jj W ⟨β.at_,fun b i=>β.hid b i∧¬ T' b i⟩ L b i:=fun b i hs=>⟨hs.lt,fun hh=>hs.seen hh.1,hs.kept⟩
 have stw:H81 W β L W ⟨β.at_,fun b i=>β.hid b i∧¬ T' b i⟩ L:=⟨fun b i hs=>⟨stab b i hs,rfl⟩,fun _ _ cs h=>⟨rfl,cs,h⟩,fun _ _ es h=>⟨rfl,es,h⟩,fun _ _ n es h=>⟨rfl,n,es,h⟩,
  fun id _ _ ver xs h=>⟨ver,xs,h,M5,fun _=>⟨rfl,rfl,fun b hb=>rfl⟩⟩,fun id _ _ ver hw h=>⟨ver,hw,h,M5,fun _=>⟨rfl,rfl,fun b hb=>rfl⟩⟩⟩
 refine⟨⟨fun b i hh=>h.sat.hid b i hh.1,h.sat.bnd,fun id b j h1 h2 hh=>h.sat.apart id b j h1 h2 hh.1,h.sat.inj,fun id o ho=>(h.sat.obj id o ho).stepW stw (fun b hb=>rfl)⟩,
  h.step.thenW stw rfl rfl ⟨rfl,M5⟩ (M5) (fun b i h4=>⟨fun hh=>hh.1,fun hh=>⟨hh,fun ht=>by have:=told b i ht; omega⟩⟩) (fun b h4 hf=>⟨rfl,hf⟩),⟨fun t=>(h.frame.tmp t).stepW stw⟩,h.obj,
  fun b g1 g2 g3 i g4=>⟨h.hid b g1 g2 g3 i (fun ht=>g4 (h1 b i ht)),g4⟩,h.lt,h.loop,h.mark,h.old,fun b i hs=>stab b i (h.data b i hs),fun b i h3=>⟨told b i h3,?_⟩,h.defs.turned h.deflt (fun _ _ _=>rfl) (fun _=>rfl),h.deflt⟩
 by_cases ht:T b i
 ·exact stab b i (h.tdata b i ht).2
 ·obtain⟨g1,g2,g3⟩:=h2 b i h3 ht
  exact⟨g3,fun hh=>hh.2 h3,fun id o ho hb=>(g2 (h.obj id b (by rw [ho]; rfl) hb).1).elim⟩

theorem Gfc {κ:Type} {k0:κ} {nx:κ→List AV→κ→Prop} {fi:κ→Prop} {P:Program} {N:Cfg} {gop:Operand} {ps:List Tmp} {assign body:Code} {Q:Post} {l:Fr} {L:Loc} (l1:Fr) {gf:FuncId} {caps:List AV} {σ:Type} (I:κ→σ→Prop) (M:σ→Loc) (s0:σ)
  (b5:N.ro=none) (hg:ev l gop=.fn gf caps) (e5:Qs (fun _=>false) caps=true) (hB:H9 P gf=true) (e6:Ga1 P gf caps k0 nx fi) (h0:I k0 s0) (hf:Fits N.base l L l1 (M s0)) (e7:J25 (M s0)=true)
  (e8:∀ k us k',nx k us k'→ps.length=us.length) (e9:∀ p∈ps,p < N.n) (f0:∀ s,J63 (fun i=>(lk (M s) i).isSome) l1 l1) (f3:∀ s,allIn (M s) N.base=true)
  (hr:∀ k us k' s,nx k us k'→I k s→∀ (lr:Nat) (K:Fr→Loc→Prop),(∀ l L s',I k' s'→Fits [] l L [] (M s')→K l L) →
   JC P ⟨N.n,(M s).map (·.1),some lr⟩ assign ⟨fun l2 L2=>Mid P ⟨N.n,(M s).map (·.1),some lr⟩ body ⟨K,fun _ _=>False,fun _ _ _=>False⟩ l2 L2,fun _ _=>False,fun _ _ _=>False⟩ (J45 ps us l1) (M s))
  (c3:∀ k s,fi k→I k s→Q.norm l1 (M s)):JC P N (.rangeFunc gop ps.toArray assign body) Q l L:=by
 intro n w0 β0 L0 a w β hs
 have h5:=hs.fits hf
 have hv:=hs.frame.ev gop
 rw [hg] at hv
 obtain⟨lb,he,f5,b6⟩:=hv.inv_fn
 rw [b5]
 refine wpIn_rangeFunc (F:=FR none) ?_
 intro fn f6
 obtain⟨rec,h9⟩:∃ rec:LoopState→Option Code→Loop,rec=fun st pe=>{ state:=st,pending:=pe,fn,tmps:=a.tmps,params:=ps.toArray,assign,body,defers:=w.heap.size }:=⟨_,rfl⟩
 obtain⟨W1,a0⟩:∃ W1,(w.alloc (.deferred (some []))).alloc (.loop (rec .ready none))=W1:=⟨_,rfl⟩
 have i7:W1.heap.size=w.heap.size+2:=by rw [← a0]; simp
 have f7:W1.heap[w.heap.size+1]? = some (.loop (rec .ready none)):=by
  rw [← a0]; have:=World.alloc_heap_new (w.alloc (.deferred (some []))) (.loop (rec .ready none)); rwa [World.size_alloc] at this
 have f8:W1.heap[w.heap.size]? = some (.deferred (some [])):=by
  rw [← a0]; exact(Below.heap_alloc _ _ _ (by simp)).trans (World.alloc_heap_new w _)
 have h6:∀ b,b < w.heap.size→W1.heap[b]? = w.heap[b]? := fun b hb=>by
  rw [← a0]; exact(Q2 _ _ (by simp; omega)).trans (Q2 w _ hb)
 have f9:w0.heap.size≤w.heap.size:=hs.step.size
 obtain⟨S,b7⟩:∃ S:Nat→Nat→Prop,S=Jj w β (M s0):=⟨_,rfl⟩
 obtain⟨X0,b8⟩:∃ X0:Nat→Prop,X0=fun b=>∃ id,(lk (M s0) id).isSome=true∧β id=some b:=⟨_,rfl⟩
 obtain⟨E,hE⟩:∃ E:H50 κ,E={ W0:=W1,S:=S,lp:=w.heap.size+1,nx:=nx,J:=fun k X T W=>∃ β1 s,I k s∧Between P N w0 β0 L0 a.tmps a.defers l1 S W1.heap.size (w.heap.size+1) w.heap.size (rec .ready none) (M s) X T W β1 }:=⟨_,rfl⟩
 have stw1:H81 w β (M s0) W1 β (M s0):=by
  refine⟨fun b i h=>⟨⟨by have:=h.lt; omega,h.seen,h.kept⟩,Jw (w:=w) (h6 b h.lt)⟩,fun _ _ cs h=>⟨rfl,cs,h⟩,fun _ _ es h=>⟨rfl,es,h⟩,fun _ _ n es h=>⟨rfl,n,es,h⟩,
   fun id _ _ ver xs h=>⟨ver,xs,h,M5,fun _=>⟨rfl,rfl,fun b hb=>G11 (h6 b (h5.sat.bnd id b (by rw [h]; rfl) hb))⟩⟩,
   fun id _ _ ver hw h=>⟨ver,hw,h,M5,fun _=>⟨rfl,rfl,fun b hb=>h6 b (h5.sat.bnd id b (by rw [h]; rfl) hb)⟩⟩⟩
 have b0:∀ d∈a.defers,∀ D',d={ target:=.collected D',args:=#[] }→D' < w.heap.size:=fun d hd D' e=>by
  obtain⟨D,e2,_,h2,_⟩:=h5.defers.each d hd
  have:D'=D:=by rw [e] at e2; injection e2 with e3; injection e3
  subst this
  exact(Kp h2).1
 have start:Between P N w0 β0 L0 a.tmps a.defers l1 S W1.heap.size (w.heap.size+1) w.heap.size (rec .ready none) (M s0) X0 (fun _ _=>False) W1 β:=by
  refine⟨⟨fun b i h=>by have:=h5.sat.hid b i h; omega,fun id b h1 h2=>by have:=h5.sat.bnd id b h1 h2; omega,h5.sat.apart,h5.sat.inj,fun id o ho=>(h5.sat.obj id o ho).stepW stw1 (fun b hb=>h6 b (h5.sat.bnd id b (by rw [ho]; rfl) hb))⟩,
   h5.step.thenW stw1 (by rw [← a0]; rfl) (by rw [← a0]; rfl) (by rw [← a0]; exact⟨rfl,M5⟩) (by omega) (fun _ _ _=>Iff.rfl) (fun b hb hf=>⟨h6 b (by omega),hf⟩),⟨fun t=>(h5.frame.tmp t).stepW stw1⟩,fun id b h1 h2=>?_,fun b h1 h2=>by omega,fun b hb=>?_,f7,f8,M5,fun b i hb=>?_,fun _ _ h=>h.elim,?_,?_⟩
  ·have:=h5.sat.bnd id b h1 h2
   exact⟨by rw [b8]; exact⟨id,h1,h2⟩,by omega,by omega⟩
  ·rw [b8] at hb; obtain⟨id,h1,h2⟩:=hb
   have:=h5.sat.bnd id b h1 h2; omega
  ·rw [b7] at hb; exact(stw1.stab b i hb).1
  ·have:=h5.defers
   rw [b5] at this
   exact this.turned (n0:=w.heap.size) b0 (fun D hD _=>h6 D hD) (fun _=>rfl)
  ·intro d hd D' e
   have:=b0 d hd D' e; omega
 have d6:E.Ok P:=by
  subst hE
  refine⟨fun k X T W W' hJ ht g0=>?_,fun m k k' us X T0 T W vs hy hJ g5 g6 c7 hD=>?_⟩
  ·obtain⟨β1,s,hI,hb⟩:=hJ
   obtain⟨g1,g2,g3⟩:=StI.round (X:=fun b=>W1.heap.size≤b∧¬ X b∧b < W.heap.size) (X':=fun b=>W1.heap.size≤b∧¬ X b∧b < W'.heap.size) (T:=T) (w':=W') hb.sat (fun b h=>⟨h.2.2,hb.hid b h.1 h.2.2 h.2.1⟩) (fun id b h1 h2 hx=>hx.2.1 (hb.obj id b h1 h2).1)
    ⟨ht.os,ht.tape,ht.output,ht.size,fun b h1 h2=>ht.keep b h1 (fun h=>h2 ⟨h.1,h.2,h1⟩)⟩ (fun b i h _=>g0 b i h) (fun b h=>⟨fun h'=>⟨h'.1,h'.2.1,h⟩,fun h'=>⟨h'.1,h'.2.1,by have:=ht.size; omega⟩⟩) (fun b h=>h.2.2)
   have b2:∀ b,b < W1.heap.size→b < W.heap.size→W'.heap[b]? = W.heap[b]? := fun b h1 h2=>ht.keep b h2 (fun h=>by have h3:W1.heap.size≤b:=h.1; omega)
   refine⟨_,s,hI,g1,hb.step.thenW g2 ht.os ht.tape ht.output ht.size (fun b i a5=>⟨fun h=>h.elim id (fun h=>by have:=hb.old; omega),.inl⟩) (fun b a5 hf=>⟨b2 b (by omega) (by have:=hb.old; omega),hf⟩),⟨fun t=>(hb.frame.tmp t).stepW g2⟩,hb.obj,fun b h1 h2 h3=>(g3 b ⟨h1,h3,h2⟩).2,fun b h=>Kq (hb.lt b h) ht.size,?_,?_,Nat.le_trans hb.old ht.size,fun b i h=>(g2.stab b i (hb.data b i h)).1,fun b i h=>⟨(hb.tdata b i h).1,(g2.stab b i (hb.tdata b i h).2).1⟩,?_,hb.deflt⟩
   ·exact(b2 _ (by omega) (Kp hb.loop).1).trans hb.loop
   ·exact(b2 _ (by omega) (Kp hb.mark).1).trans hb.mark
   ·exact hb.defs.turned hb.deflt (fun D h1 h2=>b2 D h1 (Kp h2).1) (fun _=>rfl)
  ·obtain⟨βq,s,hI,g7⟩:=hJ
   obtain⟨β1,hb⟩:∃ β1,Between P N w0 β0 L0 a.tmps a.defers l1 S W1.heap.size (w.heap.size+1) w.heap.size (rec .ready none) (M s) X T W β1:=⟨_,g7.more g5 g6 (by omega)⟩
   have b9:ps.length=us.length:=e8 k us k' hy
   have c8:=run_yield (P:=P) (args:=vs) hb.loop (by rw [h9]; simp [c7,b9])
   rw [h9] at c8
   have c9:(ps.toArray.zip vs).foldl (fun(tmps:Array Value) (x:Tmp×Value)=>tmps.setIfInBounds x.1 x.2) a.tmps=(ps.zip vs.toList).foldl (fun(tmps:Array Value) (x:Tmp×Value)=>tmps.setIfInBounds x.1 x.2) a.tmps:=by
    rw [← Array.foldl_toList,Array.toList_zip]
   have d7:w.heap.size+1 < W.heap.size:=(Kp hb.loop).1
   have d0:w.heap.size < W.heap.size:=by omega
   have nlp:∀ id,(lk (M s) id).isSome=true→β1 id≠some (w.heap.size+1):=fun id h1 h2=>(hb.obj id _ h1 h2).2.1 rfl
   have nD:∀ id,(lk (M s) id).isSome=true→β1 id≠some w.heap.size:=fun id h1 h2=>(hb.obj id _ h1 h2).2.2 rfl
   have c4:N.n≤((ps.toArray.zip vs).foldl (fun(tmps:Array Value) (x:Tmp×Value)=>tmps.setIfInBounds x.1 x.2) a.tmps).size:=by rw [c9,Rfa]; exact hs.size
   have g8:Q6 { tmps:=(ps.toArray.zip vs).foldl (fun(tmps:Array Value) (x:Tmp×Value)=>tmps.setIfInBounds x.1 x.2) a.tmps,defers:=[] } W β1 (M s) (J45 ps us l1):=by
    rw [c9]
    refine Q6.round b9 (by simpa using c7) (fun p hp=>Kq (e9 p hp) hs.size) hb.frame (fun j u v hu hv=>.data ((hD j u v hu (by simpa using hv)).mono fun b i h=>⟨h.elim (hb.data b i) (fun h=>(hb.tdata b i h).2),rfl⟩))
   have mem_ids:∀ (L:Loc) id,(lk L id).isSome=true→id∈L.map (·.1):=fun L id h=>by
    induction L with
    | nil=>simp [lk] at h
    | cons p r ih=>
     obtain⟨j,o⟩:=p
     rw [Gm] at h
     by_cases e:j=id
     ·subst e; simp
     ·rw [if_neg e] at h; simp [ih h]
   refine⟨fn,_,assign,body,c8,roundIn_of_wpIn f6 ?_⟩
   refine wpIn_mono (hr k us k' s hy hI (w.heap.size+1) (fun l3 L3=>∃ s',I k' s'∧Fits [] l3 L3 [] (M s')) (fun l3 L3 s' h1 h2=>⟨s',h1,h2⟩) m W β1 (M s) _ W β1 ⟨hb.sat,Step.refl _ _ _,g8,c4,mem_ids (M s),.nil⟩) (fun e a1 w1 q=>?_)
   cases e with
   | normal=>
    obtain⟨βm,lm,Lm,g9,l2,L2,b6,c5⟩:=q
    obtain⟨β2,a6⟩:=b6 _ _ _ _ _ _ g9
    have st1:=a6.step
    have f1:=st1.far _ d7 nlp
    have d1:=st1.far _ d0 nD
    have a2:=f1.1.trans hb.loop
    refine⟨_,run_beginRound a2 (by rw [h9]),?_⟩
    obtain⟨W2,h7⟩:∃ W2,w1.putObj (w.heap.size+1) (.loop { rec .ready none with state:=.busy })=W2:=⟨_,rfl⟩
    have sw2:H81 w1 β2 L2 W2 β2 L2:=by rw [← h7]; exact Gd2 a2 (by simp) (by simp) f1.2
    have sat2:Sat W2 β2 L2:=by rw [← h7]; exact Ha3 a2 (by simp) (by simp) f1.2 a6.sat
    have d8:W2.heap[w.heap.size+1]? = some (.loop { rec .ready none with state:=.busy }):=by rw [← h7]; exact World.putObj_heap_same (Kp a2).1
    have oth2:∀ b,b≠w.heap.size+1→W2.heap[b]? = w1.heap[b]? := fun b hb=>by rw [← h7]; exact World.putObj_heap_other hb
    have sz2:W2.heap.size=w1.heap.size:=by rw [← h7]; exact World.putObj_size
    have a1d:a1.defers=[]:=a6.defers.top rfl
    rw [h7]
    refine wpIn_mono (c5 m W2 β2 L2 a1 W2 β2 ⟨sat2,Step.refl _ _ _,⟨fun t=>(a6.frame.tmp t).stepW sw2⟩,a6.size,mem_ids L2,by rw [a1d]; exact .nil⟩) (fun e a3 w3 q=>?_)
    cases e with
    | normal=>
     obtain⟨β3,l3,L3,a7,s',i0,b1⟩:=q
     have st2:=a7.step
     have f2:=st2.far (w.heap.size+1) (by have:=st1.size; omega) f1.2
     have d2:=st2.far w.heap.size (by have:=st1.size; omega) d1.2
     have a8:=f2.1.trans d8
     have a4:=run_endRound (P:=P) none a8
     obtain⟨W4,h8⟩:∃ W4,w3.putObj (w.heap.size+1) (.loop (rec .ready none))=W4:=⟨_,rfl⟩
     have c6:(Instr.endRound (w.heap.size+1) none).run P w3=.ok (.bool true) W4:=by
      rw [← h8]
      rw [h9] at a4 ⊢
      exact a4
     have sz4:W4.heap.size=w3.heap.size:=by rw [← h8]; exact World.putObj_size
     have oth4:∀ b,b≠w.heap.size+1→W4.heap[b]? = w3.heap[b]? := fun b hb=>by rw [← h8]; exact World.putObj_heap_other hb
     have c0:W4.heap[w.heap.size+1]? = some (.loop (rec .ready none)):=by rw [← h8]; exact World.putObj_heap_same (Kp a8).1
     have b3:Fits N.base l3 L3 [] (M s'):=⟨b1.fr,b1.loc,f3 s'⟩
     have a9:=b1.drop
     have f4:∀ id,(lk (M s') id).isSome=true→β3 id≠some (w.heap.size+1):=fun id h=>f2.2 id (a9.some h)
     have sw4:H81 w3 β3 (M s') W4 β3 (M s'):=by rw [← h8]; exact Gd2 a8 (by simp) (by simp) f4
     have sat3:Sat w3 β3 (M s'):=a7.sat.fits b3
     have sat4:Sat W4 β3 (M s'):=by rw [← h8]; exact Ha3 a8 (by simp) (by simp) f4 sat3
     have szs1:=st1.size
     have szs2:=st2.size
     have c1:w0.heap.size≤w.heap.size+1:=by omega
     -- the steps since the call began
     have g1:Step w0 β0 L0 w1 β2 L2:=hb.step.trans st1
     have g2:Step w0 β0 L0 W2 β2 L2:=by rw [← h7]; exact H53 a2 (by simp) (by simp) f1.2 w0 β0 L0 (M5) c1 g1
     have g3:Step w0 β0 L0 w3 β3 L3:=g2.trans st2
     have g3':Step w0 β0 L0 w3 β3 (M s'):=g3.drop (N:=N) (a:={ a3 with defers:=[] }) a7.sat hs.base b3 a7.size rfl ⟨a7.frame.tmp⟩
     have g4:Step w0 β0 L0 W4 β3 (M s'):=by rw [← h8]; exact H53 a8 (by simp) (by simp) f4 w0 β0 L0 (M5) c1 g3'
     have fr3:Q6 { tmps:=a.tmps,defers:=[] } w3 β3 L3 l1:=((hb.frame.step st1).stepW sw2).step st2
     have fr4:Q6 { tmps:=a.tmps,defers:=[] } W4 β3 (M s') l1:=⟨fun t=>((fr3.tmp t).conv a9 ((f0 s').get t)).stepW sw4⟩
     -- what lay in W and is none of the caller's objects
     have keepW:∀ b,b < W.heap.size→b≠w.heap.size+1→(∀ id,(lk (M s) id).isSome=true→β1 id≠some b)→W4.heap[b]? = W.heap[b]? ∧ ∀ id,(lk L3 id).isSome=true→β3 id≠some b:=fun b i1 d3 i2=>by
      obtain⟨e1,e2⟩:=st1.far b i1 i2
      obtain⟨e3,e4⟩:=st2.far b (by omega) e2
      exact⟨(oth4 b d3).trans (e3.trans ((oth2 b d3).trans e1)),e4⟩
     have d4:=keepW w.heap.size d0 (by omega) nD
     have stabW:∀ b i,Jj W β1 (M s) b i→Jj W4 β3 (M s') b i:=fun b i h=>(sw4.stab b i (a9.stab (st2.stab b i (sw2.stab b i (st1.stab b i h).1).1).1)).1
     refine⟨_,_,c6,rfl,fun b=>X b∨(W.heap.size≤b∧b < W4.heap.size),⟨β3,s',i0,sat4,g4,fr4,fun id b h1 h2=>?_,fun b h1 h2 h3 i h4=>?_,fun b h=>h.elim (fun h=>by have:=hb.lt b h; omega) (fun h=>h.2),c0,d4.1.trans hb.mark,by have:=hb.old; omega,fun b i h=>stabW b i (hb.data b i h),fun b i h=>⟨(hb.tdata b i h).1,stabW b i (hb.tdata b i h).2⟩,?_,hb.deflt⟩,⟨?_,?_,?_,by omega,fun b h1 h2=>?_⟩,fun b h=>⟨fun h'=>h'.elim _root_.id (fun h'=>by omega),.inl⟩,fun b h=>h.elim (fun h=>by have:=hb.lt b h; omega) (fun h=>h.2)⟩
     ·have c2:=a9.some h1
      refine⟨?_,fun e=>f4 id h1 (by rw [h2,e]),fun e=>d4.2 id c2 (by rw [h2,e])⟩
      rcases Ku b W.heap.size with a5 | i3
      ·refine .inl (Classical.byContradiction fun hx=>?_)
       exact(keepW b a5 (fun e=>f4 id h1 (by rw [h2,e])) (fun id' h3 h4=>hx (hb.obj id' b h3 h4).1)).2 id c2 h2
      ·exact .inr ⟨i3,by have:=sat4.bnd id b h1 h2; exact this⟩
     ·have a5:b < W.heap.size:=Nat.lt_of_not_le fun h=>h3 (.inr ⟨h,h2⟩)
      have:=hb.hid b h1 a5 (fun h=>h3 (.inl h)) i h4
      exact(st2.hid b i (by omega)).2 ((st1.hid b i a5).2 this)
     ·have q1:=hb.defs.step st1
      have nel:∀ d∈a.defers,∀ D',d={ target:=.collected D',args:=#[] }→W.heap[D']? = some (.deferred (some []))→D'≠w.heap.size+1:=fun d _ D' _ h e=>by rw [e,hb.loop] at h; cases h
      refine⟨q1.top,q1.nodup,fun d hd=>?_⟩
      obtain⟨D',e,h1,h2,h3⟩:=hb.defs.each d hd
      have i4:=nel d hd D' e h2
      have d5:=keepW D' (Kp h2).1 i4 h3
      exact⟨D',e,h1,d5.1.trans h2,fun id hi=>d5.2 id (a9.some hi)⟩
     ·rw [← h8]; exact st2.os.trans (by rw [← h7]; exact st1.os)
     ·rw [← h8]; exact st2.tape.trans (by rw [← h7]; exact st1.tape)
     ·have e2:=st2.output
      have e1:=st1.output
      rw [← h7] at e2
      rw [← h8]
      exact⟨e2.1.trans e1.1,Nat.le_trans e1.2 e2.2⟩
     ·by_cases e:b=w.heap.size+1
      ·rw [e,c0,hb.loop]
      ·exact(keepW b h1 e (fun id h3 h4=>h2 (hb.obj id b h3 h4).1)).1
    | ret=>obtain⟨_,_,_,_,hq⟩:=q; exact hq.elim
    | exit i=>obtain⟨_,_,_,_,hq⟩:=q; exact hq.elim
    | goto t=>exact q.elim
    | panic c=>exact q.elim
    | outgrown=>exact q.elim
   | ret=>obtain⟨_,_,_,_,hq⟩:=q; exact hq.elim
   | exit i=>obtain⟨_,_,_,_,hq⟩:=q; exact hq.elim
   | goto t=>exact q.elim
   | panic c=>exact q.elim
   | outgrown=>exact q.elim
 have d9:∀ (j:Nat) u v,caps[j]? = some u→lb[j]? = some v→D W1 S u v:=fun j u v hu hv=>by
  have:=(b6 j u v hu hv).toD (G05 e5 u (M3 hu))
  refine this.mono fun b i h=>?_
  have h':=hf.drop.stab h
  refine⟨by rw [b7]; exact h',Jw (w:=w) (h6 b h'.lt)⟩
 have i5:∀ b i,S b i→b < W1.heap.size∧¬ X0 b:=fun b i h=>by
  rw [b7] at h
  refine⟨by have:=h.lt; omega,fun hx=>?_⟩
  rw [b8] at hx
  obtain⟨id,h1,h2⟩:=hx
  obtain⟨o,ho⟩:=Ko h1
  exact Q84 e7 ho i (h.kept id o ho h2)
 have e0:∀ b,X0 b→b < W1.heap.size:=start.lt
 have b4:=e6 (n - 1) E lb X0 d6 (by rw [hE]) f5 (by rw [hE]; exact d9) (by rw [hE]; exact i5) (by rw [hE]; exact e0) (by rw [hE]; exact⟨β,s0,h0,start⟩)
 refine⟨w.heap.size+1,[{ target:=.collected w.heap.size,args:=#[] }],W1,{ target:=.fn (.func gf) lb,args:=#[.func (.yield (w.heap.size+1)) #[] #[]] },W1,gf,
  #[.func (.yield (w.heap.size+1)) #[] #[]]++lb,W1,?_,?_,fun _ _=>trivial,?_,fun e=>(by cases e),?_⟩
 ·rw [← a0,h9]; exact run_enterLoop_outer _ _ _ _ _
 ·simp only [resolve,he]
  simp [go_sem]
 ·simp [invoke,go_sem,H9.out hB]
 ·rw [hE] at b4
  refine CallsIn.mono (F:=FR none) b4 fun e W2 h=>?_
  obtain⟨⟨v,rfl⟩,k,X,T,i6,β1,s,hI,hb⟩:=h
  have a4:=run_endLoop (P:=P) hb.loop (by rw [h9]; simp)
  refine⟨none,W2.putObj (w.heap.size+1) (.loop { rec .ready none with state:=.exhausted }),by rw [h9] at a4 ⊢; exact a4,β1,l1,M s,?_,c3 k s i6 hI⟩
  have nlp:∀ id,(lk (M s) id).isSome=true→β1 id≠some (w.heap.size+1):=fun id h1 h2=>(hb.obj id _ h1 h2).2.1 rfl
  refine⟨Ha3 hb.loop (by simp) (by simp) nlp hb.sat,H53 hb.loop (by simp) (by simp) nlp w0 β0 L0 (M5) (by omega) hb.step,⟨fun t=>(hb.frame.tmp t).stepW (Gd2 hb.loop (by simp) (by simp) nlp)⟩,hs.size,hs.base,?_⟩
  rw [b5]
  refine⟨fun h=>(by cases h),List.nodup_cons.2 ⟨fun h=>?_,hb.defs.nodup⟩,fun d hd=>?_⟩
  ·have:=b0 _ h _ rfl; omega
  ·rcases Mk.1 hd with rfl | hd
   ·exact⟨_,rfl,f9,(World.putObj_heap_other (by omega)).trans hb.mark,fun id h1 h2=>(hb.obj id _ h1 h2).2.2 rfl⟩
   ·obtain⟨D',e,h1,h2,h3⟩:=hb.defs.each d hd
    refine⟨D',e,h1,(World.putObj_heap_other fun e2=>?_).trans h2,h3⟩
    rw [e2,hb.loop] at h2; cases h2
end Go.Proofs.YtmfhaflabpnaoaaGreat
