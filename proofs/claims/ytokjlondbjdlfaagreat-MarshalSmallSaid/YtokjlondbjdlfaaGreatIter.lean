/-
 Parts of slices that the call may write in place: Calls that leave objects whose versions are not known before Models of functions that range over maps: Functions that are ranged over:
-/
import Derived.Test.YtokjlondbjdlfaaGreatSortT
namespace Go.Proofs.YtokjlondbjdlfaaGreat
open Go.RowKit

def J3b (w:World) (S:Nat→Nat→Prop) (k:Nat) (ys:List AV) (v:Value):Prop:=
 (∀ y∈ys,y.cells.length=k)∧∃ (a:Option Addr) (cap:Nat) (cs:List Value),v=.slice a ys.length cap∧(a=none→ys=[])∧cs.length=ys.length*k∧(∀ (ad:Addr) (j:Nat) u,a=some ad→cs[j]? = some u→w.cell? (ad.add j)=some u) ∧
  ∀ (j:Nat) u x,(flat ys)[j]? = some u→cs[j]? = some x→D w S u x

theorem V.inv_vsl {w:World} {β:Gx} {L:Loc} {i ver k k' off n t:Nat} {xs:List AV} {x:Value} (hi:lk L i=some (.vec t k' ver xs)) (h:V w β L (.vsl i ver k off n) x):k=k'∧off+n≤xs.length∧J39 (β.at_ i) k off n x:=by
 cases h with
 | data h=>cases h
 | vsl hp _=>
  obtain⟨t',ver',xs',h1,_,h3⟩:=hp
  rw [hi] at h1; cases h1
  exact⟨rfl,(h3 rfl).1,(h3 rfl).2.1⟩
theorem V.inv_vsl0 {w:World} {β:Gx} {L:Loc} {i ver k k' n t:Nat} {xs:List AV} {x:Value} (hi:lk L i=some (.vec t k' ver xs)) (h:V w β L (.vsl i ver k 0 n) x):J3a w (β.at_ i) t k n x:=by
 cases h with
 | data h=>cases h
 | vsl hp _=>
  obtain⟨t',ver',xs',h1,_,h3⟩:=hp
  rw [hi] at h1; cases h1
  exact(h3 rfl).2.2 rfl

theorem H98 {w:World} {β:Gx} {L:Loc} {i ver k t n:Nat} {xs:List AV} {x:Value} (h0:Sat w β L) (hi:lk L i=some (.vec t k ver xs)) (hv:V w β L (.vec i ver k n) x):n=xs.length∧J39 (β.at_ i) k 0 n x:=by
 obtain⟨rfl,_,h⟩:=G09 h0 hi hv
 refine⟨rfl,?_⟩
 rcases h with ⟨rfl,rfl,_⟩ | ⟨b,cap,vs,rfl,h1,h2,h3,_⟩
 ·exact⟨none,0,rfl,Kb,Nat.zero_le _,.inl rfl⟩
 ·exact⟨_,cap,rfl,h2,h3,.inr ⟨b,h1,by rw [Nat.zero_mul]⟩⟩

theorem J1e {w:World} {β:Gx} {L:Loc} {i ver k t off n:Nat} {xs:List AV} {x:Value} (h4:Sat w β L) (hi:lk L i=some (.vec t k ver xs)) (hn:off+n≤xs.length) (h:J39 (β.at_ i) k off n x):J3b w (J5 w β L) k ((xs.drop off).take n) x:=by
 obtain⟨o1,o2⟩:=h4.obj i _ hi
 have hk:∀ y∈(xs.drop off).take n,y.cells.length=k:=fun y hy=>o1 y (List.mem_of_mem_drop (List.mem_of_mem_take hy))
 have hl:((xs.drop off).take n).length=n:=by simp; omega
 refine⟨hk,?_⟩
 obtain⟨a,cap,rfl,h1,h2,h3⟩:=h
 rw [hl]
 by_cases h0:n=0
 ·subst h0
  exact⟨a,cap,[],rfl,fun _=>by simp,by simp,fun ad j u _ hu=>by simp at hu,fun j u x _ hx=>by simp at hx⟩
 ·rcases h3 with h3 | ⟨b,hb,rfl⟩
  ·exact absurd h3 h0
  ·obtain⟨q1,vs,q2,q3,q4⟩:=G91 h4 hi hb
   have hm:off*k+n*k≤xs.length*k:=by rw [← Nat.add_mul]; exact Nat.mul_le_mul_right _ hn
   refine⟨_,cap,(vs.toList.drop (off*k)).take (n*k),rfl,(fun e=>by cases e),by simp; omega,fun ad j u e hu=>?_,fun j u x hu hx=>?_⟩
   ·cases e
    have hj:=(Ex hu).1
    rw [List.length_take] at hj
    rw [Kg,if_pos (by omega),Kh] at hu
    rw [Addr.add_lit]
    simp [World.cell?,q2]
    simpa using hu
   ·have hj:=(Ex hx).1
    rw [List.length_take] at hj
    rw [Kg,if_pos (by omega),Kh] at hx
    have h5:∀ y∈xs.drop off,y.cells.length=k:=fun y hy=>o1 y (List.mem_of_mem_drop hy)
    rw [G2e h5,H5c o1,Kg,if_pos (by omega),Kh] at hu
    exact q4 _ u x hu (by simpa using hx)

theorem Q36 {w:World} {S:Nat→Nat→Prop} {k k':Nat} {ys:List AV} {x:Value} (h:D w S (.list k' ys) x) (hk:k'=k∨ys=[]):J3b w S k ys x:=by
 obtain⟨ao,cap,rfl,_⟩:=h.len
 obtain⟨_,h1,h2,cs,h3,h4,h5⟩:=h.vals
 have h0:∀ y∈ys,y.cells.length=k:=by
  rcases hk with rfl | rfl
  ·exact h1
  ·simp
 refine⟨h0,ao,cap,cs,rfl,fun e=>Em (h2 e),h3.trans (Hm h0),h4,fun j u x hu hx=>?_⟩
 obtain⟨x',h6,hd⟩:=h5 j u hu
 rw [hx] at h6; cases h6
 exact hd

def H45 (L:Loc) (k:Nat) (s:AV) (ys:List AV):Prop:=
 (∃ kx,Jj s=some (kx,ys)∧(kx=k∨ys=[]))∨(∃ i ver n t,s=.vec i ver k n∧lk L i=some (.vec t k ver ys))∨(∃ i ver off n t zs,s=.vsl i ver k off n∧lk L i=some (.vec t k ver zs)∧ys=(zs.drop off).take n)
theorem H45.reads {w:World} {β:Gx} {L:Loc} {k:Nat} {s:AV} {ys:List AV} {x:Value} (h0:Sat w β L) (h:H45 L k s ys) (hv:V w β L s x):J3b w (J5 w β L) k ys x:=by
 rcases h with ⟨kx,h1,h2⟩ | ⟨i,ver,n,t,rfl,hi⟩ | ⟨i,ver,off,n,t,zs,rfl,hi,rfl⟩
 ·exact Q36 (hv.Jj h1) h2
 ·obtain⟨rfl,h⟩:=H98 h0 hi hv
  have:=J1e h0 hi (by simp) h
  simpa using this
 ·obtain⟨_,h1,h2⟩:=hv.inv_vsl hi
  exact J1e h0 hi h1 h2
section ops
variable {P:Program} {N:Cfg} {o:Oper} {l:Fr} {L L':Loc} {u:AV} {α:Type}

theorem Q82 {x p:Operand} {T E k i ver n hi:Nat} {kd:IntKind} {z:Int} {xs:List AV} (ho:o.op=.slice T x none (some p) none) (hT:sliceB P T E k=true) (hx:ev l x=.vec i ver k n) (hp:ev l p=.sc (.int kd z)) (hL:lk L i=some (.vec E k ver xs)) (hz:z=(hi:Int)) (h2:hi≤xs.length) :
  Gn P o l L (Is (.vec i (ver+1) k hi) ((i,.vec E k (ver+1) (xs.take hi))::L)):=by
 subst hz
 intro a w β K Q h0 hf hK
 have hv:=hf.ev x
 rw [hx] at hv
 have h4:=hf.ev p
 rw [hp] at h4
 obtain⟨rfl,q1,h⟩:=G09 h0 hL hv
 have h5:(xs.take hi).length=hi:=by rw [List.length_take]; omega
 have hk:∀ y∈xs.take hi,y.cells.length=k:=fun y hy=>q1 y (List.mem_of_mem_take hy)
 obtain⟨st,sat⟩:=Q4 (w':=w) (t:=E) (k:=k) (ver1:=ver+1) (xs':=xs.take hi) (ob':=β.at_ i) h0 (.inr ⟨ver,xs,hL,by omega,fun e=>by omega⟩) rfl rfl ⟨rfl,Kb⟩ (Kb) (fun _ _ _=>rfl) (.inr (.inl ⟨by rw [inL,hL]; rfl,rfl⟩))
 have h6:lk ((i,J3.vec E k (ver+1) (xs.take hi))::L) i=some (.vec E k (ver+1) (xs.take hi)):=by rw [G9,if_pos rfl]
 unfold Oper.wp
 rcases h with ⟨h1,h3,hb⟩ | ⟨b,cap,vs,h1,hb,c1,c2,c3,c4,c5⟩
 ·subst h3
  have:hi=0:=by simpa using h2
  subst this
  have hr:(execOp a.eval o).run P w=.ok (.value (.slice none 0 0)) w:=by
   simp only [execOp,ho,h1,Sem.run_bind,Option.map_none,Option.map_some,h4.inv_sc]
   rw [Gb4 hT none 0 0 0 0 _ _ w (Kb) (Kb) (Kb) (.inl ⟨rfl,rfl⟩) (.inr ⟨kd,rfl⟩)]
   rfl
  rw [hr]
  exact hK _ _ _ _ _ ⟨rfl,rfl⟩ (sat ⟨hk,.inl ⟨hb,by simp⟩⟩) st (.vec ⟨E,ver+1,_,h6,Kb,fun _=>⟨by simp,.inl ⟨rfl,rfl,by simp [upP,hb]⟩⟩⟩ rfl)
 ·have hr:(execOp a.eval o).run P w=.ok (.value (.slice (some ⟨b,0,none⟩) hi cap)) w:=by
   simp only [execOp,ho,h1,Sem.run_bind,Option.map_none,Option.map_some,h4.inv_sc]
   rw [Gb4 hT (some ⟨b,0,none⟩) xs.length cap 0 hi _ _ w (Nat.zero_le _) h2 c1 (.inl ⟨rfl,rfl⟩) (.inr ⟨kd,rfl⟩)]
   simp [Addr.add_lit]
  rw [hr]
  refine hK _ _ _ _ _ ⟨rfl,rfl⟩ (sat ⟨hk,.inr ⟨b,hb,vs,c3,by rw [h5,c4]; exact Nat.mul_le_mul_right _ (by omega),fun j u v hu hv=>?_⟩⟩) st (.vec ⟨E,ver+1,_,h6,Kb,fun _=>⟨h5.symm,.inr ⟨b,cap,rfl,by simp [upP,hb],by omega,c2,by simp [World.shape?,c3,c4]⟩⟩⟩ rfl)
  rw [G2e q1] at hu
  have hj:=(Ex hu).1
  rw [List.length_take] at hj
  rw [Kg,if_pos (by omega)] at hu
  exact(c5 j u v hu hv).mono st.stab
end ops

/-! ### Typed elements -/
section typed
variable {P:Program} {o:Oper} {l:Fr} {L:Loc} {α:Type}
def blank (xs:List α) (off n:Nat) (z:α):List α:=xs.take off++List.replicate n z++xs.drop (off+n)
end typed
set_option linter.unusedVariables false

theorem Jz.mono {P:Program} {f:FuncId} {args:List AV} {L0:Loc} {R R':AV→Loc→Prop} (h:Jz P f args L0 R) (hr:∀ u L,R u L→R' u L):Jz P f args L0 R':=fun w β vs a b c=>
 (h w β vs a b c).mono fun e w' hh=>by
  obtain⟨v,r,β',L',h1,h2,h3,h4,h5⟩:=hh
  exact⟨v,r,β',L',h1,h2,h3,h4,hr _ _ h5⟩
def Q3c:Loc→List Nat→Bool
 | [],_=>true
 | (i,_)::r,B=>B.any (Nat.beq i)&&Q3c r B
theorem H6f {B:List Nat}:∀ {L0:Loc},Q3c L0 B=true→∀ id,(lk L0 id).isSome=true→id∈B
 | [],_,id,h=>by simp [lk] at h
 | (i,o)::r,hb,id,h=>by
  simp only [Q3c,Kk,List.any_eq_true] at hb
  rw [G9] at h
  by_cases e:i=id
  ·obtain⟨x,hx,h0⟩:=hb.1
   rw [← e,En h0]; exact hx
  ·rw [if_neg e] at h; exact H6f hb.2 id h

theorem Ja4 {P:Program} {N:Cfg} {c:Code} {Q:Post} {l:Fr} {L:Loc} (s:Nat) {i ver k n E:Nat} {xs:List AV} (h1:look l s=.vec i ver k n) (hi:lk L i=some (.vec E k ver xs)) (h:n=xs.length→JC P N c Q l L):JC P N c Q l L:=fun n w0 β0 L0 a w β hs=>
 h (by
  have hv:=hs.frame.tmp s
  rw [h1] at hv
  exact(G09 hs.sat hi hv).1) n w0 β0 L0 a w β hs
theorem Gfd {P:Program} {N:Cfg} {o:Oper} {ops:Array Oper} {rest:List Oper} {Q:Post} {l:Fr} {L:Loc} {α:Type} {x:Operand} {T E k k' d i ver n:Nat} {f:α→AV} {xs:List α} (hT:sliceB P T E k'=true) (ho:o.op=.call { callee:=.builtin .len,args:=#[x],argTypes:=#[T] }) (hx:ev l x=.vec i ver k n) (hi:lk L i=some (.vec E k ver (xs.map f)))
  (hk:xs.length≤maxLen→JL P N ops rest Q ((d,I64 (xs.length:Int))::l) L) (hg:o.guard=none) (hd:o.dst=some d) (hn:Nat.blt d N.n=true):JL P N ops (o::rest) Q l L:=by
 intro n w0 β0 L0 a w β hs
 have hv:=hs.frame.ev x
 rw [hx] at hv
 obtain⟨e,_,h⟩:=G09 hs.sat hi hv
 rw [Kn] at e
 subst e
 have hm:xs.length≤maxLen:=by
  rcases h with ⟨_,h2,_⟩ | ⟨b,cap,vs,_,_,h3,h4,_⟩
  ·rw [List.map_eq_nil_iff] at h2
   rw [h2]; exact Nat.zero_le _
  ·rw [Kn] at h3; exact Nat.le_trans h3 h4
 exact G0 (R08 hT ho hx hi) (hk hm) hg hd hn (by unfold Zu; rw [ho]) n w0 β0 L0 a w β hs

section calls
variable {P:Program} {o:Oper} {l:Fr} {L:Loc} {γ:Type}
theorem J36 {f:FuncId} {vs:Array Value} {args:List AV} {L0:Loc} {u:γ→AV} {Lr:γ→Loc} {a:Act} {w:World} {β:Gx} {K:Act→World→Prop} {Q:Exit→Act→World→Prop} (hc:Jz P f args L0 (fun r L'=>∃ p,r=u p∧L'=Lr p)) (h0:Sat w β L)
  (h4:J53 L L0) (h6:closedIn (inL L0) L0=true) (h5:∀ p,G99 L L0 (Lr p)=true) (hl:vs.size=args.length)
  (hv:∀ (j:Nat) u v,args[j]? = some u→vs[j]? = some v→V w β L u v∧u.refs (inL L0)=true)
  (hK:∀ u' L' v w' β',(∃ p,u'=u p∧L'=Lr p++Gd3 L L0)→Sat w' β' L'→Step w β L w' β' L'→V w' β' L' u' v→K (a.put o.dst v) w') :
  Calls P f vs w fun
   | .returned v,w''=>K (a.put o.dst v) w''
   | .panicked chain,w''=>Q (.panic chain) a w''
   | .outgrown,_=>LetsOut Q:=by
 refine(J29 hc h0 (fun id ob h=>h4.get h) (fun id ob h=>closedIn.get h6 h) hl hv (fun r L' hR id h=>by obtain⟨p,_,rfl⟩:=hR; exact G99.get (h5 p) h)).mono fun e w' h=>?_
 obtain⟨v,r,β',L',rfl,⟨p,rfl,rfl⟩,h1,h2,h3⟩:=h
 exact hK _ _ v w' _ ⟨p,rfl,rfl⟩ h1 h2 h3

theorem G80 {f:FuncId} {xs:List Operand} {args:List AV} {ts:Array TypeId} {L0:Loc} {u:γ→AV} {Lr:γ→Loc} (ho:o.op=.call { callee:=.value (.func f),args:=xs.toArray,argTypes:=ts }) (hc:Jz P f args L0 (fun r L'=>∃ p,r=u p∧L'=Lr p)) (hB:Hp P f=true) (ha:H25 l L0 xs args)
  (h0:J53 L L0) (h5:closedIn (inL L0) L0=true) (h3:∀ p,G99 L L0 (Lr p)=true):Gn P o l L (fun u' L''=>∃ p,u'=u p∧L''=Lr p++Gd3 L L0):=by
 intro a w β K Q h4 hf hK
 have hr:(execOp a.eval o).run P w=.ok (.enter f (xs.toArray.map a.eval)) w:=by
  simp [execOp,ho,resolve,Act.eval,Deferred.ofValue,invoke,Hp.out hB]
 unfold Oper.wp
 rw [hr]
 refine J36 hc h4 h0 h5 h3 (by simp [ha.length]) (fun j u v hu hv=>?_) hK
 simp only [Array.getElem?_map,List.getElem?_toArray,Option.map_eq_some_iff] at hv
 obtain⟨x,hx,rfl⟩:=hv
 obtain⟨h1,h2⟩:=ha.get hx hu
 refine⟨?_,h2⟩
 rcases h1 with h1 | h1
 ·rw [← h1]; exact hf.ev x
 ·rw [← h1]; exact(hf.ev x).plain

end calls

section rel
variable {α β σ R:Type} {r:R}
end rel
set_option linter.unusedSimpArgs false

structure R88 (X:Nat→Prop) (W W':World):Prop where
 os:W'.os=W.os
 tape:W'.tape=W.tape
 output:W'.output=W.output∧W.drawn≤W'.drawn
 size:W.heap.size≤W'.heap.size
 keep:∀ b,b < W.heap.size→¬ X b→W'.heap[b]? = W.heap[b]?

structure Gc4 (κ:Type) where
 W0:World
 S:Nat→Nat→Prop
 lp:Nat
 J:κ→(Nat→Prop)→(Nat→Nat→Prop)→World→Prop
 nx:κ→List AV→κ→Prop
def Gc4.After {κ:Type} (E:Gc4 κ) (k':κ) (X:Nat→Prop) (T:Nat→Nat→Prop) (W:World) (e:Ending) (W':World):Prop:=
 e=.returned (.bool true)∧∃ X':Nat→Prop,E.J k' X' T W'∧R88 X W W'∧(∀ b,b < W.heap.size→(X' b ↔ X b))∧(∀ b,X' b→b < W'.heap.size)∧∀ b i,E.S b i→Yv W' b i=Yv W b i
structure Gc4.Ok {κ:Type} (E:Gc4 κ) (P:Program):Prop where
 sees:∀ b i,E.S b i→b < E.W0.heap.size
 abide:∀ k X T W W',E.J k X T W→R88 (fun b=>E.W0.heap.size≤b∧¬ X b) W W'→(∀ b i,T b i→Yv W' b i=Yv W b i)→E.J k X T W'
 round:∀ (m:Nat) (k k':κ) us X T (T':Nat→Nat→Prop) W (vs:Array Value),E.nx k us k'→E.J k X T W→(∀ b i,T b i→T' b i)→(∀ b i,T' b i→¬ T b i→E.W0.heap.size≤b∧¬ X b∧b < W.heap.size)→vs.size=us.length →
  (∀ (j:Nat) u v,us[j]? = some u→vs[j]? = some v→D W (fun b i=>E.S b i∨T' b i) u v)→YieldAt Fence.wide m P E.lp vs W (E.After k' X T' W)

def R01 (P:Program) (g:FuncId) (caps:List AV) {κ:Type} (k0:κ) (nx:κ→List AV→κ→Prop) (fin:κ→Prop):Prop:=
 ∀ (n:Nat) (E:Gc4 κ) (lb:Array Value) (X0:Nat→Prop),E.Ok P→E.nx=nx→lb.size=caps.length→(∀ (j:Nat) u v,caps[j]? = some u→lb[j]? = some v→D E.W0 E.S u v)→(∀ b,X0 b→b < E.W0.heap.size) →
  E.J k0 X0 (fun _ _=>False) E.W0→CallsIn Fence.wide n P g (#[.func (.yield E.lp) #[] #[]]++lb) E.W0 fun e W'=>(∃ v,e=.returned v)∧∃ k X T,fin k∧E.J k X T W'
def Q71 (ys:List (List AV)):Nat→List AV→Nat→Prop:=fun k us k'=>ys[k]? = some us∧k'=k+1
def Iter (P:Program) (g:FuncId) (caps:List AV) (ys:List (List AV)):Prop:=R01 P g caps 0 (Q71 ys) (fun k=>k=ys.length)

structure StI {κ:Type} (E:Gc4 κ) (N:Cfg) (a:Act) (w:World) (β:Gx) (l:Fr) (L:Loc) (k:κ):Prop where
 sat:Sat w β L
 frame:Jm a w β L l
 size:N.n≤a.tmps.size
 defers:a.defers=[]
 old:E.W0.heap.size≤w.heap.size
 own:∀ id b,(lk L id).isSome=true→β id=some b→E.W0.heap.size≤b
 gh:∃ X T,E.J k X T w∧(∀ b,X b→b < w.heap.size∧∀ i,¬ E.S b i→β.hid b i)∧(∀ b i,T b i→J5 w β L b i)∧∀ id b,(lk L id).isSome=true→β id=some b→¬ X b
 vis:∀ b i,b < E.W0.heap.size→¬ β.hid b i→E.S b i

structure G77 (κ:Type) where
 norm:Fr→Loc→κ→Prop
 ret:Fr→Loc→κ→Prop
 exit:Nat→Fr→Loc→κ→Prop
def G77.seq {κ:Type} (Q:G77 κ) (K:Fr→Loc→κ→Prop):G77 κ:=⟨K,Q.ret,Q.exit⟩
def G77.blk {κ:Type} (Q:G77 κ) (i:Nat):G77 κ:=⟨Q.norm,Q.ret,fun j l L k=>bif Nat.beq j i then Q.norm l L k else Q.exit j l L k⟩
def G77.out {κ:Type} (Q:G77 κ) (E:Gc4 κ) (N:Cfg):Exit→Act→World→Prop
 | .normal,a,w=>∃ β l L k,StI E N a w β l L k∧Q.norm l L k
 | .ret,a,w=>∃ β l L k,StI E N a w β l L k∧Q.ret l L k
 | .exit i,a,w=>∃ β l L k,StI E N a w β l L k∧Q.exit i l L k
 | _,_,_=>False
def JI {κ:Type} (E:Gc4 κ) (P:Program) (N:Cfg) (c:Code) (Q:G77 κ) (l:Fr) (L:Loc) (k:κ):Prop:=
 ∀ (n:Nat) a w β,StI E N a w β l L k→c.wpIn Fence.wide n P (Q.out E N) a w
def JIL {κ:Type} (E:Gc4 κ) (P:Program) (N:Cfg) (ops:Array Oper) (rest:List Oper) (Q:G77 κ) (l:Fr) (L:Loc) (k:κ):Prop:=
 ∀ (n:Nat) a w β,StI E N a w β l L k→wpListIn Fence.wide n P ops (Q.out E N) rest a w

theorem StI.step {κ:Type} {E:Gc4 κ} {P:Program} {N:Cfg} {a a':Act} {w w':World} {β β':Gx} {l l':Fr} {L L':Loc} {k:κ} (hE:E.Ok P) (h:StI E N a w β l L k) (h0:Step w β L w' β' L') (h6:Sat w' β' L') (hf:Jm a' w' β' L' l') (h7:a'.tmps.size=a.tmps.size) (hd:a'.defers=a.defers):StI E N a' w' β' l' L' k:=by
 have old':=h.old
 refine⟨h6,hf,by rw [h7]; exact h.size,by rw [hd]; exact h.defers,Nat.le_trans h.old h0.size,fun id b h1 h2=>?_,?_,fun b i hb hn=>h.vis b i hb fun hh=>hn ((h0.hid b i (Ek hb h.old)).2 hh)⟩
 ·rcases Ep b w.heap.size with hb | hb
  ·refine Classical.byContradiction fun hn=>?_
   have:∀ id0,(lk L id0).isSome=true→β id0≠some b:=fun id0 h3 h4=>hn (h.own id0 b h3 h4)
   exact(h0.far b hb this).2 id h1 h2
  ·omega
 ·obtain⟨X,T,hJ,hX,hT,h5⟩:=h.gh
  refine⟨X,T,hE.abide k X T w w' hJ ⟨h0.os,h0.tape,h0.output,h0.size,fun b hb hn=>(h0.far b hb fun id h1 h2=>?_).1⟩ (fun b i h=>(h0.stab b i (hT b i h)).2),fun b hb=>⟨Ek (hX b hb).1 h0.size,fun i hn=>(h0.hid b i (hX b hb).1).2 ((hX b hb).2 i hn)⟩,fun b i h=>(h0.stab b i (hT b i h)).1,fun id b h1 h2 hx=>?_⟩
  ·exact hn ⟨h.own id b h1 h2,fun hx=>h5 id b h1 h2 hx⟩
  ·exact(h0.far b (hX b hx).1 fun id0 h3 h4=>h5 id0 b h3 h4 hx).2 id h1 h2

theorem Sat.fits {B:List Nat} {w:World} {β:Gx} {l l':Fr} {L L':Loc} (hs:Sat w β L) (h:Fits B l L l' L'):Sat w β L':=by
 have hd:=h.drop
 refine⟨hs.hid,fun id b hid hb=>hs.bnd id b (hd.some hid) hb,fun id b j hid hb=>hs.apart id b j (hd.some hid) hb,fun id id' b h1 h2=>hs.inj id id' b (hd.some h1) (hd.some h2),fun id o' h6=>?_⟩
 obtain⟨o,ho,hc⟩:=h.loc.get h6
 have h0:=hs.obj id o ho
 cases hc with
 | same=>exact h0
 | map=>
  obtain⟨b,h1,h2⟩:=h0
  exact⟨b,h1,h2.mono rfl fun h=>h.mono fun b i hs=>⟨hd.stab hs,rfl⟩⟩
 | vec=>
  obtain⟨h7,h0⟩:=h0
  refine⟨h7,?_⟩
  rcases h0 with h0 | ⟨b,h1,vs,h2,h3,h4⟩
  ·exact .inl h0
  ·exact .inr ⟨b,h1,vs,h2,h3,fun j u v hu hv=>(h4 j u v hu hv).mono fun b i hs=>⟨hd.stab hs,rfl⟩⟩
 | pin=>
  obtain⟨h1,vs,h2,h3,h4⟩:=h0
  exact⟨h1,vs,h2,h3,fun j u v hu hv=>(h4 j u v hu hv).mono fun b i hs=>⟨hd.stab hs,rfl⟩⟩
 | iter hm=>
  obtain⟨b,h1,bm,h2,h4⟩:=h0
  exact⟨b,h1,bm,h2.drop hd hm,h4⟩
 | box hl hc=>
  obtain⟨b,h1,vs,h2,h3,h4⟩:=h0
  refine⟨b,h1,vs,h2,h3.trans hl,fun j u' v h5 hv=>?_⟩
  rename_i cs cs'
  have hj:j < cs.length:=by
   rcases Ep j cs'.length with h | h
   ·omega
   ·simp [List.getElem?_eq_none h] at h5
  exact(h4 j cs[j] v (by simp [hj]) hv).conv hd (hc j _ _ (by simp [hj]) h5)
theorem StI.fits {κ:Type} {E:Gc4 κ} {N:Cfg} {a:Act} {w:World} {β:Gx} {l l':Fr} {L L':Loc} {k:κ} (h:StI E N a w β l L k) (h0:Fits N.base l L l' L'):StI E N a w β l' L' k:=
 ⟨h.sat.fits h0,⟨fun t=>(h.frame.tmp t).conv h0.drop (h0.fr.get t)⟩,h.size,h.defers,h.old,fun id b h1 h2=>h.own id b (h0.drop.some h1) h2,(by obtain⟨X,T,h1,h2,h3,h4⟩:=h.gh; exact⟨X,T,h1,h2,fun b i h=>h0.drop.stab (h3 b i h),fun id b h=>h4 id b (h0.drop.some h)⟩),h.vis⟩

section code
variable {κ:Type} {E:Gc4 κ} {P:Program} {N:Cfg} {Q:G77 κ} {l:Fr} {L:Loc} {k:κ}

theorem G4e {x y:Code} (h:∀ K:Fr→Loc→κ→Prop,(∀ l L k,JI E P N y Q l L k→K l L k)→JI E P N x (Q.seq K) l L k):JI E P N (.seq x y) Q l L k:=
 fun n a w β hs=>wpIn_seq (Code.wpIn_mono (fun e a' w' q=>by
  cases e with
  | normal=>obtain⟨β',l',L',k',h0,hq⟩:=q; exact hq n a' w' β' h0
  | exit i=>exact q
  | ret=>exact q
  | goto l=>exact q
  | panic c=>exact q
  | outgrown=>exact q) (h (fun l L k=>JI E P N y Q l L k) (fun _ _ _ h=>h) n a w β hs))
theorem Hfe (h:Q.norm l L k):JI E P N .skip Q l L k:=fun _ _ _ β hs=>wpIn_skip ⟨β,l,L,k,hs,h⟩
theorem Ja3 {i:Nat} (h:Q.exit i l L k):JI E P N (.exit i) Q l L k:=fun _ _ _ β hs=>wpIn_exit ⟨β,l,L,k,hs,h⟩
theorem Hb8 {c:Operand} {x y:Code} {b:Bool} (hc:ev l c=.sc (.bool b)) (ht:b=true→JI E P N x Q l L k) (hf:b=false→JI E P N y Q l L k):JI E P N (.cond c x y) Q l L k:=
 fun n a w β hs=>by
  have hv:=hs.frame.ev c
  rw [hc] at hv
  exact wpIn_cond_split hv.inv_sc (fun e=>ht e n a w β hs) (fun e=>hf e n a w β hs)
theorem Hb9 {i:Nat} {c:Code} (h:JI E P N c (Q.blk i) l L k):JI E P N (.block i c) Q l L k:=
 fun n a w β hs=>wpIn_block (Code.wpIn_mono (fun e a' w' q=>by
  cases e with
  | normal=>exact q
  | exit j=>
   obtain⟨β',l',L',k',h0,hq⟩:=q
   simp only [Exit.inBlock]
   by_cases e:j=i
   ·subst e
    simp only [if_true]
    exact⟨β',l',L',k',h0,by simpa [G77.blk] using hq⟩
   ·have hb:Nat.beq j i=false:=by
     cases hb:Nat.beq j i with
     | false=>rfl
     | true=>exact absurd (En hb) e
    simp only [if_neg e]
    exact⟨β',l',L',k',h0,by simpa [G77.blk,e] using hq⟩
  | ret=>exact q
  | goto l=>exact q
  | panic c=>exact q
  | outgrown=>exact q) (h n a w β hs))
theorem G15 {id:Nat} {ops:List Oper} (h:JIL E P N ops.toArray ops Q l L k):JI E P N (.region id ops.toArray false) Q l L k:=
 fun n a w β hs=>wpIn_region_lit (h n a w β hs)
theorem G7d {ops:Array Oper} (h:Q.norm l L k):JIL E P N ops [] Q l L k:=fun _ _ _ β hs=>⟨β,l,L,k,hs,h⟩

theorem Q7d {c:Code} {l':Fr} {L':Loc} (h:Fits N.base l L l' L') (hk:JI E P N c Q l' L' k):JI E P N c Q l L k:=
 fun n a w β hs=>hk n a w β (hs.fits h)

theorem R3a {body:Code} {X:Type} (I:X→Prop) (F:X→Fr) (M:X→Loc) (kf:X→κ) (μ:X→Nat) (x0:X) (h0:I x0) (hf:Fits N.base l L (F x0) (M x0)) (hk:k=kf x0)
  (hr:∀ x,I x→∀ K:Fr→Loc→κ→Prop,(∀ l L x',I x'→μ x' < μ x→Fits N.base l L (F x') (M x')→K l L (kf x'))→JI E P N body (Q.seq K) (F x) (M x) (kf x)):JI E P N (.loop body) Q l L k:=by
 subst hk
 intro n a w β hs b kk cs h8 h6 h5
 have key:∀ m x a w β,μ x=m→I x→StI E N a w β (F x) (M x) (kf x) →
   ∃ e a' w',Q.out E N e a' w'∧ArrivesIn (Machine.fenced P Fence.wide) P (lone (b.atR a (.code body::.inLoop body::kk)) cs w) b kk cs e a' w':=by
  intro m
  induction m using Nat.strongRecOn with
  | _ m ih=>
   intro x a w β hn hI hs
   obtain⟨e,a₁,w₁,hq,h4⟩:=hr x hI (fun l L q=>∃ x',I x'∧μ x' < μ x∧Fits N.base l L (F x') (M x')∧q=kf x') (fun l L x' h1 h2 h3=>⟨x',h1,h2,h3,rfl⟩) n a w β hs b (.inLoop body::kk) cs h8 h6 h5
   cases e with
   | normal=>
    obtain⟨β',l',L',q,h9,x',a0,a1,h7,rfl⟩:=hq
    obtain⟨e₂,a₂,w₂,hq₂,harr₂⟩:=ih (μ x') (hn ▸ a1) x' a₁ w₁ β' rfl a0 (h9.fits h7)
    exact⟨e₂,a₂,w₂,hq₂,.of_steps (StepsIn.trans h4 (.one (fenced_calm h6 h5 rfl) stepR_inLoop)) harr₂⟩
   | exit id=>exact⟨.exit id,a₁,w₁,hq,.pass (x:=.inLoop body) rfl (fun _ _=>.inl (by simp)) h4⟩
   | goto l=>exact hq.elim
   | ret=>exact⟨.ret,a₁,w₁,hq,.pass (x:=.inLoop body) rfl (fun _ _=>.inl (by simp)) h4⟩
   | panic ch=>exact hq.elim
   | outgrown=>exact hq.elim
 obtain⟨e,a',w',hq,h4⟩:=key _ x0 a w β rfl h0 (hs.fits hf)
 exact⟨e,a',w',hq,.of_steps (.one (fenced_calm h6 h5 rfl) stepR_loop) h4⟩
end code

section ops
variable {κ:Type} {E:Gc4 κ} {P:Program} {N:Cfg} {Q:G77 κ} {l:Fr} {L L':Loc} {k:κ} {ops:Array Oper} {o:Oper} {rest:List Oper} {u:AV}

theorem Rv {d:Nat} (hE:E.Ok P) (h:Gn P o l L (Is u L')) (hk:JIL E P N ops rest Q ((d,u)::l) L' k) (hg:o.guard=none) (hd:o.dst=some d) (hn:Nat.blt d N.n=true) (h2:Zu o=true):JIL E P N ops (o::rest) Q l L k:=by
 intro n a w β hs
 refine G5e (ro:=none) hg h2 fun K hK=>h a w β K _ hs.sat hs.frame ?_
 intro u' L'' v w' β' hr h1 h0 hv
 obtain⟨rfl,rfl⟩:=hr
 have h3:d < a.tmps.size:=Ek (by simpa [Nat.blt_eq] using hn) hs.size
 rw [hd]
 exact hK _ _ (hk n _ w' β' (hs.step hE h0 h1 ((hs.frame.step h0).put h3 hv) (Act.put_size ..) (Act.put_defers' ..)))
theorem R3c (hE:E.Ok P) (h:Gn P o l L (Is u L')) (hk:JIL E P N ops rest Q l L' k) (hg:o.guard=none) (hd:o.dst=none) (h2:Zu o=true):JIL E P N ops (o::rest) Q l L k:=by
 intro n a w β hs
 refine G5e (ro:=none) hg h2 fun K hK=>h a w β K _ hs.sat hs.frame ?_
 intro u' L'' v w' β' hr h1 h0 hv
 obtain⟨rfl,rfl⟩:=hr
 rw [hd]
 exact hK _ _ (hk n _ w' β' (hs.step hE h0 h1 (hs.frame.step h0) rfl rfl))

theorem StI.round {L:Loc} {w w':World} {β:Gx} {X X':Nat→Prop} {T:Nat→Nat→Prop} (h0:Sat w β L) (hX:∀ b,X b→b < w.heap.size∧∀ i,¬ T b i→β.hid b i) (notX:∀ id b,(lk L id).isSome=true→β id=some b→¬ X b) (ht:R88 X w w')
  (hT:∀ b i,T b i→X b→Yv w' b i=Yv w b i) (h4:∀ b,b < w.heap.size→(X' b ↔ X b)) (h3:∀ b,X' b→b < w'.heap.size) :
  let β':Gx:=⟨β.at_,fun b i=>β.hid b i∨(w.heap.size≤b∧b < w'.heap.size)⟩
  Sat w' β' L∧Gf6 w β L w' β' L∧∀ b,X' b→b < w'.heap.size∧∀ i,¬ T b i→β'.hid b i:=by
 intro β'
 have same:∀ id b,(lk L id).isSome=true→β id=some b→w'.heap[b]? = w.heap[b]? := fun id b h1 h2=>ht.keep b (h0.bnd id b h1 h2) (notX id b h1 h2)
 have stab:∀ b i,J5 w β L b i→J5 w' β' L b i:=fun b i hs=>⟨Ek hs.lt ht.size,fun h=>h.elim hs.seen (fun h=>by have:=hs.lt; omega),hs.kept⟩
 have cell:∀ b i,J5 w β L b i→Yv w' b i=Yv w b i:=fun b i hs=>by
  by_cases hx:X b
  ·by_cases h:T b i
   ·exact hT b i h hx
   ·exact(hs.seen ((hX b hx).2 i h)).elim
  ·exact J4 (w:=w) (ht.keep b hs.lt hx)
 have stw:Gf6 w β L w' β' L:=⟨fun b i hs=>⟨stab b i hs,cell b i hs⟩,fun _ _ cs h=>⟨rfl,cs,h⟩,fun _ _ es h=>⟨rfl,es,h⟩,fun _ _ n es h=>⟨rfl,n,es,h⟩,
  fun id _ _ ver xs h=>⟨ver,xs,h,Kb,fun _=>⟨rfl,rfl,fun b hb=>Y6 (same id b (by rw [h]; rfl) hb)⟩⟩,
  fun id _ _ ver hw h=>⟨ver,hw,h,Kb,fun _=>⟨rfl,rfl,fun b hb=>same id b (by rw [h]; rfl) hb⟩⟩⟩
 refine⟨⟨fun b i h=>h.elim (fun h=>Ek (h0.hid b i h) ht.size) (fun h=>h.2),fun id b h1 h2=>Ek (h0.bnd id b h1 h2) ht.size,fun id b j h1 h2 h=>h.elim (h0.apart id b j h1 h2) (fun h=>by have:=h0.bnd id b h1 h2; omega),h0.inj,
  fun id o ho=>(h0.obj id o ho).stepW stw (fun b hb=>same id b (by rw [ho]; rfl) hb)⟩,stw,fun b hb=>⟨h3 b hb,fun i hn=>?_⟩⟩
 rcases Ep b w.heap.size with h | h
 ·exact .inl ((hX b ((h4 b h).1 hb)).2 i hn)
 ·exact .inr ⟨h,h3 b hb⟩

def Hbe (l:Fr):List Operand→List AV→Prop
 | [],[]=>True
 | x::r,u::s=>ev l x=u∧u.isData=true∧Hbe l r s
 | _,_=>False
theorem Hbe.length {l:Fr}:∀ {xs:List Operand} {us:List AV},Hbe l xs us→xs.length=us.length
 | [],[],_=>rfl
 | _::_,_::_,h=>by simp [Hbe.length h.2.2]
 | [],_::_,h=>h.elim
 | _::_,[],h=>h.elim
theorem Hbe.get {l:Fr}:∀ {xs:List Operand} {us:List AV},Hbe l xs us→∀ {j:Nat} {x:Operand} {u:AV},xs[j]? = some x→us[j]? = some u→ev l x=u∧u.isData=true
 | _::_,_::_,h,0,x,u,hx,hu=>by simp at hx hu; subst hx; subst hu; exact⟨h.1,h.2.1⟩
 | _::_,_::_,h,j+1,x,u,hx,hu=>Hbe.get h.2.2 (by simpa using hx) (by simpa using hu)
 | [],[],_,j,x,u,hx,_=>by simp at hx
 | [],_::_,h,_,_,_,_,_=>h.elim
 | _::_,[],h,_,_,_,_,_=>h.elim

theorem Qb0 {k':κ} {d:Nat} {x:Operand} {xs:List Operand} {us:List AV} {ts:Array TypeId} (hE:E.Ok P) (ho:o.op=.call { callee:=.value x,args:=xs.toArray,argTypes:=ts }) (hx:ev l x=.sc (.func (.yield E.lp) #[] #[]))
  (ha:Hbe l xs us) (hy:E.nx k us k') (hk:JIL E P N ops rest Q ((d,BL true)::l) L k') (hg:o.guard=none) (hd:o.dst=some d) (hn:Nat.blt d N.n=true):JIL E P N ops (o::rest) Q l L k:=by
 intro n a w β hs
 obtain⟨X,T,hJ,hX,hT,h6⟩:=hs.gh
 have a1:d < a.tmps.size:=Ek (by simpa [Nat.blt_eq] using hn) hs.size
 have hv:=hs.frame.ev x
 rw [hx] at hv
 have a2:=hv.inv_sc
 obtain⟨fn,tmps,assign,body,hr,hR⟩:=hE.round (n - 1) k k' us X T (fun b i=>T b i∨(E.W0.heap.size≤b∧J5 w β L b i)) w (xs.toArray.map a.eval) hy hJ (fun b i h=>.inl h) (fun b i h hn=>h.elim (fun h=>(hn h).elim) fun h=>⟨h.1,fun hx=>h.2.seen ((hX b hx).2 i fun h'=>by have:=hE.sees b i h'; have:=h.1; omega),h.2.lt⟩) (by simp [ha.length]) (fun j u v hu hv=>by
  simp only [Array.getElem?_map,List.getElem?_toArray,Option.map_eq_some_iff] at hv
  obtain⟨y,hy,rfl⟩:=hv
  obtain⟨h1,h2⟩:=ha.get hy hu
  have:=hs.frame.ev y
  rw [h1] at this
  exact(this.toD h2).mono fun b i h7=>⟨(Ep b E.W0.heap.size).elim (fun h=>.inl (hs.vis b i h h7.seen)) (fun h=>.inr (.inr ⟨h,h7⟩)),rfl⟩)
 refine wpListIn_plain hg fun K hK=>?_
 refine⟨fun _ _=>trivial,?_⟩
 have h9:(execOp a.eval o).run P w=.ok (.round E.lp fn tmps assign body) w:=by
  have h0:(execOp a.eval o).run P w=(Instr.yield E.lp (xs.toArray.map a.eval)).run P w:=by
   simp [execOp,ho,resolve,a2,Deferred.ofValue,invoke]
   done
  rw [h0,hr]
 rw [show o.semAt Fence.wide.round a.eval=execOp a.eval o from rfl,h9,Oper.uponIn_round]
 refine⟨fun e=>(by cases e),hR.mono fun e w' h=>?_⟩
 obtain⟨rfl,X',a3,ht,h8,a0,a4⟩:=h
 have a5:∀ b i,(T b i∨(E.W0.heap.size≤b∧J5 w β L b i))→J5 w β L b i:=fun b i h=>h.elim (hT b i) (·.2)
 obtain⟨h1,h2,h3⟩:=StI.round (T:=E.S) hs.sat hX h6 ht (fun b i h _=>a4 b i h) h8 a0
 rw [hd]
 refine hK _ _ (hk n _ w' _ ⟨h1,(hs.frame.stepW h2).put a1 .sc,by rw [Act.put_size]; exact hs.size,by rw [Act.put_defers']; exact hs.defers,Nat.le_trans hs.old ht.size,hs.own,⟨X',_,a3,h3,fun b i h=>(h2.stab b i (a5 b i h)).1,fun id b h4 h5 hx=>h6 id b h4 h5 ((h8 b (hs.sat.bnd id b h4 h5)).1 hx)⟩,fun b i hb hn=>hs.vis b i hb fun h=>hn (.inl h)⟩)

theorem R00 {g:FuncId} {fn:Func} {c:Code} {caps:List AV} {κ:Type} {k0:κ} {nx:κ→List AV→κ→Prop} {fi:κ→Prop} (hf:P.funcs[g]? = some fn) (hb:fn.body=some c) (h2:fn.results=#[])
  (h:∀ E:Gc4 κ,E.Ok P→E.nx=nx→JI E P ⟨fn.ntmps,[],none⟩ c ⟨fun _ _ k=>fi k,fun _ _ k=>fi k,fun _ _ _ _=>False⟩ (G8d 0 (.sc (.func (.yield E.lp) #[] #[])::caps)) [] k0):R01 P g caps k0 nx fi:=by
 intro n E lb X0 hE h4 hl h3 h0 hJ
 have h5:(#[Value.func (.yield E.lp) #[] #[]]++lb).size=(AV.sc (.func (.yield E.lp) #[] #[])::caps).length:=by simp [hl]; omega
 refine callsIn_of_wp hf hb trivial (Code.wpIn_mono (fun e a' w' q=>?_) (h E hE h4 n _ E.W0 ⟨fun _=>none,fun b i=>¬ E.S b i∧b < E.W0.heap.size⟩ ⟨⟨fun b i h=>h.2,fun id b h=>by simp [lk] at h,fun id b j h=>by simp [lk] at h,fun id id' b h=>by simp [lk] at h,fun id o h=>by simp [lk] at h⟩,⟨fun t=>?_⟩,?_,rfl,Kb,fun id b h=>by simp [lk] at h,⟨X0,_,hJ,fun b hb=>⟨h0 b hb,fun i hn=>⟨hn,h0 b hb⟩⟩,fun _ _ h=>h.elim,fun id b h=>by simp [lk] at h⟩,fun b i hb hn=>Classical.byContradiction fun h=>hn ⟨h,hb⟩⟩))
 ·have fin:(∃ β' l' L' k',StI E ⟨fn.ntmps,[],none⟩ a' w' β' l' L' k'∧fi k')→a'.defers=[]∧∃ v,(results fn a'.tmps).run P w'=.ok v w'∧((∃ v',Ending.returned v=.returned v')∧∃ k X T,fi k∧E.J k X T w'):=by
   rintro⟨β',l',L',k',hs,h6⟩
   obtain⟨X,T,hX,_⟩:=hs.gh
   exact⟨hs.defers,_,results_none h2 _ _ _,⟨_,rfl⟩,k',X,T,h6,hX⟩
  cases e with
  | normal=>exact fin q
  | ret=>exact fin q
  | exit i=>obtain⟨_,_,_,_,_,hq⟩:=q; exact hq.elim
  | goto l=>exact q.elim
  | panic c=>exact q.elim
  | outgrown=>exact q.elim
 ·rw [H38]
  simp only [Nat.zero_le,if_true,Nat.sub_zero]
  cases hu:(AV.sc (.func (.yield E.lp) #[] #[])::caps)[t]? with
  | none=>exact .junk
  | some u=>
   have ht:t < (#[Value.func (.yield E.lp) #[] #[]]++lb).size:=by rw [h5]; exact(Ex hu).1
   have e:((#[Value.func (.yield E.lp) #[] #[]]++lb)++Array.replicate (fn.ntmps - (#[Value.func (.yield E.lp) #[] #[]]++lb).size) undef).getD t undef=(#[Value.func (.yield E.lp) #[] #[]]++lb)[t]:=by
    rw [Array.getD_eq_getD_getElem?,Array.getElem?_append_left ht,Array.getElem?_eq_getElem ht]; rfl
   rw [e]
   cases t with
   | zero=>simp at hu; subst hu; simp; exact .sc
   | succ t=>
    have h1:caps[t]? = some u:=by simpa using hu
    have h7:t < lb.size:=by rw [hl]; exact(Ex h1).1
    have hv:=h3 t u lb[t] h1 (by simp [h7])
    have ev:(#[Value.func (.yield E.lp) #[] #[]]++lb)[t+1]=lb[t]:=by simp [Array.getElem_append]
    rw [ev]
    exact .data (hv.mono fun b i hs=>⟨⟨hE.sees b i hs,fun h=>h.1 hs,fun id o h=>by simp [lk] at h⟩,rfl⟩)
 ·simp; omega
theorem R3e {g:FuncId} {fn:Func} {c:Code} {caps:List AV} {ys:List (List AV)} (hf:P.funcs[g]? = some fn) (hb:fn.body=some c) (h0:fn.results=#[])
  (h:∀ E:Gc4 Nat,E.Ok P→E.nx=Q71 ys→JI E P ⟨fn.ntmps,[],none⟩ c ⟨fun _ _ k=>k=ys.length,fun _ _ k=>k=ys.length,fun _ _ _ _=>False⟩ (G8d 0 (.sc (.func (.yield E.lp) #[] #[])::caps)) [] 0):Iter P g caps ys:=R00 hf hb h0 h
end ops

section code
variable {κ:Type} {E:Gc4 κ} {P:Program} {N:Cfg} {Q:G77 κ} {l:Fr} {L:Loc} {k:κ}
theorem Je7 {body:Code} {σ:Type} (I:Nat→σ→Prop) (F:Nat→σ→Fr) (M:Nat→σ→Loc) (kf:Nat→σ→κ) (μ:Nat→Nat) (i0:Nat) (s0:σ) (h0:I i0 s0) (hf:Fits N.base l L (F i0 s0) (M i0 s0)) (hk:k=kf i0 s0)
  (hr:∀ i s,I i s→∀ K:Fr→Loc→κ→Prop,(∀ l L i' s' k',I i' s'→μ i' < μ i→Fits N.base l L (F i' s') (M i' s')→k'=kf i' s'→K l L k')→JI E P N body (Q.seq K) (F i s) (M i s) (kf i s)):JI E P N (.loop body) Q l L k:=
 R3a (fun x:Nat×σ=>I x.1 x.2) (fun x=>F x.1 x.2) (fun x=>M x.1 x.2) (fun x=>kf x.1 x.2) (fun x=>μ x.1) (i0,s0) h0 hf hk
  (fun x hi K hK=>hr x.1 x.2 hi K (fun l L i' s' k' h1 h2 h3 h4=>h4 ▸ hK l L (i',s') h1 h2 h3))
theorem Qfa {c:Operand} {x y:Code} (hc:ev l c=.sc (.bool false)) (hf:JI E P N y Q l L k):JI E P N (.cond c x y) Q l L k:=Hb8 hc (fun e=>by cases e) (fun _=>hf)
theorem Qbd {E:Gc4 Nat} {k:Nat} {α:Type} [DecidableEq α] {f:α→List AV} {ys:List α} {x:α} (h0:E.nx=Q71 (ys.map f)) (h:decide (ys[k]? = some x)=true):E.nx k (f x) (k+1):=by
 rw [h0]; exact⟨by rw [Kf,Es h]; rfl,rfl⟩
theorem R18 {k:Nat} {α:Type} {f:α→List AV} {ys:List α} (h:decide (k=ys.length)=true):k=(ys.map f).length:=by
 rw [Kn]; exact Es h
theorem R2a {α β:Type} {f:α→β} {ys:List α} {k:Nat} {u:β} (h:(ys.map f)[k]? = some u):∃ hk:k < ys.length,u=f ys[k]:=by
 rw [Kf] at h
 cases hy:ys[k]? with
 | none=>rw [hy] at h; cases h
 | some y=>
  rw [hy] at h
  obtain⟨hk,e⟩:=Ex hy
  exact⟨hk,by rw [e]; exact(Ez h).symm⟩
end code
end Go.Proofs.YtokjlondbjdlfaaGreat
