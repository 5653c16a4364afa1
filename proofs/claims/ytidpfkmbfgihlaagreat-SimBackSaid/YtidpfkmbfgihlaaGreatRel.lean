/-
 Parts of slices that the call may write in place: slicing,copy,clear. Calls that leave objects whose versions are not known beforehand. Models of functions that range over maps: from the model that fixes the order of each range to the one that holds for every order.
-/
import Derived.Test.YtidpfkmbfgihlaaGreatDraw2
namespace Go.Proofs.YtidpfkmbfgihlaaGreat
open Go.RowKit

def Qa2 (w:World) (S:Nat→Nat→Prop) (k:Nat) (ys:List AV) (v:Value):Prop:=
 (∀ y∈ys,y.cells.length=k)∧∃ (a:Option Addr) (cap:Nat) (cs:List Value),v=.slice a ys.length cap∧(a=none→ys=[])∧cs.length=ys.length*k∧(∀ (ad:Addr) (j:Nat) u,a=some ad→cs[j]? = some u→w.cell? (ad.add j)=some u) ∧
  ∀ (j:Nat) u x,(flat ys)[j]? = some u→cs[j]? = some x→D w S u x

theorem V.inv_vsl {w:World} {β:H4} {L:Loc} {i ver k k' off n t:Nat} {xs:List AV} {x:Value} (hi:lk L i=some (.vec t k' ver xs)) (h:V w β L (.vsl i ver k off n) x):k=k'∧off+n≤xs.length∧Qa0 (β.at_ i) k off n x:=by
 cases h with
 | data h=>cases h
 | vsl hp _=>
  obtain⟨t',ver',xs',h1,_,h3⟩:=hp
  rw [hi] at h1; cases h1
  exact⟨rfl,(h3 rfl).1,(h3 rfl).2.1⟩
theorem V.inv_vsl0 {w:World} {β:H4} {L:Loc} {i ver k k' n t:Nat} {xs:List AV} {x:Value} (hi:lk L i=some (.vec t k' ver xs)) (h:V w β L (.vsl i ver k 0 n) x):Qa1 w (β.at_ i) t k n x:=by
 cases h with
 | data h=>cases h
 | vsl hp _=>
  obtain⟨t',ver',xs',h1,_,h3⟩:=hp
  rw [hi] at h1; cases h1
  exact(h3 rfl).2.2 rfl

theorem J8a {w:World} {β:H4} {L:Loc} {i ver k t n:Nat} {xs:List AV} {x:Value} (hsat:Sat w β L) (hi:lk L i=some (.vec t k ver xs)) (hv:V w β L (.vec i ver k n) x):n=xs.length∧Qa0 (β.at_ i) k 0 n x:=by
 obtain⟨rfl,_,h⟩:=G5b hsat hi hv
 refine⟨rfl,?_⟩
 rcases h with ⟨rfl,rfl,_⟩ | ⟨b,cap,vs,rfl,h1,h2,h3,_⟩
 ·exact⟨none,0,rfl,Nat.le_refl _,Nat.zero_le _,.inl rfl⟩
 ·exact⟨_,cap,rfl,h2,h3,.inr ⟨b,h1,by rw [Nat.zero_mul]⟩⟩

theorem Q7d {w:World} {β:H4} {L:Loc} {i ver k t off n:Nat} {xs:List AV} {x:Value} (hsat:Sat w β L) (hi:lk L i=some (.vec t k ver xs)) (hn:off+n≤xs.length) (h:Qa0 (β.at_ i) k off n x):Qa2 w (Jt w β L) k ((xs.drop off).take n) x:=by
 obtain⟨o1,o2⟩:=hsat.obj i _ hi
 have hk:∀ y∈(xs.drop off).take n,y.cells.length=k:=fun y hy=>o1 y (List.mem_of_mem_drop (List.mem_of_mem_take hy))
 have hl:((xs.drop off).take n).length=n:=by simp; omega
 refine⟨hk,?_⟩
 obtain⟨a,cap,rfl,h1,h2,h3⟩:=h
 rw [hl]
 by_cases h0:n=0
 ·subst h0
  exact⟨a,cap,[],rfl,fun _=>by simp,by simp,fun ad j u _ hu=>by simp at hu,fun j u x _ hx=>by simp at hx⟩
 ·rcases h3 with h3 | ⟨b,hb,rfl⟩
  ·exact absurd h3 h0
  ·obtain⟨q1,vs,q2,q3,q4⟩:=H16 hsat hi hb
   have hm:off*k+n*k≤xs.length*k:=by rw [← Nat.add_mul]; exact Nat.mul_le_mul_right _ hn
   refine⟨_,cap,(vs.toList.drop (off*k)).take (n*k),rfl,(fun e=>by cases e),by simp; omega,fun ad j u e hu=>?_,fun j u x hu hx=>?_⟩
   ·cases e
    have hj:=(List.getElem?_eq_some_iff.1 hu).1
    rw [List.length_take] at hj
    rw [List.getElem?_take,if_pos (by omega),List.getElem?_drop] at hu
    rw [Addr.add_lit]
    simp [World.cell?,q2]
    simpa using hu
   ·have hj:=(List.getElem?_eq_some_iff.1 hx).1
    rw [List.length_take] at hj
    rw [List.getElem?_take,if_pos (by omega),List.getElem?_drop] at hx
    have hk2:∀ y∈xs.drop off,y.cells.length=k:=fun y hy=>o1 y (List.mem_of_mem_drop hy)
    rw [G77 hk2,J43 o1,List.getElem?_take,if_pos (by omega),List.getElem?_drop] at hu
    exact q4 _ u x hu (by simpa using hx)

theorem Ref {w:World} {S:Nat→Nat→Prop} {k k':Nat} {ys:List AV} {x:Value} (h:D w S (.list k' ys) x) (hk:k'=k∨ys=[]):Qa2 w S k ys x:=by
 obtain⟨ao,cap,rfl,_⟩:=h.len
 obtain⟨_,h1,h2,cs,h3,h4,h5⟩:=h.vals
 have hk2:∀ y∈ys,y.cells.length=k:=by
  rcases hk with rfl | rfl
  ·exact h1
  ·simp
 refine⟨hk2,ao,cap,cs,rfl,fun e=>List.eq_nil_of_length_eq_zero (h2 e),h3.trans (J1 hk2),h4,fun j u x hu hx=>?_⟩
 obtain⟨x',hx',hd⟩:=h5 j u hu
 rw [hx] at hx'; cases hx'
 exact hd

def J2a (L:Loc) (k:Nat) (s:AV) (ys:List AV):Prop:=
 (∃ kx,Qf s=some (kx,ys)∧(kx=k∨ys=[]))∨(∃ i ver n t,s=.vec i ver k n∧lk L i=some (.vec t k ver ys))∨(∃ i ver off n t zs,s=.vsl i ver k off n∧lk L i=some (.vec t k ver zs)∧ys=(zs.drop off).take n)
theorem J2a.reads {w:World} {β:H4} {L:Loc} {k:Nat} {s:AV} {ys:List AV} {x:Value} (hsat:Sat w β L) (h:J2a L k s ys) (hv:V w β L s x):Qa2 w (Jt w β L) k ys x:=by
 rcases h with ⟨kx,h1,h2⟩ | ⟨i,ver,n,t,rfl,hi⟩ | ⟨i,ver,off,n,t,zs,rfl,hi,rfl⟩
 ·exact Ref (hv.Qf h1) h2
 ·obtain⟨rfl,h⟩:=J8a hsat hi hv
  have:=Q7d hsat hi (by simp) h
  simpa using this
 ·obtain⟨_,h1,h2⟩:=hv.inv_vsl hi
  exact Q7d hsat hi h1 h2
def R94 (L:Loc) (k:Nat) (s:AV) (i ver off n t:Nat) (xs:List AV):Prop:=
 lk L i=some (.vec t k ver xs)∧((s=.vec i ver k n∧off=0)∨s=.vsl i ver k off n)
theorem R94.out {w:World} {β:H4} {L:Loc} {k i ver off n t:Nat} {s:AV} {xs:List AV} {x:Value} (hsat:Sat w β L) (h:R94 L k s i ver off n t xs) (hv:V w β L s x):off+n≤xs.length∧Qa0 (β.at_ i) k off n x:=by
 obtain⟨hi,⟨rfl,rfl⟩ | rfl⟩:=h
 ·obtain⟨rfl,h⟩:=J8a hsat hi hv
  exact⟨by simp,h⟩
 ·exact(hv.inv_vsl hi).2

section ops
variable {P:Program} {N:Cfg} {o:Oper} {l:Fr} {L L':Loc} {u:AV} {α:Type}

end ops

/-! ### Typed elements -/
section typed
variable {P:Program} {o:Oper} {l:Fr} {L:Loc} {α:Type}
def R89 (k:IntKind) (m n:Int):Int:=k.wrap (BitVec.ofInt k.bits m &&& BitVec.ofInt k.bits n).toNat
def Jd0 (k:IntKind) (m:Int) (s:Nat):Int:=m.fdiv (2 ^ (min s k.bits))
theorem Yb8 {T T':Nat} {x y:Operand} {k:IntKind} {m n:Int} (ho:o.op=.binOp .and T x y T') (hx:ev l x=.sc (.int k m)) (hy:ev l y=.sc (.int k n)):H0 P o l L (Is (.sc (.int k (R89 k m n))) L):=
 H88 (fun P w=>by simp [eqGuard,binOp,Op.intBits,R89]) hx hy ho
theorem Y06 {T T':Nat} {x y:Operand} {k k':IntKind} {m n:Int} {s:Nat} (hn:n=(s:Int)) (ho:o.op=.binOp .shr T x y T') (hx:ev l x=.sc (.int k m)) (hy:ev l y=.sc (.int k' n)):H0 P o l L (Is (.sc (.int k (Jd0 k m s))) L):=
 Z50 hn rfl ho hx hy
end typed
end Go.Proofs.YtidpfkmbfgihlaaGreat
set_option linter.unusedVariables false
namespace Go.Proofs.YtidpfkmbfgihlaaGreat
open Go.RowKit

theorem Jg.mono {P:Program} {f:FuncId} {args:List AV} {L0:Loc} {R R':AV→Loc→Prop} (h:Jg P f args L0 R) (hr:∀ u L,R u L→R' u L):Jg P f args L0 R':=fun w β vs a b c=>
 (h w β vs a b c).mono fun e w' hh=>by
  obtain⟨v,r,β',L',h1,h2,h3,h4,h5⟩:=hh
  exact⟨v,r,β',L',h1,h2,h3,h4,hr _ _ h5⟩
theorem Pure.monoP {P:Program} {f:FuncId} {args:List AV} {R R':AV→Prop} (h:Pure P f args R) (hr:∀ u,R u→R' u):Pure P f args R':=Jg.mono h (fun u L hh=>⟨hh.1,hr u hh.2⟩)
def Rf4:Loc→List Nat→Bool
 | [],_=>true
 | (i,_)::r,B=>B.any (Nat.beq i)&&Rf4 r B
theorem G4e {B:List Nat}:∀ {L0:Loc},Rf4 L0 B=true→∀ id,(lk L0 id).isSome=true→id∈B
 | [],_,id,h=>by simp [lk] at h
 | (i,o)::r,hb,id,h=>by
  simp only [Rf4,Bool.and_eq_true,List.any_eq_true] at hb
  rw [Gh] at h
  by_cases e:i=id
  ·obtain⟨x,hx,hxi⟩:=hb.1
   rw [← e,Nat.eq_of_beq_eq_true hxi]; exact hx
  ·rw [if_neg e] at h; exact G4e hb.2 id h

theorem G81 {P:Program} {N:Cfg} {c:Code} {Q:Post} {l:Fr} {L:Loc} (s:Nat) {i ver k n E:Nat} {xs:List AV} (h1:look l s=.vec i ver k n) (hi:lk L i=some (.vec E k ver xs)) (h:n=xs.length→JC P N c Q l L):JC P N c Q l L:=fun n w0 β0 L0 a w β hs=>
 h (by
  have hv:=hs.frame.tmp s
  rw [h1] at hv
  exact(G5b hs.sat hi hv).1) n w0 β0 L0 a w β hs
theorem R92 {P:Program} {N:Cfg} {o:Oper} {ops:Array Oper} {rest:List Oper} {Q:Post} {l:Fr} {L:Loc} {α:Type} {x:Operand} {T E k k' d i ver n:Nat} {f:α→AV} {xs:List α} (hT:sliceB P T E k'=true) (ho:o.op=.call { callee:=.builtin .len,args:=#[x],argTypes:=#[T] }) (hx:ev l x=.vec i ver k n) (hi:lk L i=some (.vec E k ver (xs.map f)))
  (hk:xs.length≤maxLen→JL P N ops rest Q ((d,I64 (xs.length:Int))::l) L) (hg:o.guard=none) (hd:o.dst=some d) (hn:Nat.blt d N.n=true):JL P N ops (o::rest) Q l L:=by
 intro n w0 β0 L0 a w β hs
 have hv:=hs.frame.ev x
 rw [hx] at hv
 obtain⟨e,_,h⟩:=G5b hs.sat hi hv
 rw [List.length_map] at e
 subst e
 have hm:xs.length≤maxLen:=by
  rcases h with ⟨_,h2,_⟩ | ⟨b,cap,vs,_,_,h3,h4,_⟩
  ·rw [List.map_eq_nil_iff] at h2
   rw [h2]; exact Nat.zero_le _
  ·rw [List.length_map] at h3; exact Nat.le_trans h3 h4
 exact G0 (J83 hT ho hx hi) (hk hm) hg hd hn (by unfold G4c; rw [ho]) n w0 β0 L0 a w β hs

section calls
variable {P:Program} {o:Oper} {l:Fr} {L:Loc} {γ:Type}
theorem Q97 {f:FuncId} {vs:Array Value} {args:List AV} {L0:Loc} {u:γ→AV} {Lr:γ→Loc} {a:Act} {w:World} {β:H4} {K:Act→World→Prop} {Q:Exit→Act→World→Prop} (hc:Jg P f args L0 (fun r L'=>∃ p,r=u p∧L'=Lr p)) (hsat:Sat w β L)
  (hsub:Qd1 L L0) (hcl:closedIn (inL L0) L0=true) (hnew:∀ p,H45 L L0 (Lr p)=true) (hl:vs.size=args.length)
  (hv:∀ (j:Nat) u v,args[j]? = some u→vs[j]? = some v→V w β L u v∧u.refs (inL L0)=true)
  (hK:∀ u' L' v w' β',(∃ p,u'=u p∧L'=Lr p++Hb2 L L0)→Sat w' β' L'→Step w β L w' β' L'→V w' β' L' u' v→K (a.put o.dst v) w') :
  Calls P f vs w fun
   | .returned v,w''=>K (a.put o.dst v) w''
   | .panicked chain,w''=>Q (.panic chain) a w''
   | .outgrown,_=>LetsOut Q:=by
 refine(Q8d hc hsat (fun id ob h=>hsub.get h) (fun id ob h=>closedIn.get hcl h) hl hv (fun r L' hR id h=>by obtain⟨p,_,rfl⟩:=hR; exact H45.get (hnew p) h)).mono fun e w' h=>?_
 obtain⟨v,r,β',L',rfl,⟨p,rfl,rfl⟩,h1,h2,h3⟩:=h
 exact hK _ _ v w' _ ⟨p,rfl,rfl⟩ h1 h2 h3

theorem Qc5 {f:FuncId} {xs:List Operand} {args:List AV} {ts:Array TypeId} {L0:Loc} {u:γ→AV} {Lr:γ→Loc} (ho:o.op=.call { callee:=.value (.func f),args:=xs.toArray,argTypes:=ts }) (hc:Jg P f args L0 (fun r L'=>∃ p,r=u p∧L'=Lr p)) (hB:H7 P f=true) (ha:J05 l L0 xs args)
  (hsub:Qd1 L L0) (hcl:closedIn (inL L0) L0=true) (hnew:∀ p,H45 L L0 (Lr p)=true):H0 P o l L (fun u' L''=>∃ p,u'=u p∧L''=Lr p++Hb2 L L0):=by
 intro a w β K Q hsat hf hK
 have hr:(execOp a.eval o).run P w=.ok (.enter f (xs.toArray.map a.eval)) w:=by
  simp [execOp,ho,resolve,Act.eval,Deferred.ofValue,invoke,H7.out hB]
 unfold Oper.wp
 rw [hr]
 refine Q97 hc hsat hsub hcl hnew (by simp [ha.length]) (fun j u v hu hv=>?_) hK
 simp only [Array.getElem?_map,List.getElem?_toArray,Option.map_eq_some_iff] at hv
 obtain⟨x,hx,rfl⟩:=hv
 obtain⟨h1,h2⟩:=ha.get hx hu
 refine⟨?_,h2⟩
 rcases h1 with h1 | h1
 ·rw [← h1]; exact hf.ev x
 ·rw [← h1]; exact(hf.ev x).plain

end calls
end Go.Proofs.YtidpfkmbfgihlaaGreat
namespace Go.Proofs.YtidpfkmbfgihlaaGreat
open Go.RowKit

section rel
variable {α β σ R:Type} {r:R}
def Rel (r:R) (m:Option Prop) (d:Option R):Prop:=d=some r→∃ p:Prop,m=some p∧p
theorem J9d {e:R}:Rel r (some (e=r)) (some e):=fun h=>⟨_,rfl,Option.some.inj h⟩
theorem J1a {m:Option Prop}:Rel r m none:=fun h=>by cases h
theorem J37 {m:Option α} {k:α→Option Prop} {k':α→Option R} (h:∀ x,Rel r (k x) (k' x)):Rel r (bnd m k) (bnd m k'):=by
 cases m with
 | none=>exact J1a
 | some x=>exact h x
theorem H94 {c:Bool} {x y:Option Prop} {x' y':Option R} (h1:c=true→Rel r x x') (h2:c=false→Rel r y y'):Rel r (bif c then x else y) (bif c then x' else y'):=by
 cases c with
 | true=>exact h1 rfl
 | false=>exact h2 rfl
theorem Y14 {z:Int} {k:Int→Option Prop} {k':Int→Option R} (h:∀ x,Rel r (k x) (k' x)):Rel r (chk z k) (chk z k'):=by
 unfold chk; exact H94 (fun _=>h z) (fun _=>J1a)
theorem Z09 {m:(α→Option Prop)→Option Prop} {m':(α→Option R)→Option R} {k:α→Option Prop} {k':α→Option R} (h:∀ K K',(∀ a,Rel r (K a) (K' a))→Rel r (m K) (m' K')) (hk:∀ a,Rel r (k a) (k' a)):Rel r (jp m k) (jp m' k'):=h k k' hk
theorem J9e {b:α→Nat→σ→(σ→Option Prop)→Option Prop} {b':α→Nat→σ→(σ→Option R)→Option R} {kx:σ→Option Prop} {kx':σ→Option R}
  (h:∀ x i s nx nx',(∀ s,Rel r (nx s) (nx' s))→Rel r (b x i s nx) (b' x i s nx')) (hk:∀ s,Rel r (kx s) (kx' s)):∀ {xs:List α} {i:Nat} {s:σ},Rel r (each b kx xs i s) (each b' kx' xs i s)
 | [],_,s=>hk s
 | x::_,i,s=>h x i s _ _ (fun _=>J9e h hk)
theorem J9a {c:α→Bool} {e e':β}:∀ (l:List α) (s:Unit),H24 (fun x (_:Unit) nx=>bif c x then lft (some e) else nx ()) (fun _=>some e') l s=some (bif l.any c then e else e')
 | [],_=>rfl
 | x::l,s=>by
  rw [H24]
  cases hc:c x with
  | true=>simp [lft,hc]
  | false=>simp [hc,J9a l]
theorem Yc2 {c:α→Bool} {e e':R} {l:List α}:Rel r (Hfb (fun x (_:Unit) nx=>bif c x then lft (some (e=r)) else nx ()) (fun _=>some (e'=r)) l ()) (H24 (fun x (_:Unit) nx=>bif c x then lft (some e) else nx ()) (fun _=>some e') l ()):=fun h=>by
 refine⟨_,rfl,fun q hq=>?_⟩
 rw [J9a] at h
 refine⟨_,J9a q (),?_⟩
 have hany:q.any c=l.any c:=by
  rw [Bool.eq_iff_iff,List.any_eq_true,List.any_eq_true]
  exact⟨fun⟨x,h1,h2⟩=>⟨x,hq.mem_iff.1 h1,h2⟩,fun⟨x,h1,h2⟩=>⟨x,hq.mem_iff.2 h1,h2⟩⟩
 rw [hany]
 have:=Option.some.inj h
 cases hc:l.any c <;> rw [hc] at this <;> exact this
end rel
end Go.Proofs.YtidpfkmbfgihlaaGreat
