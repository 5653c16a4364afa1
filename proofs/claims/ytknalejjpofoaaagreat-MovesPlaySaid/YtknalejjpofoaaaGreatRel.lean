/-
 Calls that leave objects whose versions are not known beforehand. Models of functions that range over maps: from the model that fixes the order of each range to the one that holds for every order.
-/
import Derived.Test.YtknalejjpofoaaaGreatSub
set_option linter.unusedVariables false
namespace Go.Proofs.YtknalejjpofoaaaGreat
open Go.RowKit

theorem Jn.mono {P:Program} {f:FuncId} {args:List AV} {L0:Loc} {R R':AV→Loc→Prop} (h:Jn P f args L0 R) (hr:∀ u L,R u L→R' u L):Jn P f args L0 R':=fun w β vs a b c=>
 (h w β vs a b c).mono fun e w' hh=>by
  obtain⟨v,r,β',L',h1,h2,h3,h4,h5⟩:=hh
  exact⟨v,r,β',L',h1,h2,h3,h4,hr _ _ h5⟩
theorem Pure.monoP {P:Program} {f:FuncId} {args:List AV} {R R':AV→Prop} (h:Pure P f args R) (hr:∀ u,R u→R' u):Pure P f args R':=Jn.mono h (fun u L hh=>⟨hh.1,hr u hh.2⟩)
def inAllB:Loc→List Nat→Bool
 | [],_=>true
 | (i,_)::r,B=>B.any (Nat.beq i)&&inAllB r B
theorem G2e {B:List Nat}:∀ {L0:Loc},inAllB L0 B=true→∀ id,(lk L0 id).isSome=true→id∈B
 | [],_,id,h=>by simp [lk] at h
 | (i,o)::r,hb,id,h=>by
  simp only [inAllB,Bool.and_eq_true,List.any_eq_true] at hb
  rw [Gm] at h
  by_cases e:i=id
  ·obtain⟨x,hx,hxi⟩:=hb.1
   rw [← e,Nat.eq_of_beq_eq_true hxi]; exact hx
  ·rw [if_neg e] at h; exact G2e hb.2 id h

theorem H1a {P:Program} {N:G30} {c:Code} {Q:Post} {l:Fr} {L:Loc} (s:Nat) {i ver k n E:Nat} {xs:List AV} (h1:look l s=.vec i ver k n) (hi:lk L i=some (.vec E k ver xs)) (h:n=xs.length→JC P N c Q l L):JC P N c Q l L:=fun n w0 β0 L0 a w β hs=>
 h (by
  have hv:=hs.frame.tmp s
  rw [h1] at hv
  exact(Gb7 hs.sat hi hv).1) n w0 β0 L0 a w β hs
theorem JL_vlen {P:Program} {N:G30} {ops:Array Oper} {rest:List Oper} {Q:Post} {l:Fr} {L:Loc} (s:Nat) {i ver k n E:Nat} {xs:List AV} (h1:look l s=.vec i ver k n) (hi:lk L i=some (.vec E k ver xs)) (h:n=xs.length→JL P N ops rest Q l L):JL P N ops rest Q l L:=fun n w0 β0 L0 a w β hs=>
 h (by
  have hv:=hs.frame.tmp s
  rw [h1] at hv
  exact(Gb7 hs.sat hi hv).1) n w0 β0 L0 a w β hs

theorem J67 {P:Program} {N:G30} {o:Oper} {ops:Array Oper} {rest:List Oper} {Q:Post} {l:Fr} {L:Loc} {α:Type} {x:Operand} {T E k k' d i ver n:Nat} {f:α→AV} {xs:List α} (hT:sliceB P T E k'=true) (ho:o.op=.call { callee:=.builtin .len,args:=#[x],argTypes:=#[T] }) (hx:ev l x=.vec i ver k n) (hi:lk L i=some (.vec E k ver (xs.map f)))
  (hk:xs.length≤maxLen→JL P N ops rest Q ((d,G0 (xs.length:Int))::l) L) (hg:o.guard=none) (hd:o.dst=some d) (hn:Nat.blt d N.n=true):JL P N ops (o::rest) Q l L:=by
 intro n w0 β0 L0 a w β hs
 have hv:=hs.frame.ev x
 rw [hx] at hv
 obtain⟨e,_,h⟩:=Gb7 hs.sat hi hv
 rw [List.length_map] at e
 subst e
 have hm:xs.length≤maxLen:=by
  rcases h with ⟨_,h2,_⟩ | ⟨b,cap,vs,_,_,h3,h4,_⟩
  ·rw [List.map_eq_nil_iff] at h2
   rw [h2]; exact Nat.zero_le _
  ·rw [List.length_map] at h3; exact Nat.le_trans h3 h4
 exact G1 (J3c hT ho hx hi) (hk hm) hg hd hn (by unfold G4f; rw [ho]) n w0 β0 L0 a w β hs

section calls
variable {P:Program} {o:Oper} {l:Fr} {L:Loc} {γ:Type}
theorem Q21 {f:FuncId} {vs:Array Value} {args:List AV} {L0:Loc} {u:γ→AV} {Lr:γ→Loc} {a:Act} {w:World} {β:H2} {K:Act→World→Prop} {Q:Exit→Act→World→Prop} (hc:Jn P f args L0 (fun r L'=>∃ p,r=u p∧L'=Lr p)) (hsat:Sat w β L)
  (hsub:subL L L0) (hcl:closedIn (Zc L0) L0=true) (hnew:∀ p,H32 L L0 (Lr p)=true) (hl:vs.size=args.length)
  (hv:∀ (j:Nat) u v,args[j]? = some u→vs[j]? = some v→V w β L u v∧u.refs (Zc L0)=true)
  (hK:∀ u' L' v w' β',(∃ p,u'=u p∧L'=Lr p++Hb0 L L0)→Sat w' β' L'→Step w β L w' β' L'→V w' β' L' u' v→K (a.put o.dst v) w') :
  Calls P f vs w fun
   | .returned v,w''=>K (a.put o.dst v) w''
   | .panicked chain,w''=>Q (.panic chain) a w''
   | .outgrown,_=>LetsOut Q:=by
 refine(Q19 hc hsat (fun id ob h=>hsub.get h) (fun id ob h=>closedIn.get hcl h) hl hv (fun r L' hR id h=>by obtain⟨p,_,rfl⟩:=hR; exact H32.get (hnew p) h)).mono fun e w' h=>?_
 obtain⟨v,r,β',L',rfl,⟨p,rfl,rfl⟩,h1,h2,h3⟩:=h
 exact hK _ _ v w' _ ⟨p,rfl,rfl⟩ h1 h2 h3

theorem H4b {f:FuncId} {xs:List Operand} {args:List AV} {ts:Array TypeId} {L0:Loc} {u:γ→AV} {Lr:γ→Loc} (ho:o.op=.call { callee:=.value (.func f),args:=xs.toArray,argTypes:=ts }) (hc:Jn P f args L0 (fun r L'=>∃ p,r=u p∧L'=Lr p)) (hB:H5 P f=true) (ha:He8 l L0 xs args)
  (hsub:subL L L0) (hcl:closedIn (Zc L0) L0=true) (hnew:∀ p,H32 L L0 (Lr p)=true):H1 P o l L (fun u' L''=>∃ p,u'=u p∧L''=Lr p++Hb0 L L0):=by
 intro a w β K Q hsat hf hK
 have hr:(execOp a.eval o).run P w=.ok (.enter f (xs.toArray.map a.eval)) w:=by
  simp [execOp,ho,resolve,Act.eval,Deferred.ofValue,invoke,H5.out hB]
 unfold Oper.wp
 rw [hr]
 refine Q21 hc hsat hsub hcl hnew (by simp [ha.length]) (fun j u v hu hv=>?_) hK
 simp only [Array.getElem?_map,List.getElem?_toArray,Option.map_eq_some_iff] at hv
 obtain⟨x,hx,rfl⟩:=hv
 obtain⟨h1,h2⟩:=ha.get hx hu
 refine⟨?_,h2⟩
 rcases h1 with h1 | h1
 ·rw [← h1]; exact hf.ev x
 ·rw [← h1]; exact(hf.ev x).plain

end calls
end Go.Proofs.YtknalejjpofoaaaGreat
namespace Go.Proofs.YtknalejjpofoaaaGreat
open Go.RowKit

section rel
variable {α β σ R:Type} {r:R}
def Hdf (r:R) (m:Option Prop) (d:Option R):Prop:=d=some r→∃ p:Prop,m=some p∧p
theorem H7c {e:R}:Hdf r (some (e=r)) (some e):=fun h=>⟨_,rfl,Option.some.inj h⟩
theorem H7d {m:Option Prop}:Hdf r m none:=fun h=>by cases h
theorem H12 {m:Option α} {k:α→Option Prop} {k':α→Option R} (h:∀ x,Hdf r (k x) (k' x)):Hdf r (bnd m k) (bnd m k'):=by
 cases m with
 | none=>exact H7d
 | some x=>exact h x
theorem G47 {c:Bool} {x y:Option Prop} {x' y':Option R} (h1:c=true→Hdf r x x') (h2:c=false→Hdf r y y'):Hdf r (bif c then x else y) (bif c then x' else y'):=by
 cases c with
 | true=>exact h1 rfl
 | false=>exact h2 rfl
theorem Jcd {z:Int} {k:Int→Option Prop} {k':Int→Option R} (h:∀ x,Hdf r (k x) (k' x)):Hdf r (Rc z k) (Rc z k'):=by
 unfold Rc; exact G47 (fun _=>h z) (fun _=>H7d)
theorem rel_gidx {l:List α} {i:Int} {k:α→Option Prop} {k':α→Option R} (h:∀ x,Hdf r (k x) (k' x)):Hdf r (Q9 l i k) (Q9 l i k'):=by
 unfold Q9; exact G47 (fun _=>H12 h) (fun _=>H7d)
theorem Q0b {m:(α→Option Prop)→Option Prop} {m':(α→Option R)→Option R} {k:α→Option Prop} {k':α→Option R} (h:∀ K K',(∀ a,Hdf r (K a) (K' a))→Hdf r (m K) (m' K')) (hk:∀ a,Hdf r (k a) (k' a)):Hdf r (jp m k) (jp m' k'):=h k k' hk
theorem J50 {b:α→Nat→σ→(σ→Option Prop)→Option Prop} {b':α→Nat→σ→(σ→Option R)→Option R} {kx:σ→Option Prop} {kx':σ→Option R}
  (h:∀ x i s nx nx',(∀ s,Hdf r (nx s) (nx' s))→Hdf r (b x i s nx) (b' x i s nx')) (hk:∀ s,Hdf r (kx s) (kx' s)):∀ {xs:List α} {i:Nat} {s:σ},Hdf r (each b kx xs i s) (each b' kx' xs i s)
 | [],_,s=>hk s
 | x::_,i,s=>h x i s _ _ (fun _=>J50 h hk)
theorem J4e {c:α→Bool} {e e':β}:∀ (l:List α) (s:Unit),J4f (fun x (_:Unit) nx=>bif c x then lft (some e) else nx ()) (fun _=>some e') l s=some (bif l.any c then e else e')
 | [],_=>rfl
 | x::l,s=>by
  rw [J4f]
  cases hc:c x with
  | true=>simp [lft,hc]
  | false=>simp [hc,J4e l]
theorem rel_any {c:α→Bool} {e e':R} {l:List α}:Hdf r (eachM (fun x (_:Unit) nx=>bif c x then lft (some (e=r)) else nx ()) (fun _=>some (e'=r)) l ()) (J4f (fun x (_:Unit) nx=>bif c x then lft (some e) else nx ()) (fun _=>some e') l ()):=fun h=>by
 refine⟨_,rfl,fun q hq=>?_⟩
 rw [J4e] at h
 refine⟨_,J4e q (),?_⟩
 have hany:q.any c=l.any c:=by
  rw [Bool.eq_iff_iff,List.any_eq_true,List.any_eq_true]
  exact⟨fun⟨x,h1,h2⟩=>⟨x,hq.mem_iff.1 h1,h2⟩,fun⟨x,h1,h2⟩=>⟨x,hq.mem_iff.2 h1,h2⟩⟩
 rw [hany]
 have:=Option.some.inj h
 cases hc:l.any c <;> rw [hc] at this <;> exact this
end rel
end Go.Proofs.YtknalejjpofoaaaGreat
