/-
 Calls that leave objects whose versions are not known beforehand. Models of functions that range over maps: from the model that fixes the order of each range to the one that holds for every order.
-/
import Derived.Test.YtkcdjcgifgdanaaGreatSub
set_option linter.unusedVariables false
set_option linter.unusedSimpArgs false
set_option linter.unnecessarySimpa false
namespace Go.Proofs.YtkcdjcgifgdanaaGreat
open Go.RowKit

theorem Qc.mono {P:Program} {f:FuncId} {args:List AV} {L0:Loc} {R R':AV→Loc→Prop} (h:Qc P f args L0 R) (hr:∀ u L,R u L→R' u L):Qc P f args L0 R':=fun w β vs a b c=>
 (h w β vs a b c).mono fun e w' hh=>by
  obtain⟨v,r,β',L',h1,h2,h3,h4,h5⟩:=hh
  exact⟨v,r,β',L',h1,h2,h3,h4,hr _ _ h5⟩
theorem Pure.monoP {P:Program} {f:FuncId} {args:List AV} {R R':AV→Prop} (h:Pure P f args R) (hr:∀ u,R u→R' u):Pure P f args R':=Qc.mono h (fun u L hh=>⟨hh.1,hr u hh.2⟩)
def inAllB:Loc→List Nat→Bool
 | [],_=>true
 | (i,_)::r,B=>B.any (Nat.beq i)&&inAllB r B
theorem H47 {B:List Nat}:∀ {L0:Loc},inAllB L0 B=true→∀ id,(lk L0 id).isSome=true→id∈B
 | [],_,id,h=>by simp [lk] at h
 | (i,o)::r,hb,id,h=>by
  simp only [inAllB,Bool.and_eq_true,List.any_eq_true] at hb
  rw [Gg] at h
  by_cases e:i=id
  ·obtain⟨x,hx,hxi⟩:=hb.1
   rw [← e,Nat.eq_of_beq_eq_true hxi]; exact hx
  ·rw [if_neg e] at h; exact H47 hb.2 id h

theorem H43 {P:Program} {N:G0b} {c:Code} {Q:Post} {l:Fr} {L:Loc} (s:Nat) {i ver k n E:Nat} {xs:List AV} (h1:look l s=.vec i ver k n) (hi:lk L i=some (.vec E k ver xs)) (h:n=xs.length→JC P N c Q l L):JC P N c Q l L:=fun n w0 β0 L0 a w β hs=>
 h (by
  have hv:=hs.frame.tmp s
  rw [h1] at hv
  exact(G7b hs.sat hi hv).1) n w0 β0 L0 a w β hs
theorem JL_vlenM {P:Program} {N:G0b} {o:Oper} {ops:Array Oper} {rest:List Oper} {Q:Post} {l:Fr} {L:Loc} {α:Type} {x:Operand} {T E k k' d i ver n:Nat} {f:α→AV} {xs:List α} (hT:sliceB P T E k'=true) (ho:o.op=.call { callee:=.builtin .len,args:=#[x],argTypes:=#[T] }) (hx:ev l x=.vec i ver k n) (hi:lk L i=some (.vec E k ver (xs.map f)))
  (hk:xs.length≤maxLen→JL P N ops rest Q ((d,G0 (xs.length:Int))::l) L) (hg:o.guard=none) (hd:o.dst=some d) (hn:Nat.blt d N.n=true):JL P N ops (o::rest) Q l L:=by
 intro n w0 β0 L0 a w β hs
 have hv:=hs.frame.ev x
 rw [hx] at hv
 obtain⟨e,_,h⟩:=G7b hs.sat hi hv
 rw [List.length_map] at e
 subst e
 have hm:xs.length≤maxLen:=by
  rcases h with ⟨_,h2,_⟩ | ⟨b,cap,vs,_,_,h3,h4,_⟩
  ·rw [List.map_eq_nil_iff] at h2
   rw [h2]; exact Nat.zero_le _
  ·rw [List.length_map] at h3; exact Nat.le_trans h3 h4
 exact G1 (Hbb hT ho hx hi) (hk hm) hg hd hn (by unfold G23; rw [ho]) n w0 β0 L0 a w β hs

section calls
variable {P:Program} {o:Oper} {l:Fr} {L:Loc} {γ:Type}
end calls
end Go.Proofs.YtkcdjcgifgdanaaGreat
set_option linter.unusedVariables false
set_option linter.unusedSimpArgs false
set_option linter.unnecessarySimpa false
namespace Go.Proofs.YtkcdjcgifgdanaaGreat
open Go.RowKit

section rel
variable {α β σ R:Type} {r:R}
def Hc0 (r:R) (m:Option Prop) (d:Option R):Prop:=d=some r→∃ p:Prop,m=some p∧p
theorem Hd3 {e:R}:Hc0 r (some (e=r)) (some e):=fun h=>⟨_,rfl,Option.some.inj h⟩
theorem H58 {m:Option Prop}:Hc0 r m none:=fun h=>by cases h
theorem H79 {m:Option α} {k:α→Option Prop} {k':α→Option R} (h:∀ x,Hc0 r (k x) (k' x)):Hc0 r (bnd m k) (bnd m k'):=by
 cases m with
 | none=>exact H58
 | some x=>exact h x
theorem Gf8 {c:Bool} {x y:Option Prop} {x' y':Option R} (h1:c=true→Hc0 r x x') (h2:c=false→Hc0 r y y'):Hc0 r (bif c then x else y) (bif c then x' else y'):=by
 cases c with
 | true=>exact h1 rfl
 | false=>exact h2 rfl
theorem rel_chk {z:Int} {k:Int→Option Prop} {k':Int→Option R} (h:∀ x,Hc0 r (k x) (k' x)):Hc0 r (G0d z k) (G0d z k'):=by
 unfold G0d; exact Gf8 (fun _=>h z) (fun _=>H58)
theorem rel_jp {m:(α→Option Prop)→Option Prop} {m':(α→Option R)→Option R} {k:α→Option Prop} {k':α→Option R} (h:∀ K K',(∀ a,Hc0 r (K a) (K' a))→Hc0 r (m K) (m' K')) (hk:∀ a,Hc0 r (k a) (k' a)):Hc0 r (jp m k) (jp m' k'):=h k k' hk
theorem Hd4 {b:α→Nat→σ→(σ→Option Prop)→Option Prop} {b':α→Nat→σ→(σ→Option R)→Option R} {kx:σ→Option Prop} {kx':σ→Option R}
  (h:∀ x i s nx nx',(∀ s,Hc0 r (nx s) (nx' s))→Hc0 r (b x i s nx) (b' x i s nx')) (hk:∀ s,Hc0 r (kx s) (kx' s)):∀ {xs:List α} {i:Nat} {s:σ},Hc0 r (each b kx xs i s) (each b' kx' xs i s)
 | [],_,s=>hk s
 | x::_,i,s=>h x i s _ _ (fun _=>Hd4 h hk)
theorem Hd2 {c:α→Bool} {e e':β}:∀ (l:List α) (s:Unit),runM (fun x (_:Unit) nx=>bif c x then lft (some e) else nx ()) (fun _=>some e') l s=some (bif l.any c then e else e')
 | [],_=>rfl
 | x::l,s=>by
  rw [runM]
  cases hc:c x with
  | true=>simp [lft,hc]
  | false=>simp [hc,Hd2 l]
theorem rel_any {c:α→Bool} {e e':R} {l:List α}:Hc0 r (eachM (fun x (_:Unit) nx=>bif c x then lft (some (e=r)) else nx ()) (fun _=>some (e'=r)) l ()) (runM (fun x (_:Unit) nx=>bif c x then lft (some e) else nx ()) (fun _=>some e') l ()):=fun h=>by
 refine⟨_,rfl,fun q hq=>?_⟩
 rw [Hd2] at h
 refine⟨_,Hd2 q (),?_⟩
 have hany:q.any c=l.any c:=by
  rw [Bool.eq_iff_iff,List.any_eq_true,List.any_eq_true]
  exact⟨fun⟨x,h1,h2⟩=>⟨x,hq.mem_iff.1 h1,h2⟩,fun⟨x,h1,h2⟩=>⟨x,hq.mem_iff.2 h1,h2⟩⟩
 rw [hany]
 have:=Option.some.inj h
 cases hc:l.any c <;> rw [hc] at this <;> exact this
end rel
end Go.Proofs.YtkcdjcgifgdanaaGreat
