/-
 Calls that leave objects whose versions are not known beforehand. Models of functions that range over maps: from the model that fixes the order of each range to the one that holds for every order.
-/
import Derived.Test.YthcpolfodgjekaaGreatSub
set_option linter.unusedVariables false
namespace Go.Proofs.YthcpolfodgjekaaGreat
open Go.RowKit

theorem Y1.mono {P:Program} {f:FuncId} {args:List AV} {L0:Loc} {R R':AV→Loc→Prop} (h:Y1 P f args L0 R) (hr:∀ u L,R u L→R' u L):Y1 P f args L0 R':=fun w β vs a b c=>
 (h w β vs a b c).mono fun e w' hh=>by
  obtain⟨v,r,β',L',h1,h2,h3,h4,h5⟩:=hh
  exact⟨v,r,β',L',h1,h2,h3,h4,hr _ _ h5⟩
theorem Pure.monoP {P:Program} {f:FuncId} {args:List AV} {R R':AV→Prop} (h:Pure P f args R) (hr:∀ u,R u→R' u):Pure P f args R':=Y1.mono h (fun u L hh=>⟨hh.1,hr u hh.2⟩)
def inAllB:Loc→List Nat→Bool
 | [],_=>true
 | (i,_)::r,B=>B.any (Nat.beq i)&&inAllB r B
theorem inAll {B:List Nat}:∀ {L0:Loc},inAllB L0 B=true→∀ id,(lk L0 id).isSome=true→id∈B
 | [],_,id,h=>by simp [lk] at h
 | (i,o)::r,hb,id,h=>by
  simp only [inAllB,Bool.and_eq_true,List.any_eq_true] at hb
  rw [Gs] at h
  by_cases e:i=id
  ·obtain⟨x,hx,hxi⟩:=hb.1
   rw [← e,Nat.eq_of_beq_eq_true hxi]; exact hx
  ·rw [if_neg e] at h; exact inAll hb.2 id h

theorem Jc2 {P:Program} {N:G4f} {c:Code} {Q:Post} {l:Fr} {L:Loc} (s:Nat) {i ver k n E:Nat} {xs:List AV} (h1:look l s=.vec i ver k n) (hi:lk L i=some (.vec E k ver xs)) (h:n=xs.length→JC P N c Q l L):JC P N c Q l L:=fun n w0 β0 L0 a w β hs=>
 h (by
  have hv:=hs.frame.tmp s
  rw [h1] at hv
  exact(Gc3 hs.sat hi hv).1) n w0 β0 L0 a w β hs
section calls
variable {P:Program} {o:Oper} {l:Fr} {L:Loc} {γ:Type}
end calls
end Go.Proofs.YthcpolfodgjekaaGreat
namespace Go.Proofs.YthcpolfodgjekaaGreat
open Go.RowKit

section rel
variable {α β σ R:Type} {r:R}
def J05 (r:R) (m:Option Prop) (d:Option R):Prop:=d=some r→∃ p:Prop,m=some p∧p
theorem H29 {e:R}:J05 r (some (e=r)) (some e):=fun h=>⟨_,rfl,Option.some.inj h⟩
theorem Hc9 {m:Option Prop}:J05 r m none:=fun h=>by cases h
theorem G79 {m:Option α} {k:α→Option Prop} {k':α→Option R} (h:∀ x,J05 r (k x) (k' x)):J05 r (bnd m k) (bnd m k'):=by
 cases m with
 | none=>exact Hc9
 | some x=>exact h x
theorem Gae {c:Bool} {x y:Option Prop} {x' y':Option R} (h1:c=true→J05 r x x') (h2:c=false→J05 r y y'):J05 r (bif c then x else y) (bif c then x' else y'):=by
 cases c with
 | true=>exact h1 rfl
 | false=>exact h2 rfl
theorem rel_chk {z:Int} {k:Int→Option Prop} {k':Int→Option R} (h:∀ x,J05 r (k x) (k' x)):J05 r (G35 z k) (G35 z k'):=by
 unfold G35; exact Gae (fun _=>h z) (fun _=>Hc9)
theorem rel_jp {m:(α→Option Prop)→Option Prop} {m':(α→Option R)→Option R} {k:α→Option Prop} {k':α→Option R} (h:∀ K K',(∀ a,J05 r (K a) (K' a))→J05 r (m K) (m' K')) (hk:∀ a,J05 r (k a) (k' a)):J05 r (jp m k) (jp m' k'):=h k k' hk
theorem H2a {b:α→Nat→σ→(σ→Option Prop)→Option Prop} {b':α→Nat→σ→(σ→Option R)→Option R} {kx:σ→Option Prop} {kx':σ→Option R}
  (h:∀ x i s nx nx',(∀ s,J05 r (nx s) (nx' s))→J05 r (b x i s nx) (b' x i s nx')) (hk:∀ s,J05 r (kx s) (kx' s)):∀ {xs:List α} {i:Nat} {s:σ},J05 r (each b kx xs i s) (each b' kx' xs i s)
 | [],_,s=>hk s
 | x::_,i,s=>h x i s _ _ (fun _=>H2a h hk)
theorem J41 {c:α→Bool} {e e':β}:∀ (l:List α) (s:Unit),J22 (fun x (_:Unit) nx=>bif c x then lft (some e) else nx ()) (fun _=>some e') l s=some (bif l.any c then e else e')
 | [],_=>rfl
 | x::l,s=>by
  rw [J22]
  cases hc:c x with
  | true=>simp [lft,hc]
  | false=>simp [hc,J41 l]
theorem rel_any {c:α→Bool} {e e':R} {l:List α}:J05 r (Jff (fun x (_:Unit) nx=>bif c x then lft (some (e=r)) else nx ()) (fun _=>some (e'=r)) l ()) (J22 (fun x (_:Unit) nx=>bif c x then lft (some e) else nx ()) (fun _=>some e') l ()):=fun h=>by
 refine⟨_,rfl,fun q hq=>?_⟩
 rw [J41] at h
 refine⟨_,J41 q (),?_⟩
 have hany:q.any c=l.any c:=by
  rw [Bool.eq_iff_iff,List.any_eq_true,List.any_eq_true]
  exact⟨fun⟨x,h1,h2⟩=>⟨x,hq.mem_iff.1 h1,h2⟩,fun⟨x,h1,h2⟩=>⟨x,hq.mem_iff.2 h1,h2⟩⟩
 rw [hany]
 have:=Option.some.inj h
 cases hc:l.any c <;> rw [hc] at this <;> exact this
end rel
end Go.Proofs.YthcpolfodgjekaaGreat
