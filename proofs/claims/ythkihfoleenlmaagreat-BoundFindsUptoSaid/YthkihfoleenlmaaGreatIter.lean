/-
 Calls that leave objects whose versions are not known before Models of functions that range over maps: Functions that are ranged over:
-/
import Derived.Test.YthkihfoleenlmaaGreatSub
set_option linter.unusedVariables false
namespace Go.Proofs.YthkihfoleenlmaaGreat
open Go.RowKit

theorem R5.mono {P:Program} {f:FuncId} {args:List AV} {L0:Loc} {R R':AV→Loc→Prop} (h:R5 P f args L0 R) (hr:∀ u L,R u L→R' u L):R5 P f args L0 R':=fun w β vs a b c=>
 (h w β vs a b c).mono fun e w' hh=>by
  obtain⟨v,r,β',L',h1,h2,h3,h4,h5⟩:=hh
  exact⟨v,r,β',L',h1,h2,h3,h4,hr _ _ h5⟩
theorem Pure.monoP {P:Program} {f:FuncId} {args:List AV} {R R':AV→Prop} (h:Pure P f args R) (hr:∀ u,R u→R' u):Pure P f args R':=R5.mono h (fun u L hh=>⟨hh.1,hr u hh.2⟩)
def H33:Loc→List Nat→Bool
 | [],_=>true
 | (i,_)::r,B=>B.any (Nat.beq i)&&H33 r B
theorem YF {B:List Nat}:∀ {L0:Loc},H33 L0 B=true→∀ id,(lk L0 id).isSome=true→id∈B
 | [],_,id,h=>by simp [lk] at h
 | (i,o)::r,hb,id,h=>by
  simp only [H33,P7,List.any_eq_true] at hb
  rw [Gf] at h
  by_cases e:i=id
  ·obtain⟨x,hx,h0⟩:=hb.1
   rw [← e,Nj h0]; exact hx
  ·rw [if_neg e] at h; exact YF hb.2 id h

theorem QT {P:Program} {N:Cfg} {c:Code} {Q:Post} {l:Fr} {L:Loc} (s:Nat) {i ver k n E:Nat} {xs:List AV} (h1:look l s=.vec i ver k n) (hi:lk L i=some (.vec E k ver xs)) (h:n=xs.length→JC P N c Q l L):JC P N c Q l L:=fun n w0 β0 L0 a w β hs=>
 h (by
  have hv:=hs.frame.tmp s
  rw [h1] at hv
  exact(eW hs.sat hi hv).1) n w0 β0 L0 a w β hs
theorem yV {P:Program} {N:Cfg} {o:Oper} {ops:Array Oper} {rest:List Oper} {Q:Post} {l:Fr} {L:Loc} {α:Type} {x:Operand} {T E k k' d i ver n:Nat} {f:α→AV} {xs:List α} (hT:sliceB P T E k'=true) (ho:o.op=.call { callee:=.builtin .len,args:=#[x],argTypes:=#[T] }) (hx:ev l x=.vec i ver k n) (hi:lk L i=some (.vec E k ver (xs.map f)))
  (hk:xs.length≤maxLen→JL P N ops rest Q ((d,I64 (xs.length:Int))::l) L) (hg:o.guard=none) (hd:o.dst=some d) (hn:Nat.blt d N.n=true):JL P N ops (o::rest) Q l L:=by
 intro n w0 β0 L0 a w β hs
 have hv:=hs.frame.ev x
 rw [hx] at hv
 obtain⟨e,_,h⟩:=eW hs.sat hi hv
 rw [P9] at e
 subst e
 have hm:xs.length≤maxLen:=by
  rcases h with ⟨_,h2,_⟩ | ⟨b,cap,vs,_,_,h3,h4,_⟩
  ·rw [List.map_eq_nil_iff] at h2
   rw [h2]; exact Nat.zero_le _
  ·rw [P9] at h3; exact Nat.le_trans h3 h4
 exact G0 (J7e hT ho hx hi) (hk hm) hg hd hn (by unfold dB; rw [ho]) n w0 β0 L0 a w β hs

section calls
variable {P:Program} {o:Oper} {l:Fr} {L:Loc} {γ:Type}
theorem YQ {f:FuncId} {vs:Array Value} {args:List AV} {L0:Loc} {u:γ→AV} {Lr:γ→Loc} {a:Act} {w:World} {β:Gx} {K:Act→World→Prop} {Q:Exit→Act→World→Prop} (hc:R5 P f args L0 (fun r L'=>∃ p,r=u p∧L'=Lr p)) (h0:Sat w β L)
  (h4:G0e L L0) (h6:closedIn (inL L0) L0=true) (h5:∀ p,nO L L0 (Lr p)=true) (hl:vs.size=args.length)
  (hv:∀ (j:Nat) u v,args[j]? = some u→vs[j]? = some v→V w β L u v∧u.refs (inL L0)=true)
  (hK:∀ u' L' v w' β',(∃ p,u'=u p∧L'=Lr p++qN L L0)→Sat w' β' L'→Step w β L w' β' L'→V w' β' L' u' v→K (a.put o.dst v) w') :
  Calls P f vs w fun
   | .returned v,w''=>K (a.put o.dst v) w''
   | .panicked chain,w''=>Q (.panic chain) a w''
   | .outgrown,_=>LetsOut Q:=by
 refine(YH hc h0 (fun id ob h=>h4.get h) (fun id ob h=>closedIn.get h6 h) hl hv (fun r L' hR id h=>by obtain⟨p,_,rfl⟩:=hR; exact nO.get (h5 p) h)).mono fun e w' h=>?_
 obtain⟨v,r,β',L',rfl,⟨p,rfl,rfl⟩,h1,h2,h3⟩:=h
 exact hK _ _ v w' _ ⟨p,rfl,rfl⟩ h1 h2 h3

theorem zH {f:FuncId} {xs:List Operand} {args:List AV} {ts:Array TypeId} {L0:Loc} {u:γ→AV} {Lr:γ→Loc} (ho:o.op=.call { callee:=.value (.func f),args:=xs.toArray,argTypes:=ts }) (hc:R5 P f args L0 (fun r L'=>∃ p,r=u p∧L'=Lr p)) (hB:H8 P f=true) (ha:uS l L0 xs args)
  (h0:G0e L L0) (h5:closedIn (inL L0) L0=true) (h3:∀ p,nO L L0 (Lr p)=true):Gv P o l L (fun u' L''=>∃ p,u'=u p∧L''=Lr p++qN L L0):=by
 intro a w β K Q h4 hf hK
 have hr:(execOp a.eval o).run P w=.ok (.enter f (xs.toArray.map a.eval)) w:=by
  simp [execOp,ho,resolve,Act.eval,Deferred.ofValue,invoke,H8.out hB]
 unfold Oper.wp
 rw [hr]
 refine YQ hc h4 h0 h5 h3 (by simp [ha.length]) (fun j u v hu hv=>?_) hK
 simp only [Array.getElem?_map,List.getElem?_toArray,Option.map_eq_some_iff] at hv
 obtain⟨x,hx,rfl⟩:=hv
 obtain⟨h1,h2⟩:=ha.get hx hu
 refine⟨?_,h2⟩
 rcases h1 with h1 | h1
 ·rw [← h1]; exact hf.ev x
 ·rw [← h1]; exact(hf.ev x).plain

end calls

section rel
variable {α β σ R:Type} {r:R}
def Rel (r:R) (m:Option Prop) (d:Option R):Prop:=d=some r→∃ p:Prop,m=some p∧p
theorem qO {e:R}:Rel r (some (e=r)) (some e):=fun h=>⟨_,rfl,Nv h⟩
theorem uA {m:Option Prop}:Rel r m none:=fun h=>by cases h
theorem gU {m:Option α} {k:α→Option Prop} {k':α→Option R} (h:∀ x,Rel r (k x) (k' x)):Rel r (bnd m k) (bnd m k'):=by
 cases m with
 | none=>exact uA
 | some x=>exact h x
theorem gV {c:Bool} {x y:Option Prop} {x' y':Option R} (h1:c=true→Rel r x x') (h2:c=false→Rel r y y'):Rel r (bif c then x else y) (bif c then x' else y'):=by
 cases c with
 | true=>exact h1 rfl
 | false=>exact h2 rfl
theorem uV {z:Int} {k:Int→Option Prop} {k':Int→Option R} (h:∀ x,Rel r (k x) (k' x)):Rel r (chk z k) (chk z k'):=by
 unfold chk; exact gV (fun _=>h z) (fun _=>uA)
theorem Hb2 {m:(α→Option Prop)→Option Prop} {m':(α→Option R)→Option R} {k:α→Option Prop} {k':α→Option R} (h:∀ K K',(∀ a,Rel r (K a) (K' a))→Rel r (m K) (m' K')) (hk:∀ a,Rel r (k a) (k' a)):Rel r (jp m k) (jp m' k'):=h k k' hk
theorem qP {b:α→Nat→σ→(σ→Option Prop)→Option Prop} {b':α→Nat→σ→(σ→Option R)→Option R} {kx:σ→Option Prop} {kx':σ→Option R}
  (h:∀ x i s nx nx',(∀ s,Rel r (nx s) (nx' s))→Rel r (b x i s nx) (b' x i s nx')) (hk:∀ s,Rel r (kx s) (kx' s)):∀ {xs:List α} {i:Nat} {s:σ},Rel r (each b kx xs i s) (each b' kx' xs i s)
 | [],_,s=>hk s
 | x::_,i,s=>h x i s _ _ (fun _=>qP h hk)
theorem xT {c:α→Bool} {e e':β}:∀ (l:List α) (s:Unit),wP (fun x (_:Unit) nx=>bif c x then lft (some e) else nx ()) (fun _=>some e') l s=some (bif l.any c then e else e')
 | [],_=>rfl
 | x::l,s=>by
  rw [wP]
  cases hc:c x with
  | true=>simp [lft,hc]
  | false=>simp [hc,xT l]
theorem H53 {c:α→Bool} {e e':R} {l:List α}:Rel r (YL (fun x (_:Unit) nx=>bif c x then lft (some (e=r)) else nx ()) (fun _=>some (e'=r)) l ()) (wP (fun x (_:Unit) nx=>bif c x then lft (some e) else nx ()) (fun _=>some e') l ()):=fun h=>by
 refine⟨_,rfl,fun q hq=>?_⟩
 rw [xT] at h
 refine⟨_,xT q (),?_⟩
 have h0:q.any c=l.any c:=by
  rw [Bool.eq_iff_iff,List.any_eq_true,List.any_eq_true]
  exact⟨fun⟨x,h1,h2⟩=>⟨x,hq.mem_iff.1 h1,h2⟩,fun⟨x,h1,h2⟩=>⟨x,hq.mem_iff.2 h1,h2⟩⟩
 rw [h0]
 have:=Nv h
 cases hc:l.any c <;> rw [hc] at this <;> exact this
end rel
set_option linter.unusedSimpArgs false

structure vN (X:Nat→Prop) (W W':World):Prop where
 os:W'.os=W.os
 tape:W'.tape=W.tape
 output:W'.output=W.output∧W.drawn≤W'.drawn
 size:W.heap.size≤W'.heap.size
 keep:∀ b,b < W.heap.size→¬ X b→W'.heap[b]? = W.heap[b]?

structure lU (κ:Type) where
 W0:World
 fr:Nat→Prop
 S:Nat→Nat→Prop
 lp:Nat
 J:κ→(Nat→Prop)→(Nat→Nat→Prop)→World→Prop
 nx:κ→List AV→κ→Prop
 gv:Option (Nat×Nat):=none
def Given (gv:Option (Nat×Nat)) (W:World) (S:Nat→Nat→Prop) (G:Nat→Prop) (us:List AV) (vs:Array Value):Prop:=
 match gv with
 | none=>∀ b,¬ G b
 | some (t,k)=>∃ xs v ob,us=[.list k xs]∧vs=#[v]∧v.oneCell'=true∧G63 W ob t k xs.length v∧(∀ b,G b ↔ ob=some b)∧(∀ x∈xs,x.cells.length=k)∧((ob=none∧xs=[])∨∃ b,ob=some b∧∃ cs:Array Value,W.heap[b]? = some (.cells cs t (0,0))∧xs.length*k≤cs.size∧∀ (j:Nat) u v,(flat xs)[j]? = some u→cs[j]? = some v→D W S u v)
theorem Given.mono {gv:Option (Nat×Nat)} {W:World} {S S':Nat→Nat→Prop} {G:Nat→Prop} {us:List AV} {vs:Array Value} (h:Given gv W S G us vs) (hs:∀ b i,S b i→S' b i):Given gv W S' G us vs:=by
 cases gv with
 | none=>exact h
 | some q=>
  obtain⟨xs,v,ob,h1,h2,h3,h4,h5,h6,h7⟩:=h
  refine⟨xs,v,ob,h1,h2,h3,h4,h5,h6,h7.imp_right ?_⟩
  rintro⟨b,g1,cs,g2,g3,g4⟩
  exact⟨b,g1,cs,g2,g3,fun j u v hu hv=>(g4 j u v hu hv).mono fun b i h=>⟨hs b i h,rfl⟩⟩
def lU.After {κ:Type} (E:lU κ) (k':κ) (X:Nat→Prop) (T:Nat→Nat→Prop) (W:World) (e:Ending) (W':World):Prop:=
 e=.returned (.bool true)∧∃ X':Nat→Prop,E.J k' X' T W'∧vN X W W'∧(∀ b,b < W.heap.size→(X' b ↔ X b))∧(∀ b,X' b→b < W'.heap.size)∧∀ b i,E.S b i→Yp W' b i=Yp W b i
structure lU.Ok {κ:Type} (E:lU κ) (P:Program):Prop where
 sees:∀ b i,E.S b i→b < E.W0.heap.size
 frW:∀ b,E.W0.heap.size≤b→E.fr b
 frS:∀ b i,E.fr b→¬ E.S b i
 abide:∀ k X T W W',E.J k X T W→vN (fun b=>E.fr b∧¬ X b) W W'→(∀ b i,T b i→Yp W' b i=Yp W b i)→E.J k X T W'
 round:∀ (m:Nat) (k k':κ) us X T (T':Nat→Nat→Prop) (G:Nat→Prop) W (vs:Array Value),E.nx k us k'→E.J k X T W→(∀ b i,T b i→T' b i)→(∀ b i,T' b i→¬ T b i→E.fr b∧¬ X b∧b < W.heap.size)→vs.size=us.length →
  (∀ (j:Nat) u v,us[j]? = some u→vs[j]? = some v→D W (fun b i=>E.S b i∨T' b i∨G b) u v)→(∀ b,G b→E.fr b∧¬ X b∧b < W.heap.size∧∀ i,¬ T' b i)→Given E.gv W (fun b i=>E.S b i∨T' b i) G us vs →
  YieldAt Fence.wide m P E.lp vs W (E.After k' (fun b=>X b∨G b) T' W)
structure StI {κ:Type} (E:lU κ) (N:Cfg) (a:Act) (w:World) (β:Gx) (l:Fr) (L:Loc) (k:κ):Prop where
 sat:Sat w β L
 frame:Jw a w β L l
 size:N.n≤a.tmps.size
 defers:jB N.ro E.W0.heap.size w β L a.defers
 old:E.W0.heap.size≤w.heap.size
 own:∀ id b,(lk L id).isSome=true→β id=some b→E.fr b
 gh:∃ X T,E.J k X T w∧(∀ b,X b→b < w.heap.size∧∀ i,¬ E.S b i→β.hid b i)∧(∀ b i,T b i→Jc w β L b i)∧(∀ id b,(lk L id).isSome=true→β id=some b→¬ X b)∧∀ d∈a.defers,∀ D,d={ target:=.collected D,args:=#[] }→¬ X D
 vis:∀ b i,Jc w β L b i→E.S b i∨E.fr b

structure mA (κ:Type) where
 norm:Fr→Loc→κ→Prop
 ret:Fr→Loc→κ→Prop
 exit:Nat→Fr→Loc→κ→Prop
theorem jB.turn {ro:Option Nat} {B:Nat} {w w':World} {β:Gx} {h':Nat→Nat→Prop} {L:Loc} {ds:List Deferred} {X:Nat→Prop} (h:jB ro B w β L ds) (ht:vN X w w') (hX:∀ d∈ds,∀ D,d={ target:=.collected D,args:=#[] }→¬ X D):jB ro B w' ⟨β.at_,h'⟩ L ds:=
 ⟨h.top,h.nodup,fun d hd=>by
  obtain⟨D,e,h1,h2,h3⟩:=h.each d hd
  exact⟨D,e,h1,(ht.keep D (Ng h2).1 (hX d hd D e)).trans h2,h3⟩⟩
theorem jB.notX {ro:Option Nat} {B:Nat} {w:World} {β:Gx} {L:Loc} {ds:List Deferred} {X X':Nat→Prop} (h:jB ro B w β L ds) (hX:∀ d∈ds,∀ D,d={ target:=.collected D,args:=#[] }→¬ X D) (h0:∀ b,b < w.heap.size→(X' b ↔ X b)):∀ d∈ds,∀ D,d={ target:=.collected D,args:=#[] }→¬ X' D:=fun d hd D e hx=>by
 obtain⟨D',e',_,h2,_⟩:=h.each d hd
 have:D'=D:=by rw [e] at e'; injection e' with e3; injection e3 with e4; exact e4.symm
 subst this
 exact hX d hd D' e ((h0 D' (Ng h2).1).1 hx)
theorem StI.visStep {κ:Type} {E:lU κ} {P:Program} {N:Cfg} {a:Act} {w w':World} {β β':Gx} {l:Fr} {L L':Loc} {k:κ} (hE:E.Ok P) (h:StI E N a w β l L k) (h0:Step w β L w' β' L') {b i:Nat} (hn:Jc w' β' L' b i):E.S b i∨E.fr b:=by
 have old':=h.old
 rcases Nm b w.heap.size with hb | hb
 ·by_cases ho:∃ id,(lk L id).isSome=true∧β id=some b
  ·obtain⟨id,h1,h2⟩:=ho
   exact .inr (h.own id b h1 h2)
  ·exact h.vis b i ⟨hb,fun hh=>hn.seen ((h0.hid b i hb).2 hh),fun id o h1 h2=>(ho ⟨id,by rw [h1]; rfl,h2⟩).elim⟩
 ·exact .inr (hE.frW b (by omega))
theorem StI.step {κ:Type} {E:lU κ} {P:Program} {N:Cfg} {a a':Act} {w w':World} {β β':Gx} {l l':Fr} {L L':Loc} {k:κ} (hE:E.Ok P) (h:StI E N a w β l L k) (h0:Step w β L w' β' L') (h6:Sat w' β' L') (hf:Jw a' w' β' L' l') (h7:a'.tmps.size=a.tmps.size) (hd:a'.defers=a.defers):StI E N a' w' β' l' L' k:=by
 have old':=h.old
 refine⟨h6,hf,by rw [h7]; exact h.size,by rw [hd]; exact h.defers.step h0,Nat.le_trans h.old h0.size,fun id b h1 h2=>?_,?_,fun b i hn=>h.visStep hE h0 hn⟩
 ·rcases Nm b w.heap.size with hb | hb
  ·refine Classical.byContradiction fun hn=>?_
   have:∀ id0,(lk L id0).isSome=true→β id0≠some b:=fun id0 h3 h4=>hn (h.own id0 b h3 h4)
   exact(h0.far b hb this).2 id h1 h2
  ·exact hE.frW b (by omega)
 ·obtain⟨X,T,hJ,hX,hT,h5,h8⟩:=h.gh
  refine⟨X,T,hE.abide k X T w w' hJ ⟨h0.os,h0.tape,h0.output,h0.size,fun b hb hn=>(h0.far b hb fun id h1 h2=>?_).1⟩ (fun b i h=>(h0.stab b i (hT b i h)).2),fun b hb=>⟨Nh (hX b hb).1 h0.size,fun i hn=>(h0.hid b i (hX b hb).1).2 ((hX b hb).2 i hn)⟩,fun b i h=>(h0.stab b i (hT b i h)).1,fun id b h1 h2 hx=>?_,by rw [hd]; exact h8⟩
  ·exact hn ⟨h.own id b h1 h2,fun hx=>h5 id b h1 h2 hx⟩
  ·exact(h0.far b (hX b hx).1 fun id0 h3 h4=>h5 id0 b h3 h4 hx).2 id h1 h2

section code
variable {κ:Type} {E:lU κ} {P:Program} {N:Cfg} {Q:mA κ} {l:Fr} {L:Loc} {k:κ}

end code

section ops
variable {κ:Type} {E:lU κ} {P:Program} {N:Cfg} {Q:mA κ} {l:Fr} {L L':Loc} {k:κ} {ops:Array Oper} {o:Oper} {rest:List Oper} {u:AV}

theorem StI.round {L:Loc} {w w':World} {β:Gx} {X X':Nat→Prop} {T:Nat→Nat→Prop} (h0:Sat w β L) (hX:∀ b,X b→b < w.heap.size∧∀ i,¬ T b i→β.hid b i) (notX:∀ id b,(lk L id).isSome=true→β id=some b→¬ X b) (ht:vN X w w')
  (hT:∀ b i,T b i→X b→Yp w' b i=Yp w b i) (h4:∀ b,b < w.heap.size→(X' b ↔ X b)) (h3:∀ b,X' b→b < w'.heap.size) :
  let β':Gx:=⟨β.at_,fun b i=>β.hid b i∨(w.heap.size≤b∧b < w'.heap.size)⟩
  Sat w' β' L∧lY w β L w' β' L∧∀ b,X' b→b < w'.heap.size∧∀ i,¬ T b i→β'.hid b i:=by
 intro β'
 have same:∀ id b,(lk L id).isSome=true→β id=some b→w'.heap[b]? = w.heap[b]? := fun id b h1 h2=>ht.keep b (h0.bnd id b h1 h2) (notX id b h1 h2)
 have stab:∀ b i,Jc w β L b i→Jc w' β' L b i:=fun b i hs=>⟨Nh hs.lt ht.size,fun h=>h.elim hs.seen (fun h=>by have:=hs.lt; omega),hs.kept⟩
 have cell:∀ b i,Jc w β L b i→Yp w' b i=Yp w b i:=fun b i hs=>by
  by_cases hx:X b
  ·by_cases h:T b i
   ·exact hT b i h hx
   ·exact(hs.seen ((hX b hx).2 i h)).elim
  ·exact Jq (w:=w) (ht.keep b hs.lt hx)
 have stw:lY w β L w' β' L:=⟨fun b i hs=>⟨stab b i hs,cell b i hs⟩,fun _ _ cs h=>⟨rfl,cs,h⟩,fun _ _ es h=>⟨rfl,es,h⟩,fun _ _ n es h=>⟨rfl,n,es,h⟩,
  fun id _ _ ver xs h=>⟨ver,xs,h,Ny,fun _=>⟨rfl,rfl,fun b hb=>aO (same id b (by rw [h]; rfl) hb)⟩⟩,
  fun id _ _ ver hw h=>⟨ver,hw,h,Ny,fun _=>⟨rfl,rfl,fun b hb=>same id b (by rw [h]; rfl) hb⟩⟩⟩
 refine⟨⟨fun b i h=>h.elim (fun h=>Nh (h0.hid b i h) ht.size) (fun h=>h.2),fun id b h1 h2=>Nh (h0.bnd id b h1 h2) ht.size,fun id b j h1 h2 h=>h.elim (h0.apart id b j h1 h2) (fun h=>by have:=h0.bnd id b h1 h2; omega),h0.inj,
  fun id o ho=>(h0.obj id o ho).stepW stw (fun b hb=>same id b (by rw [ho]; rfl) hb)⟩,stw,fun b hb=>⟨h3 b hb,fun i hn=>?_⟩⟩
 rcases Nm b w.heap.size with h | h
 ·exact .inl ((hX b ((h4 b h).1 hb)).2 i hn)
 ·exact .inr ⟨h,h3 b hb⟩

def JX (l:Fr):List Operand→List AV→Prop
 | [],[]=>True
 | x::r,u::s=>(ev l x=u∨(ev l x=.sc (.slice none 0 0)∧∃ k,u=.list k []))∧u.isData=true∧JX l r s
 | _,_=>False
theorem JX.length {l:Fr}:∀ {xs:List Operand} {us:List AV},JX l xs us→xs.length=us.length
 | [],[],_=>rfl
 | _::_,_::_,h=>by simp [JX.length h.2.2]
 | [],_::_,h=>h.elim
 | _::_,[],h=>h.elim
end ops

section code
variable {κ:Type} {E:lU κ} {P:Program} {N:Cfg} {Q:mA κ} {l:Fr} {L:Loc} {k:κ}
end code
section frz
variable {κ:Type} {E:lU κ} {P:Program} {N:Cfg} {Q:mA κ} {l l':Fr} {L L':Loc} {k:κ}
end frz
end Go.Proofs.YthkihfoleenlmaaGreat
