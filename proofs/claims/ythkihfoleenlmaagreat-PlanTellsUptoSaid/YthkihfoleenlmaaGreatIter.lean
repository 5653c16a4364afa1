/- Functions that are ranged over: -/
import Derived.Test.YthkihfoleenlmaaGreatRel
set_option linter.unusedVariables false
set_option linter.unusedSimpArgs false
namespace Go.Proofs.YthkihfoleenlmaaGreat
open Go.RowKit

structure xU (X:Nat→Prop) (W W':World):Prop where
 os:W'.os=W.os
 tape:W'.tape=W.tape
 output:W'.output=W.output/\W.drawn≤W'.drawn
 size:W.heap.size≤W'.heap.size
 keep:∀ b,b < W.heap.size→¬ X b→W'.heap[b]? = W.heap[b]?

structure nF (Y:Type) where
 W0:World
 fr:Nat→Prop
 S:Nat→Nat→Prop
 lp:Nat
 J:Y→(Nat→Prop)→(Nat→Nat→Prop)→World→Prop
 nx:Y→List AV→Y→Prop
 gv:Option (Nat×Nat):=none
def Given (gv:Option (Nat×Nat)) (W:World) (S:Nat→Nat→Prop) (G:Nat→Prop) (us:List AV) (vs:Array Value):Prop:=
 match gv with
 | none=>∀ b,¬ G b
 | some (t,k)=>∃ xs v ob,us=[.list k xs]/\vs=#[v]/\v.oneCell'=true/\Gb5 W ob t k xs.length v/\(∀ b,G b ↔ ob=some b)/\(∀ x∈xs,x.cells.length=k)/\((ob=none/\xs=[])\/∃ b,ob=some b/\∃ cs:Array Value,W.heap[b]? = some (.cells cs t (0,0))/\xs.length*k≤cs.size/\∀ (j:Nat) u v,(flat xs)[j]? = some u→cs[j]? = some v→D W S u v)
def nF.After {Y:Type} (E:nF Y) (k':Y) (X:Nat→Prop) (T:Nat→Nat→Prop) (W:World) (e:Ending) (W':World):Prop:=
 e=.returned (.bool true)/\∃ X':Nat→Prop,E.J k' X' T W'/\xU X W W'/\(∀ b,b < W.heap.size→(X' b ↔ X b))/\(∀ b,X' b→b < W'.heap.size)/\∀ b i,E.S b i→Zb W' b i=Zb W b i
structure nF.Ok {Y:Type} (E:nF Y) (P:Program):Prop where
 sees:∀ b i,E.S b i→b < E.W0.heap.size
 frW:∀ b,E.W0.heap.size≤b→E.fr b
 frS:∀ b i,E.fr b→¬ E.S b i
 abide:∀ k X T W W',E.J k X T W→xU (fun b=>E.fr b/\¬ X b) W W'→(∀ b i,T b i→Zb W' b i=Zb W b i)→E.J k X T W'
 round:∀ (m:Nat) (k k':Y) us X T (T':Nat→Nat→Prop) (G:Nat→Prop) W (vs:Array Value),E.nx k us k'→E.J k X T W→(∀ b i,T b i→T' b i)→(∀ b i,T' b i→¬ T b i→E.fr b/\¬ X b/\b < W.heap.size)→vs.size=us.length →
  (∀ (j:Nat) u v,us[j]? = some u→vs[j]? = some v→D W (fun b i=>E.S b i\/T' b i\/G b) u v)→(∀ b,G b→E.fr b/\¬ X b/\b < W.heap.size/\∀ i,¬ T' b i)→Given E.gv W (fun b i=>E.S b i\/T' b i) G us vs →
  YieldAt Fence.wide m P E.lp vs W (E.After k' (fun b=>X b\/G b) T' W)
theorem nF.Ok.round0 {Y:Type} {E:nF Y} {P:Program} (hE:E.Ok P) (m:Nat) (k k':Y) (us:List AV) (X:Nat→Prop) (T T':Nat→Nat→Prop) (W:World) (vs:Array Value) (hy:E.nx k us k'/\E.gv=none) (hJ:E.J k X T W) (h1:∀ b i,T b i→T' b i) (h2:∀ b i,T' b i→¬ T b i→E.fr b/\¬ X b/\b < W.heap.size) (hs:vs.size=us.length)
  (hD:∀ (j:Nat) u v,us[j]? = some u→vs[j]? = some v→D W (fun b i=>E.S b i\/T' b i) u v):YieldAt Fence.wide m P E.lp vs W (E.After k' X T' W):=by
 have h:=hE.round m k k' us X T T' (fun _=>False) W vs hy.1 hJ h1 h2 hs (fun j u v a b=>(hD j u v a b).mono fun b i h=>⟨h.imp_right .inl,rfl⟩) (fun _ h=>h.elim) (by rw [hy.2]; exact fun _ h=>h)
 have e:(fun b=>X b\/False)=X:=by funext b; simp
 rwa [e] at h

def Gc2 (P:Program) (g:FuncId) (caps:List AV) (gv:Option (Nat×Nat)) {Y:Type} (k0:Y) (nx:Y→List AV→Y→Prop) (fin:Y→Prop):Prop:=
 ∀ (n:Nat) (E:nF Y) (lb:Array Value) (X0:Nat→Prop),E.Ok P→E.nx=nx/\E.gv=gv→lb.size=caps.length→(∀ (j:Nat) u v,caps[j]? = some u→lb[j]? = some v→D E.W0 E.S u v)→(∀ b,X0 b→b < E.W0.heap.size) →
  E.J k0 X0 (fun _ _=>False) E.W0→CallsIn Fence.wide n P g (#[.func (.yield E.lp) #[] #[]]++lb) E.W0 fun e W'=>(∃ v,e=.returned v)/\∃ k X T,fin k/\E.J k X T W'
abbrev Jd4 (P:Program) (g:FuncId) (caps:List AV) {Y:Type} (k0:Y) (nx:Y→List AV→Y→Prop) (fin:Y→Prop):Prop:=Gc2 P g caps none k0 nx fin
def H2e (ys:List (List AV)):Nat→List AV→Nat→Prop:=fun k us k'=>ys[k]? = some us/\k'=k+1
def Iter (P:Program) (g:FuncId) (caps:List AV) (ys:List (List AV)):Prop:=Jd4 P g caps 0 (H2e ys) (fun k=>k=ys.length)
structure StI {Y:Type} (E:nF Y) (N:Cfg) (a:Act) (w:World) (β:H4) (l:Fr) (L:Loc) (k:Y):Prop where
 sat:Sat w β L
 frame:Jx a w β L l
 size:N.n≤a.tmps.size
 defers:kI N.ro E.W0.heap.size w β L a.defers
 old:E.W0.heap.size≤w.heap.size
 own:∀ id b,(lk L id).isSome=true→β id=some b→E.fr b
 gh:∃ X T,E.J k X T w/\(∀ b,X b→b < w.heap.size/\∀ i,¬ E.S b i→β.hid b i)/\(∀ b i,T b i→Ji w β L b i)/\(∀ id b,(lk L id).isSome=true→β id=some b→¬ X b)/\∀ d∈a.defers,∀ D,d={ target:=.collected D,args:=#[] }→¬ X D
 vis:∀ b i,Ji w β L b i→E.S b i\/E.fr b

structure nK (Y:Type) where
 norm:Fr→Loc→Y→Prop
 ret:Fr→Loc→Y→Prop
 exit:Nat→Fr→Loc→Y→Prop
def nK.seq {Y:Type} (Q:nK Y) (K:Fr→Loc→Y→Prop):nK Y:=⟨K,Q.ret,Q.exit⟩
def nK.blk {Y:Type} (Q:nK Y) (i:Nat):nK Y:=⟨Q.norm,Q.ret,fun j l L k=>bif Nat.beq j i then Q.norm l L k else Q.exit j l L k⟩
def nK.out {Y:Type} (Q:nK Y) (E:nF Y) (N:Cfg):Exit→Act→World→Prop
 | .normal,a,w=>∃ β l L k,StI E N a w β l L k/\Q.norm l L k
 | .ret,a,w=>∃ β l L k,StI E N a w β l L k/\Q.ret l L k
 | .exit i,a,w=>∃ β l L k,StI E N a w β l L k/\Q.exit i l L k
 | _,_,_=>False
def JI {Y:Type} (E:nF Y) (P:Program) (N:Cfg) (c:Code) (Q:nK Y) (l:Fr) (L:Loc) (k:Y):Prop:=
 ∀ (n:Nat) a w β,StI E N a w β l L k→c.wpIn (FR N.ro) n P (Q.out E N) a w
def JIL {Y:Type} (E:nF Y) (P:Program) (N:Cfg) (ops:Array Oper) (rest:List Oper) (Q:nK Y) (l:Fr) (L:Loc) (k:Y):Prop:=
 ∀ (n:Nat) a w β,StI E N a w β l L k→wpListIn (FR N.ro) n P ops (Q.out E N) rest a w

theorem kI.turn {ro:Option Nat} {B:Nat} {w w':World} {β:H4} {h':Nat→Nat→Prop} {L:Loc} {ds:List Deferred} {X:Nat→Prop} (h:kI ro B w β L ds) (ht:xU X w w') (hX:∀ d∈ds,∀ D,d={ target:=.collected D,args:=#[] }→¬ X D):kI ro B w' ⟨β.at_,h'⟩ L ds:=
 ⟨h.top,h.nodup,fun d hd=>by
  obtain⟨D,e,h1,h2,h3⟩:=h.each d hd
  exact⟨D,e,h1,(ht.keep D (Nz h2).1 (hX d hd D e)).trans h2,h3⟩⟩
theorem kI.notX {ro:Option Nat} {B:Nat} {w:World} {β:H4} {L:Loc} {ds:List Deferred} {X X':Nat→Prop} (h:kI ro B w β L ds) (hX:∀ d∈ds,∀ D,d={ target:=.collected D,args:=#[] }→¬ X D) (h0:∀ b,b < w.heap.size→(X' b ↔ X b)):∀ d∈ds,∀ D,d={ target:=.collected D,args:=#[] }→¬ X' D:=fun d hd D e hx=>by
 obtain⟨D',e',_,h2,_⟩:=h.each d hd
 have:D'=D:=by rw [e] at e'; injection e' with e3; injection e3 with e4; exact e4.symm
 subst this
 exact hX d hd D' e ((h0 D' (Nz h2).1).1 hx)
theorem StI.visStep {Y:Type} {E:nF Y} {P:Program} {N:Cfg} {a:Act} {w w':World} {β J':H4} {l:Fr} {L L':Loc} {k:Y} (hE:E.Ok P) (h:StI E N a w β l L k) (h0:Step w β L w' J' L') {b i:Nat} (hn:Ji w' J' L' b i):E.S b i\/E.fr b:=by
 have old':=h.old
 rcases P4 b w.heap.size with hb | hb
 .by_cases ho:∃ id,(lk L id).isSome=true/\β id=some b
  .obtain⟨id,h1,h2⟩:=ho
   exact .inr (h.own id b h1 h2)
  .exact h.vis b i ⟨hb,fun hh=>hn.seen ((h0.hid b i hb).2 hh),fun id o h1 h2=>(ho ⟨id,by rw [h1]; rfl,h2⟩).elim⟩
 .exact .inr (hE.frW b (by omega))
theorem StI.visFits {Y:Type} {E:nF Y} {N:Cfg} {a:Act} {w:World} {β:H4} {l:Fr} {L L':Loc} {k:Y} (h:StI E N a w β l L k) (hd:sH L L') {b i:Nat} (hn:Ji w β L' b i):E.S b i\/E.fr b:=by
 by_cases ho:∃ id,(lk L id).isSome=true/\β id=some b
 .obtain⟨id,h1,h2⟩:=ho
  exact .inr (h.own id b h1 h2)
 .exact h.vis b i ⟨hn.lt,hn.seen,fun id o h1 h2=>(ho ⟨id,by rw [h1]; rfl,h2⟩).elim⟩
theorem StI.step {Y:Type} {E:nF Y} {P:Program} {N:Cfg} {a a':Act} {w w':World} {β J':H4} {l l':Fr} {L L':Loc} {k:Y} (hE:E.Ok P) (h:StI E N a w β l L k) (h0:Step w β L w' J' L') (h6:Sat w' J' L') (hf:Jx a' w' J' L' l') (h7:a'.tmps.size=a.tmps.size) (hd:a'.defers=a.defers):StI E N a' w' J' l' L' k:=by
 have old':=h.old
 refine⟨h6,hf,by rw [h7]; exact h.size,by rw [hd]; exact h.defers.step h0,Nat.le_trans h.old h0.size,fun id b h1 h2=>?_,?_,fun b i hn=>h.visStep hE h0 hn⟩
 .rcases P4 b w.heap.size with hb | hb
  .refine Classical.byContradiction fun hn=>?_
   have:∀ id0,(lk L id0).isSome=true→β id0≠some b:=fun id0 h3 h4=>hn (h.own id0 b h3 h4)
   exact(h0.far b hb this).2 id h1 h2
  .exact hE.frW b (by omega)
 .obtain⟨X,T,hJ,hX,hT,h5,h8⟩:=h.gh
  refine⟨X,T,hE.abide k X T w w' hJ ⟨h0.os,h0.tape,h0.output,h0.size,fun b hb hn=>(h0.far b hb fun id h1 h2=>?_).1⟩ (fun b i h=>(h0.stab b i (hT b i h)).2),fun b hb=>⟨P0 (hX b hb).1 h0.size,fun i hn=>(h0.hid b i (hX b hb).1).2 ((hX b hb).2 i hn)⟩,fun b i h=>(h0.stab b i (hT b i h)).1,fun id b h1 h2 hx=>?_,by rw [hd]; exact h8⟩
  .exact hn ⟨h.own id b h1 h2,fun hx=>h5 id b h1 h2 hx⟩
  .exact(h0.far b (hX b hx).1 fun id0 h3 h4=>h5 id0 b h3 h4 hx).2 id h1 h2

theorem Sat.fits {B:List Nat} {w:World} {β:H4} {l l':Fr} {L L':Loc} (hs:Sat w β L) (h:Fits B l L l' L'):Sat w β L':=by
 have hd:=h.drop
 refine⟨hs.hid,fun id b hid hb=>hs.bnd id b (hd.some hid) hb,fun id b j hid hb=>hs.apart id b j (hd.some hid) hb,fun id id' b h1 h2=>hs.inj id id' b (hd.some h1) (hd.some h2),fun id o' h6=>?_⟩
 obtain⟨o,ho,hc⟩:=h.loc.get h6
 have h0:=hs.obj id o ho
 cases hc with
 | same=>exact h0
 | map=>
  obtain⟨b,h1,h2⟩:=h0
  exact⟨b,h1,h2.mono rfl fun h=>h.mono fun b i hs=>⟨hd.stab hs,rfl⟩⟩
 | vec=>
  obtain⟨h7,h0⟩:=h0
  refine⟨h7,?_⟩
  rcases h0 with h0 | ⟨b,h1,vs,h2,h3,h4⟩
  .exact .inl h0
  .exact .inr ⟨b,h1,vs,h2,h3,fun j u v hu hv=>(h4 j u v hu hv).mono fun b i hs=>⟨hd.stab hs,rfl⟩⟩
 | pin=>
  obtain⟨h1,vs,h2,h3,h4⟩:=h0
  exact⟨h1,vs,h2,h3,fun j u v hu hv=>(h4 j u v hu hv).mono fun b i hs=>⟨hd.stab hs,rfl⟩⟩
 | iter hm=>
  obtain⟨b,h1,bm,h2,h4⟩:=h0
  exact⟨b,h1,bm,h2.drop hd hm,h4⟩
 | box hl hc=>
  obtain⟨b,h1,vs,h2,h3,h4⟩:=h0
  refine⟨b,h1,vs,h2,h3.trans hl,fun j u' v h5 hv=>?_⟩
  rename_i cs cs'
  have hj:j < cs.length:=by
   rcases P4 j cs'.length with h | h
   .omega
   .simp [List.getElem?_eq_none h] at h5
  exact(h4 j cs[j] v (by simp [hj]) hv).conv hd (hc j _ _ (by simp [hj]) h5)
theorem StI.fits {Y:Type} {E:nF Y} {N:Cfg} {a:Act} {w:World} {β:H4} {l l':Fr} {L L':Loc} {k:Y} (h:StI E N a w β l L k) (h0:Fits N.base l L l' L'):StI E N a w β l' L' k:=
 ⟨h.sat.fits h0,⟨fun t=>(h.frame.tmp t).conv h0.drop (h0.fr.get t)⟩,h.size,h.defers.sub fun id D h1 h2=>⟨id,h0.drop.some h1,h2⟩,h.old,fun id b h1 h2=>h.own id b (h0.drop.some h1) h2,(by obtain⟨X,T,h1,h2,h3,h4,h5⟩:=h.gh; exact⟨X,T,h1,h2,fun b i h=>h0.drop.stab (h3 b i h),fun id b h=>h4 id b (h0.drop.some h),h5⟩),fun b i hn=>h.visFits h0.drop hn⟩

section code
variable {Y:Type} {E:nF Y} {P:Program} {N:Cfg} {Q:nK Y} {l:Fr} {L:Loc} {k:Y}

theorem xB {x y:Code} (h:∀ K:Fr→Loc→Y→Prop,(∀ l L k,JI E P N y Q l L k→K l L k)→JI E P N x (Q.seq K) l L k):JI E P N (.seq x y) Q l L k:=
 fun n a w β hs=>wpIn_seq (Code.wpIn_mono (fun e a' w' q=>by
  cases e with
  | normal=>obtain⟨J',l',L',k',h0,hq⟩:=q; exact hq n a' w' J' h0
  | exit i=>exact q
  | ret=>exact q
  | goto l=>exact q
  | panic c=>exact q
  | outgrown=>exact q) (h (fun l L k=>JI E P N y Q l L k) (fun _ _ _ h=>h) n a w β hs))
theorem Hcb (h:Q.norm l L k):JI E P N .skip Q l L k:=fun _ _ _ β hs=>wpIn_skip ⟨β,l,L,k,hs,h⟩
theorem Ja9 {i:Nat} (h:Q.exit i l L k):JI E P N (.exit i) Q l L k:=fun _ _ _ β hs=>wpIn_exit ⟨β,l,L,k,hs,h⟩
theorem Gbf {c:Operand} {x y:Code} {b:Bool} (hc:ev l c=.sc (.bool b)) (ht:b=true→JI E P N x Q l L k) (hf:b=false→JI E P N y Q l L k):JI E P N (.cond c x y) Q l L k:=
 fun n a w β hs=>by
  have hv:=hs.frame.ev c
  rw [hc] at hv
  exact wpIn_cond_split hv.inv_sc (fun e=>ht e n a w β hs) (fun e=>hf e n a w β hs)
theorem H3c {i:Nat} {c:Code} (h:JI E P N c (Q.blk i) l L k):JI E P N (.block i c) Q l L k:=
 fun n a w β hs=>wpIn_block (Code.wpIn_mono (fun e a' w' q=>by
  cases e with
  | normal=>exact q
  | exit j=>
   obtain⟨J',l',L',k',h0,hq⟩:=q
   simp only [Exit.inBlock]
   by_cases e:j=i
   .subst e
    simp only [if_true]
    exact⟨J',l',L',k',h0,by simpa [nK.blk] using hq⟩
   .have hb:Nat.beq j i=false:=by
     cases hb:Nat.beq j i with
     | false=>rfl
     | true=>exact absurd (P2 hb) e
    simp only [if_neg e]
    exact⟨J',l',L',k',h0,by simpa [nK.blk,e] using hq⟩
  | ret=>exact q
  | goto l=>exact q
  | panic c=>exact q
  | outgrown=>exact q) (h n a w β hs))
theorem lQ {id:Nat} {ops:List Oper} (h:JIL E P N ops.toArray ops Q l L k):JI E P N (.region id ops.toArray false) Q l L k:=
 fun n a w β hs=>wpIn_region_lit (h n a w β hs)
theorem uW {ops:Array Oper} (h:Q.norm l L k):JIL E P N ops [] Q l L k:=fun _ _ _ β hs=>⟨β,l,L,k,hs,h⟩

theorem Ja8 {body:Code} {X:Type} (I:X→Prop) (F:X→Fr) (M:X→Loc) (kf:X→Y) (C:X→Nat) (x0:X) (h0:I x0) (hf:Fits N.base l L (F x0) (M x0)) (hk:k=kf x0)
  (hr:∀ x,I x→∀ K:Fr→Loc→Y→Prop,(∀ l L x',I x'→C x' < C x→Fits N.base l L (F x') (M x')→K l L (kf x'))→JI E P N body (Q.seq K) (F x) (M x) (kf x)):JI E P N (.loop body) Q l L k:=by
 subst hk
 intro n a w β hs b kk cs h8 h6 h5
 have key:∀ m x a w β,C x=m→I x→StI E N a w β (F x) (M x) (kf x) →
   ∃ e a' w',Q.out E N e a' w'/\ArrivesIn (Machine.fenced P (FR N.ro)) P (lone (b.atR a (.code body::.inLoop body::kk)) cs w) b kk cs e a' w':=by
  intro m
  induction m using Nat.strongRecOn with
  | _ m ih=>
   intro x a w β hn hI hs
   obtain⟨e,a₁,w₁,hq,h4⟩:=hr x hI (fun l L q=>∃ x',I x'/\C x' < C x/\Fits N.base l L (F x') (M x')/\q=kf x') (fun l L x' h1 h2 h3=>⟨x',h1,h2,h3,rfl⟩) n a w β hs b (.inLoop body::kk) cs h8 h6 h5
   cases e with
   | normal=>
    obtain⟨J',l',L',q,h9,x',a0,a1,h7,rfl⟩:=hq
    obtain⟨e₂,a₂,w₂,hq₂,harr₂⟩:=ih (C x') (hn ▸ a1) x' a₁ w₁ J' rfl a0 (h9.fits h7)
    exact⟨e₂,a₂,w₂,hq₂,.of_steps (StepsIn.trans h4 (.one (fenced_calm h6 h5 rfl) stepR_inLoop)) harr₂⟩
   | exit id=>exact⟨.exit id,a₁,w₁,hq,.pass (x:=.inLoop body) rfl (fun _ _=>.inl (by simp)) h4⟩
   | goto l=>exact hq.elim
   | ret=>exact⟨.ret,a₁,w₁,hq,.pass (x:=.inLoop body) rfl (fun _ _=>.inl (by simp)) h4⟩
   | panic ch=>exact hq.elim
   | outgrown=>exact hq.elim
 obtain⟨e,a',w',hq,h4⟩:=key _ x0 a w β rfl h0 (hs.fits hf)
 exact⟨e,a',w',hq,.of_steps (.one (fenced_calm h6 h5 rfl) stepR_loop) h4⟩
end code

section ops
variable {Y:Type} {E:nF Y} {P:Program} {N:Cfg} {Q:nK Y} {l:Fr} {L L':Loc} {k:Y} {ops:Array Oper} {o:Oper} {rest:List Oper} {u:AV}

theorem hN {d:Nat} (hE:E.Ok P) (h:H2 P o l L (Is u L')) (hk:JIL E P N ops rest Q ((d,u)::l) L' k) (hg:o.guard=none) (hd:o.dst=some d) (hn:Nat.blt d N.n=true) (h2:dR o=true):JIL E P N ops (o::rest) Q l L k:=by
 intro n a w β hs
 refine jR (ro:=N.ro) hg h2 fun K hK=>h a w β K _ hs.sat hs.frame ?_
 intro u' L'' v w' J' hr h1 h0 hv
 obtain⟨rfl,rfl⟩:=hr
 have h3:d < a.tmps.size:=P0 (by simpa [Nat.blt_eq] using hn) hs.size
 rw [hd]
 exact hK _ _ (hk n _ w' J' (hs.step hE h0 h1 ((hs.frame.step h0).put h3 hv) (Act.put_size ..) (Act.put_defers' ..)))
theorem StI.round {L:Loc} {w w':World} {β:H4} {X X':Nat→Prop} {T:Nat→Nat→Prop} (h0:Sat w β L) (hX:∀ b,X b→b < w.heap.size/\∀ i,¬ T b i→β.hid b i) (notX:∀ id b,(lk L id).isSome=true→β id=some b→¬ X b) (ht:xU X w w')
  (hT:∀ b i,T b i→X b→Zb w' b i=Zb w b i) (h4:∀ b,b < w.heap.size→(X' b ↔ X b)) (h3:∀ b,X' b→b < w'.heap.size) :
  let J':H4:=⟨β.at_,fun b i=>β.hid b i\/(w.heap.size≤b/\b < w'.heap.size)⟩
  Sat w' J' L/\nJ w β L w' J' L/\∀ b,X' b→b < w'.heap.size/\∀ i,¬ T b i→J'.hid b i:=by
 intro J'
 have same:∀ id b,(lk L id).isSome=true→β id=some b→w'.heap[b]? = w.heap[b]? := fun id b h1 h2=>ht.keep b (h0.bnd id b h1 h2) (notX id b h1 h2)
 have stab:∀ b i,Ji w β L b i→Ji w' J' L b i:=fun b i hs=>⟨P0 hs.lt ht.size,fun h=>h.elim hs.seen (fun h=>by have:=hs.lt; omega),hs.kept⟩
 have cell:∀ b i,Ji w β L b i→Zb w' b i=Zb w b i:=fun b i hs=>by
  by_cases hx:X b
  .by_cases h:T b i
   .exact hT b i h hx
   .exact(hs.seen ((hX b hx).2 i h)).elim
  .exact Q1 (w:=w) (ht.keep b hs.lt hx)
 have stw:nJ w β L w' J' L:=⟨fun b i hs=>⟨stab b i hs,cell b i hs⟩,fun _ _ cs h=>⟨rfl,cs,h⟩,fun _ _ es h=>⟨rfl,es,h⟩,fun _ _ n es h=>⟨rfl,n,es,h⟩,
  fun id _ _ ver xs h=>⟨ver,xs,h,Pf,fun _=>⟨rfl,rfl,fun b hb=>cN (same id b (by rw [h]; rfl) hb)⟩⟩,
  fun id _ _ ver hw h=>⟨ver,hw,h,Pf,fun _=>⟨rfl,rfl,fun b hb=>same id b (by rw [h]; rfl) hb⟩⟩⟩
 refine⟨⟨fun b i h=>h.elim (fun h=>P0 (h0.hid b i h) ht.size) (fun h=>h.2),fun id b h1 h2=>P0 (h0.bnd id b h1 h2) ht.size,fun id b j h1 h2 h=>h.elim (h0.apart id b j h1 h2) (fun h=>by have:=h0.bnd id b h1 h2; omega),h0.inj,
  fun id o ho=>(h0.obj id o ho).stepW stw (fun b hb=>same id b (by rw [ho]; rfl) hb)⟩,stw,fun b hb=>⟨h3 b hb,fun i hn=>?_⟩⟩
 rcases P4 b w.heap.size with h | h
 .exact .inl ((hX b ((h4 b h).1 hb)).2 i hn)
 .exact .inr ⟨h,h3 b hb⟩

def RY (l:Fr):List Operand→List AV→Prop
 | [],[]=>True
 | x::r,u::s=>(ev l x=u\/(ev l x=.sc (.slice none 0 0)/\∃ k,u=.list k []))/\u.isData=true/\RY l r s
 | _,_=>False
theorem RY.length {l:Fr}:∀ {xs:List Operand} {us:List AV},RY l xs us→xs.length=us.length
 | [],[],_=>rfl
 | _::_,_::_,h=>by simp [RY.length h.2.2]
 | [],_::_,h=>h.elim
 | _::_,[],h=>h.elim
theorem RY.get {l:Fr}:∀ {xs:List Operand} {us:List AV},RY l xs us→∀ {j:Nat} {x:Operand} {u:AV},xs[j]? = some x→us[j]? = some u→(ev l x=u\/(ev l x=.sc (.slice none 0 0)/\∃ k,u=.list k []))/\u.isData=true
 | _::_,_::_,h,0,x,u,hx,hu=>by simp at hx hu; subst hx; subst hu; exact⟨h.1,h.2.1⟩
 | _::_,_::_,h,j+1,x,u,hx,hu=>RY.get h.2.2 (by simpa using hx) (by simpa using hu)
 | [],[],_,j,x,u,hx,_=>by simp at hx
 | [],_::_,h,_,_,_,_,_=>h.elim
 | _::_,[],h,_,_,_,_,_=>h.elim

theorem J0c {k':Y} {d:Nat} {x:Operand} {xs:List Operand} {us:List AV} {ts:Array TypeId} (hE:E.Ok P) (ho:o.op=.call { callee:=.value x,args:=xs.toArray,argTypes:=ts }) (hx:ev l x=.sc (.func (.yield E.lp) #[] #[]))
  (ha:RY l xs us) (hy:E.nx k us k'/\E.gv=none) (hk:JIL E P N ops rest Q ((d,BL true)::l) L k') (hg:o.guard=none) (hd:o.dst=some d) (hn:Nat.blt d N.n=true):JIL E P N ops (o::rest) Q l L k:=by
 intro n a w β hs
 obtain⟨X,T,hJ,hX,hT,h8,h9⟩:=hs.gh
 have a2:d < a.tmps.size:=P0 (by simpa [Nat.blt_eq] using hn) hs.size
 have hv:=hs.frame.ev x
 rw [hx] at hv
 have a3:=hv.inv_sc
 obtain⟨fn,tmps,assign,body,hr,hR⟩:=hE.round0 (n - 1) k k' us X T (fun b i=>T b i\/(E.fr b/\¬ X b/\Ji w β L b i)) w (xs.toArray.map a.eval) hy hJ (fun b i h=>.inl h) (fun b i h hn=>h.elim (fun h=>(hn h).elim) fun h=>⟨h.1,h.2.1,h.2.2.lt⟩) (by simp [ha.length]) (fun j u v hu hv=>by
  simp only [Array.getElem?_map,List.getElem?_toArray,Option.map_eq_some_iff] at hv
  obtain⟨y,hy,rfl⟩:=hv
  obtain⟨h1,h2⟩:=ha.get hy hu
  have this:=hs.frame.ev y
  have hD:D w (Ji w β L) u (a.eval y):=by
   rcases h1 with h1 | ⟨h1,k0,rfl⟩
   .rw [h1] at this; exact this.toD h2
   .rw [h1] at this; rw [this.inv_sc]; exact .nil (Nat.zero_le _)
  exact hD.mono fun b i h6=>⟨(Classical.em (E.S b i)).elim .inl fun hn=>.inr (.inr ⟨(hs.vis b i h6).elim (fun h=>(hn h).elim) (fun h=>h),fun hx=>h6.seen ((hX b hx).2 i hn),h6⟩),rfl⟩)
 refine wpListIn_plain hg fun K hK=>?_
 refine⟨fun _ _=>trivial,?_⟩
 have a0:(execOp a.eval o).run P w=.ok (.round E.lp fn tmps assign body) w:=by
  have h0:(execOp a.eval o).run P w=(Instr.yield E.lp (xs.toArray.map a.eval)).run P w:=by
   simp [execOp,ho,resolve,a3,Deferred.ofValue,invoke]
   done
  rw [h0,hr]
 rw [show o.semAt (FR N.ro).round a.eval=execOp a.eval o from Oper.semAt_eq _ _ _ (by rw [ho]; intro c hc; cases hc),a0,Oper.uponIn_round]
 refine⟨fun e=>(by cases e),RoundIn.mono (show RoundIn (FR N.ro) _ _ _ _ _ _ _ _ _ from hR) fun e w' h=>?_⟩
 obtain⟨rfl,X',a4,ht,h7,a1,a5⟩:=h
 have a6:∀ b i,(T b i\/(E.fr b/\¬ X b/\Ji w β L b i))→Ji w β L b i:=fun b i h=>h.elim (hT b i) (·.2.2)
 obtain⟨h1,h2,h3⟩:=StI.round (T:=E.S) hs.sat hX h8 ht (fun b i h _=>a5 b i h) h7 a1
 rw [hd]
 refine hK _ _ (hk n _ w' _ ⟨h1,(hs.frame.stepW h2).put a2 .sc,by rw [Act.put_size]; exact hs.size,by rw [Act.put_defers']; exact hs.defers.turn ht h9,Nat.le_trans hs.old ht.size,hs.own,⟨X',_,a4,h3,fun b i h=>(h2.stab b i (a6 b i h)).1,fun id b h4 h5 hx=>h8 id b h4 h5 ((h7 b (hs.sat.bnd id b h4 h5)).1 hx),by rw [Act.put_defers']; exact hs.defers.notX h9 h7⟩,fun b i hn=>hs.vis b i ⟨Nat.lt_of_not_le fun h=>hn.seen (.inr ⟨h,hn.lt⟩),fun h=>hn.seen (.inl h),hn.kept⟩⟩)

theorem StI.leaves {Y:Type} {E:nF Y} {F:Fence} {n:Nat} {P:Program} {fn:Func} {R:Ending→World→Prop} {N:Cfg} {β:H4} {L:Loc} {l:Fr} {k:Y} {tmps:Array Value} (hE:E.Ok P) :
  ∀ {ds:List Deferred} {w:World},StI E N { tmps:=tmps,defers:=ds } w β l L k→(∀ w'',StI E N { tmps:=tmps,defers:=[] } w'' β l L k→LeavesIn F n P fn tmps R [] .returning w'')→LeavesInM F n P fn tmps R ds .returning w
 | [],w,hs,h=>h w hs
 | d::ds,w,hs,h=>by
  obtain⟨D,rfl,hB,hD,hL⟩:=hs.defers.each d (List.mem_cons_self ..)
  refine⟨by simp,.inl ⟨D,w.putObj D (.deferred none),rfl,run_takeDeferred hD,StI.leaves hE ?_ h⟩⟩
  have hn:=List.nodup_cons.1 hs.defers.nodup
  obtain⟨X,T,hJ,hX,hT,h2,h1⟩:=hs.gh
  have ndX:=h1 _ (List.mem_cons_self ..) D rfl
  have sw:=iB (β:=β) (L:=L) (o':=.deferred none) hD (by simp) (by simp) hL
  refine⟨oV hD (by simp) (by simp) hL hs.sat,⟨fun t=>(hs.frame.tmp t).stepW sw⟩,hs.size,⟨fun h=>(by have:=hs.defers.top h; cases this),hn.2,fun d' h0=>?_⟩,by rw [World.putObj_size]; exact hs.old,hs.own,
   ⟨X,T,hE.abide k X T w _ hJ ⟨rfl,rfl,⟨rfl,Pf⟩,by rw [World.putObj_size]; exact Pf,fun b _ hb=>World.putObj_heap_other fun e=>hb ⟨hE.frW b (by rw [e]; exact hB),by rw [e]; exact ndX⟩⟩ (fun b i _=>wJ hD (by simp) (by simp) b i),fun b hb=>⟨by rw [World.putObj_size]; exact(hX b hb).1,(hX b hb).2⟩,fun b i h=>(sw.stab b i (hT b i h)).1,h2,fun d' h0=>h1 d' (List.mem_cons_of_mem _ h0)⟩,fun b i hn=>hs.vis b i ⟨by have:=hn.lt; rwa [World.putObj_size] at this,hn.seen,hn.kept⟩⟩
  obtain⟨D',rfl,h3,h4,h5⟩:=hs.defers.each d' (List.mem_cons_of_mem _ h0)
  exact⟨D',rfl,h3,(World.putObj_heap_other (fun e=>hn.1 (by rw [← e]; exact h0))).trans h4,h5⟩
theorem H3d {g:FuncId} {fn:Func} {c:Code} {caps:List AV} {Y:Type} {gv:Option (Nat×Nat)} {k0:Y} {nx:Y→List AV→Y→Prop} {fi:Y→Prop} (hf:P.funcs[g]? = some fn) (hb:fn.body=some c) (h2:fn.results=#[])
  (h:∀ E:nF Y,E.Ok P→E.nx=nx/\E.gv=gv→JI E P ⟨fn.ntmps,[],none⟩ c ⟨fun _ _ k=>fi k,fun _ _ k=>fi k,fun _ _ _ _=>False⟩ (jP 0 (.sc (.func (.yield E.lp) #[] #[])::caps)) [] k0):Gc2 P g caps gv k0 nx fi:=by
 intro n E lb X0 hE h4 hl h3 h0 hJ
 have h5:(#[Value.func (.yield E.lp) #[] #[]]++lb).size=(AV.sc (.func (.yield E.lp) #[] #[])::caps).length:=by simp [hl]; omega
 refine callsIn_of_wp_marks (F:=Fence.wide) hf hb trivial (Code.wpIn_mono (fun e a' w' q=>?_) (h E hE h4 n _ E.W0 ⟨fun _=>none,fun b i=>¬ E.S b i/\b < E.W0.heap.size⟩ ⟨⟨fun b i h=>h.2,fun id b h=>by simp [lk] at h,fun id b j h=>by simp [lk] at h,fun id id' b h=>by simp [lk] at h,fun id o h=>by simp [lk] at h⟩,⟨fun t=>?_⟩,?_,.nil,Pf,fun id b h=>by simp [lk] at h,⟨X0,_,hJ,fun b hb=>⟨h0 b hb,fun i hn=>⟨hn,h0 b hb⟩⟩,fun _ _ h=>h.elim,fun id b h=>by simp [lk] at h,fun d hd=>(Pe hd).elim⟩,fun b i hn=>Classical.byContradiction fun h=>hn.seen ⟨fun h'=>h (.inl h'),hn.lt⟩⟩))
 .have fin:(∃ J' l' L' k',StI E ⟨fn.ntmps,[],none⟩ a' w' J' l' L' k'/\fi k')→LeavesInM Fence.wide n P fn a'.tmps (fun e w'=>(∃ v',e=.returned v')/\∃ k X T,fi k/\E.J k X T w') a'.defers .returning w':=by
   rintro⟨J',l',L',k',hs,h6⟩
   refine StI.leaves hE (tmps:=a'.tmps) (ds:=a'.defers) hs fun w'' h7=>?_
   obtain⟨X,T,hX,_⟩:=h7.gh
   exact⟨_,results_none h2 _ _ _,⟨_,rfl⟩,k',X,T,h6,hX⟩
  cases e with
  | normal=>exact fin q
  | ret=>exact fin q
  | exit i=>obtain⟨_,_,_,_,_,hq⟩:=q; exact hq.elim
  | goto l=>exact q.elim
  | panic c=>exact q.elim
  | outgrown=>exact q.elim
 .rw [rD]
  simp only [Nat.zero_le,if_true,Nat.sub_zero]
  cases hu:(AV.sc (.func (.yield E.lp) #[] #[])::caps)[t]? with
  | none=>exact .junk
  | some u=>
   have ht:t < (#[Value.func (.yield E.lp) #[] #[]]++lb).size:=by rw [h5]; exact(Pa hu).1
   have e:((#[Value.func (.yield E.lp) #[] #[]]++lb)++Array.replicate (fn.ntmps - (#[Value.func (.yield E.lp) #[] #[]]++lb).size) undef).getD t undef=(#[Value.func (.yield E.lp) #[] #[]]++lb)[t]:=by
    rw [Array.getD_eq_getD_getElem?,Array.getElem?_append_left ht,Array.getElem?_eq_getElem ht]; rfl
   rw [e]
   cases t with
   | zero=>simp at hu; subst hu; simp; exact .sc
   | succ t=>
    have h1:caps[t]? = some u:=by simpa using hu
    have h8:t < lb.size:=by rw [hl]; exact(Pa h1).1
    have hv:=h3 t u lb[t] h1 (by simp [h8])
    have ev:(#[Value.func (.yield E.lp) #[] #[]]++lb)[t+1]=lb[t]:=by simp
    rw [ev]
    exact .data (hv.mono fun b i hs=>⟨⟨hE.sees b i hs,fun h=>h.1 hs,fun id o h=>by simp [lk] at h⟩,rfl⟩)
 .simp; omega
theorem Jac {g:FuncId} {fn:Func} {c:Code} {caps:List AV} {ys:List (List AV)} (hf:P.funcs[g]? = some fn) (hb:fn.body=some c) (h0:fn.results=#[])
  (h:∀ E:nF Nat,E.Ok P→E.nx=H2e ys/\E.gv=none→JI E P ⟨fn.ntmps,[],none⟩ c ⟨fun _ _ k=>k=ys.length,fun _ _ k=>k=ys.length,fun _ _ _ _=>False⟩ (jP 0 (.sc (.func (.yield E.lp) #[] #[])::caps)) [] 0):Iter P g caps ys:=H3d hf hb h0 h
end ops

section code
variable {Y:Type} {E:nF Y} {P:Program} {N:Cfg} {Q:nK Y} {l:Fr} {L:Loc} {k:Y}
theorem J46 {body:Code} {V:Type} (I:Nat→V→Prop) (F:Nat→V→Fr) (M:Nat→V→Loc) (kf:Nat→V→Y) (C:Nat→Nat) (i0:Nat) (s0:V) (h0:I i0 s0) (hf:Fits N.base l L (F i0 s0) (M i0 s0)) (hk:k=kf i0 s0)
  (hr:∀ i s,I i s→∀ K:Fr→Loc→Y→Prop,(∀ l L i' s' k',I i' s'→C i' < C i→Fits N.base l L (F i' s') (M i' s')→k'=kf i' s'→K l L k')→JI E P N body (Q.seq K) (F i s) (M i s) (kf i s)):JI E P N (.loop body) Q l L k:=
 Ja8 (fun x:Nat×V=>I x.1 x.2) (fun x=>F x.1 x.2) (fun x=>M x.1 x.2) (fun x=>kf x.1 x.2) (fun x=>C x.1) (i0,s0) h0 hf hk
  (fun x hi K hK=>hr x.1 x.2 hi K (fun l L i' s' k' h1 h2 h3 h4=>h4 ▸ hK l L (i',s') h1 h2 h3))
theorem J47 {c:Operand} {x y:Code} (hc:ev l c=.sc (.bool false)) (hf:JI E P N y Q l L k):JI E P N (.cond c x y) Q l L k:=Gbf hc (fun e=>by cases e) (fun _=>hf)
theorem Jaa {ops:Array Oper} {o:Oper} {rest:List Oper} {T Et k' d kk:Nat} {x:Operand} {xs:List AV} (hE:E.Ok P) (hT:sliceB P T Et k'=true) (hk:xs.length≤maxLen→JIL E P N ops rest Q ((d,I64 (xs.length:Int))::l) L k) (ho:o.op=.call { callee:=.builtin .len,args:=#[x],argTypes:=#[T] }) (hx:Jz (ev l x)=some (kk,xs))
  (hg:o.guard=none) (hd:o.dst=some d) (hn:Nat.blt d N.n=true):JIL E P N ops (o::rest) Q l L k:=by
 intro n a w β hs
 obtain⟨ao,cap,h1,h2,h3⟩:=((hs.frame.ev x).Jz hx).len
 exact hN hE (J5e hT ho hx) (hk (Nat.le_trans h2 h3)) hg hd hn (by unfold dR; rw [ho]) n a w β hs
theorem J48 {ops:Array Oper} {o:Oper} {rest:List Oper} {x:Operand} {T Et kk k' d:Nat} {Z:Type} {f:Z→AV} {xs:List Z} (hE:E.Ok P) (hT:sliceB P T Et k'=true) (ho:o.op=.call { callee:=.builtin .len,args:=#[x],argTypes:=#[T] }) (hx:Jz (ev l x)=some (kk,xs.map f))
  (hk:xs.length≤maxLen→JIL E P N ops rest Q ((d,I64 (xs.length:Int))::l) L k) (hg:o.guard=none) (hd:o.dst=some d) (hn:Nat.blt d N.n=true):JIL E P N ops (o::rest) Q l L k:=
 Jaa hE hT (fun hm=>by simp only [Pr] at hm ⊢; exact hk hm) ho hx hg hd hn
theorem Jdb {E:nF Nat} {k:Nat} {Z:Type} [DecidableEq Z] {f:Z→List AV} {ys:List Z} {x:Z} {gv:Option (Nat×Nat)} (h0:E.nx=H2e (ys.map f)/\E.gv=gv) (h:decide (ys[k]? = some x)=true):E.nx k (f x) (k+1)/\E.gv=gv:=by
 rw [h0.1]; exact⟨⟨by rw [Pj,P6 h]; rfl,rfl⟩,h0.2⟩
theorem J6e {k:Nat} {Z:Type} {f:Z→List AV} {ys:List Z} (h:decide (k=ys.length)=true):k=(ys.map f).length:=by
 rw [Pr]; exact P6 h
theorem J98 {Z β:Type} {f:Z→β} {ys:List Z} {k:Nat} {u:β} (h:(ys.map f)[k]? = some u):∃ hk:k < ys.length,u=f ys[k]:=by
 rw [Pj] at h
 cases hy:ys[k]? with
 | none=>rw [hy] at h; cases h
 | some y=>
  rw [hy] at h
  obtain⟨hk,e⟩:=Pa hy
  exact⟨hk,by rw [e]; exact(Pc h).symm⟩
end code
section frz
variable {Y:Type} {E:nF Y} {P:Program} {N:Cfg} {Q:nK Y} {l l':Fr} {L L':Loc} {k:Y}
end frz
end Go.Proofs.YthkihfoleenlmaaGreat
