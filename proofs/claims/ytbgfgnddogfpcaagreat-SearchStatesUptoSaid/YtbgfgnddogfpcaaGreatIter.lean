/- Functions that are ranged over: -/
import Derived.Test.YtbgfgnddogfpcaaGreatRel
set_option linter.unusedVariables false
set_option linter.unusedSimpArgs false
namespace Go.Proofs.YtbgfgnddogfpcaaGreat
open Go.RowKit

structure yD (X:Nat->Prop) (W W':World):Prop where
 os:W'.os=W.os
 tape:W'.tape=W.tape
 output:W'.output=W.output/\W.drawn<=W'.drawn
 size:W.heap.size<=W'.heap.size
 keep:∀ b,b < W.heap.size->¬ X b->W'.heap[b]? = W.heap[b]?

structure dI (Y:Type) where
 W0:World
 fr:Nat->Prop
 S:Nat->Nat->Prop
 lp:Nat
 J:Y->(Nat->Prop)->(Nat->Nat->Prop)->World->Prop
 nx:Y->AD->Y->Prop
 gv:Option (Nat×Nat):=none
def Given (gv:Option (Nat×Nat)) (W:World) (S:Nat->Nat->Prop) (G:Nat->Prop) (us:AD) (vs:Array Value):Prop:=
 match gv with
 | none=>∀ b,¬ G b
 | some (t,k)=>∃ xs v ob,us=[.list k xs]/\vs=#[v]/\v.oneCell'=true/\RX W ob t k xs.length v/\(∀ b,G b ↔ ob=some b)/\(∀ x∈xs,x.cells.length=k)/\((ob=none/\xs=[])\/∃ b,ob=some b/\∃ cs:Array Value,W.heap[b]? = some (.cells cs t (0,0))/\xs.length*k<=cs.size/\∀ (j:Nat) u v,(flat xs)[j]? = some u->cs[j]? = some v->D W S u v)
theorem Given.mono {gv:Option (Nat×Nat)} {W:World} {S S':Nat->Nat->Prop} {G:Nat->Prop} {us:AD} {vs:Array Value} (h:Given gv W S G us vs) (hs:∀ b i,S b i->S' b i):Given gv W S' G us vs:=by
 cases gv with
 | none=>exact h
 | some q=>
  obtain⟨xs,v,ob,h1,h2,h3,h4,h5,h6,h7⟩:=h;refine⟨xs,v,ob,h1,h2,h3,h4,h5,h6,h7.imp_right ?_⟩;rintro⟨b,g1,cs,g2,g3,g4⟩;exact⟨b,g1,cs,g2,g3,fun j u v hu hv=>(g4 j u v hu hv).mono fun b i h=>⟨hs b i h,rfl⟩⟩
def dI.After {Y:Type} (E:dI Y) (k':Y) (X:Nat->Prop) (T:Nat->Nat->Prop) (W:World) (e:Ending) (W':World):Prop:=
 e=.returned (.bool true)/\∃ X':Nat->Prop,E.J k' X' T W'/\yD X W W'/\(∀ b,b < W.heap.size->(X' b ↔ X b))/\(∀ b,X' b->b < W'.heap.size)/\∀ b i,E.S b i->Qf W' b i=Qf W b i
structure dI.Ok {Y:Type} (E:dI Y) (P:Program):Prop where
 sees:∀ b i,E.S b i->b < E.W0.heap.size
 frW:∀ b,E.W0.heap.size<=b->E.fr b
 frS:∀ b i,E.fr b->¬ E.S b i
 abide:∀ k X T W W',E.J k X T W->yD (fun b=>E.fr b/\¬ X b) W W'->(∀ b i,T b i->Qf W' b i=Qf W b i)->E.J k X T W'
 round:∀ (m:Nat) (k k':Y) us X T (T':Nat->Nat->Prop) (G:Nat->Prop) W (vs:Array Value),E.nx k us k'->E.J k X T W->(∀ b i,T b i->T' b i)->(∀ b i,T' b i->¬ T b i->E.fr b/\¬ X b/\b < W.heap.size)->vs.size=us.length ->
  (∀ (j:Nat) u v,us[j]? = some u->vs[j]? = some v->D W (fun b i=>E.S b i\/T' b i\/G b) u v)->(∀ b,G b->E.fr b/\¬ X b/\b < W.heap.size/\∀ i,¬ T' b i)->Given E.gv W (fun b i=>E.S b i\/T' b i) G us vs ->
  YieldAt Fence.wide m P E.lp vs W (E.After k' (fun b=>X b\/G b) T' W)
def G83 (P:Program) (g:FuncId) (AZ:AD) (gv:Option (Nat×Nat)) {Y:Type} (k0:Y) (nx:Y->AD->Y->Prop) (fin:Y->Prop):Prop:=
 ∀ (n:Nat) (E:dI Y) (lb:Array Value) (X0:Nat->Prop),E.Ok P->E.nx=nx/\E.gv=gv->lb.size=AZ.length->(∀ (j:Nat) u v,AZ[j]? = some u->lb[j]? = some v->D E.W0 E.S u v)->(∀ b,X0 b->b < E.W0.heap.size) ->
  E.J k0 X0 (fun _ _=>False) E.W0->CallsIn Fence.wide n P g (#[.func (.yield E.lp) #[] #[]]++lb) E.W0 fun e W'=>(∃ v,e=.returned v)/\∃ k X T,fin k/\E.J k X T W'
def ZZ (ys:List AD):Nat->AD->Nat->Prop:=fun k us k'=>ys[k]? = some us/\k'=k+1
def Ge8 (P:Program) (g:FuncId) (AZ:AD) (t k:Nat) (ys:List AD):Prop:=G83 P g AZ (some (t,k)) 0 (ZZ ys) (fun k=>k=ys.length)

structure StI {Y:Type} (E:dI Y) (N:Cfg) (a:Act) (w:World) (U:Gx) (l:Fr) (L:Loc) (k:Y):Prop where
 sat:Sat w U L
 frame:Jq a w U L l
 size:N.n<=a.tmps.size
 defers:gY N.ro E.W0.heap.size w U L a.defers
 old:E.W0.heap.size<=w.heap.size
 own:∀ id b,(lk L id).isSome=true->U id=some b->E.fr b
 gh:∃ X T,E.J k X T w/\(∀ b,X b->b < w.heap.size/\∀ i,¬ E.S b i->U.hid b i)/\(∀ b i,T b i->Hs w U L b i)/\(∀ id b,(lk L id).isSome=true->U id=some b->¬ X b)/\∀ d∈a.defers,∀ D,d={ target:=.collected D,args:=#[] }->¬ X D
 vis:∀ b i,Hs w U L b i->E.S b i\/E.fr b

structure iH (Y:Type) where
 norm:Fr->Loc->Y->Prop
 ret:Fr->Loc->Y->Prop
 exit:Nat->Fr->Loc->Y->Prop
def iH.seq {Y:Type} (Q:iH Y) (K:Fr->Loc->Y->Prop):iH Y:=⟨K,Q.ret,Q.exit⟩
def iH.blk {Y:Type} (Q:iH Y) (i:Nat):iH Y:=⟨Q.norm,Q.ret,fun j l L k=>bif Nat.beq j i then Q.norm l L k else Q.exit j l L k⟩
def iH.out {Y:Type} (Q:iH Y) (E:dI Y) (N:Cfg):Exit->Act->World->Prop
 | .normal,a,w=>∃ U l L k,StI E N a w U l L k/\Q.norm l L k
 | .ret,a,w=>∃ U l L k,StI E N a w U l L k/\Q.ret l L k
 | .exit i,a,w=>∃ U l L k,StI E N a w U l L k/\Q.exit i l L k
 | _,_,_=>False
def JI {Y:Type} (E:dI Y) (P:Program) (N:Cfg) (c:Code) (Q:iH Y) (l:Fr) (L:Loc) (k:Y):Prop:=
 ∀ (n:Nat) a w U,StI E N a w U l L k->c.wpIn (FR N.ro) n P (Q.out E N) a w
def JIL {Y:Type} (E:dI Y) (P:Program) (N:Cfg) (ops:Array Oper) (rest:AM) (Q:iH Y) (l:Fr) (L:Loc) (k:Y):Prop:=
 ∀ (n:Nat) a w U,StI E N a w U l L k->wpListIn (FR N.ro) n P ops (Q.out E N) rest a w

variable {U:Gx} {L:Loc} {w w':World}
theorem gY.turn {ro:Option Nat} {B:Nat} {h':Nat->Nat->Prop} {ds:List Deferred} {X:Nat->Prop} (h:gY ro B w U L ds) (ht:yD X w w') (hX:∀ d∈ds,∀ D,d={ target:=.collected D,args:=#[] }->¬ X D):gY ro B w' ⟨U.at_,h'⟩ L ds:=
 ⟨h.top,h.nodup,fun d hd=>by
  obtain⟨D,e,h1,h2,h3⟩:=h.each d hd;exact⟨D,e,h1,(ht.keep D (Nz h2).1 (hX d hd D e)).trans h2,h3⟩⟩
theorem gY.notX {ro:Option Nat} {B:Nat} {ds:List Deferred} {X X':Nat->Prop} (h:gY ro B w U L ds) (hX:∀ d∈ds,∀ D,d={ target:=.collected D,args:=#[] }->¬ X D) (h0:∀ b,b < w.heap.size->(X' b ↔ X b)):∀ d∈ds,∀ D,d={ target:=.collected D,args:=#[] }->¬ X' D:=fun d hd D e hx=>by
 obtain⟨D',e',_,h2,_⟩:=h.each d hd;have:D'=D:=by rw [e] at e'; injection e' with e3; injection e3 with e4; exact e4.symm
 subst this;exact hX d hd D' e ((h0 D' (Nz h2).1).1 hx)
variable {a:Act} {N:Cfg} {l:Fr} {L':Loc} {Y:Type} {E:dI Y} {k:Y}
theorem StI.visStep {P:Program} {U':Gx} (hE:E.Ok P) (h:StI E N a w U l L k) (h0:Step w U L w' U' L') {b i:Nat} (hn:Hs w' U' L' b i):E.S b i\/E.fr b:=by
 have old':=h.old;rcases P4 b w.heap.size with hb | hb
 .by_cases ho:∃ id,(lk L id).isSome=true/\U id=some b
  .obtain⟨id,h1,h2⟩:=ho;exact .inr (h.own id b h1 h2)
  .exact h.vis b i ⟨hb,fun hh=>hn.seen ((h0.hid b i hb).2 hh),fun id o h1 h2=>(ho ⟨id,by rw [h1]; rfl,h2⟩).elim⟩
 .exact .inr (hE.frW b (by omega))
theorem StI.visFits (h:StI E N a w U l L k) (hd:tV L L') {b i:Nat} (hn:Hs w U L' b i):E.S b i\/E.fr b:=by
 by_cases ho:∃ id,(lk L id).isSome=true/\U id=some b
 .obtain⟨id,h1,h2⟩:=ho;exact .inr (h.own id b h1 h2)
 .exact h.vis b i ⟨hn.lt,hn.seen,fun id o h1 h2=>(ho ⟨id,by rw [h1]; rfl,h2⟩).elim⟩
variable {l':Fr}
theorem StI.step {P:Program} {a':Act} {U':Gx} (hE:E.Ok P) (h:StI E N a w U l L k) (h0:Step w U L w' U' L') (h6:Sat w' U' L') (hf:Jq a' w' U' L' l') (h7:a'.tmps.size=a.tmps.size) (hd:a'.defers=a.defers):StI E N a' w' U' l' L' k:=by
 have old':=h.old;refine⟨h6,hf,by rw [h7]; exact h.size,by rw [hd]; exact h.defers.step h0,Nat.le_trans h.old h0.size,fun id b h1 h2=>?_,?_,fun b i hn=>h.visStep hE h0 hn⟩
 .rcases P4 b w.heap.size with hb | hb
  .refine Classical.byContradiction fun hn=>?_;have:∀ id0,(lk L id0).isSome=true->U id0≠some b:=fun id0 h3 h4=>hn (h.own id0 b h3 h4);exact(h0.far b hb this).2 id h1 h2
  .exact hE.frW b (by omega)
 .obtain⟨X,T,hJ,hX,hT,h5,h8⟩:=h.gh;refine⟨X,T,hE.abide k X T w w' hJ ⟨h0.os,h0.tape,h0.output,h0.size,fun b hb hn=>(h0.far b hb fun id h1 h2=>?_).1⟩ (fun b i h=>(h0.AX b i (hT b i h)).2),fun b hb=>⟨P0 (hX b hb).1 h0.size,fun i hn=>(h0.hid b i (hX b hb).1).2 ((hX b hb).2 i hn)⟩,fun b i h=>(h0.AX b i (hT b i h)).1,fun id b h1 h2 hx=>?_,by rw [hd]; exact h8⟩
  .exact hn ⟨h.own id b h1 h2,fun hx=>h5 id b h1 h2 hx⟩
  .exact(h0.far b (hX b hx).1 fun id0 h3 h4=>h5 id0 b h3 h4 hx).2 id h1 h2

theorem Sat.fits {B:AI} (hs:Sat w U L) (h:Fits B l L l' L'):Sat w U L':=by
 have hd:=h.drop;refine⟨hs.hid,fun id b hid hb=>hs.bnd id b (hd.some hid) hb,fun id b j hid hb=>hs.apart id b j (hd.some hid) hb,fun id id' b h1 h2=>hs.inj id id' b (hd.some h1) (hd.some h2),fun id o' h6=>?_⟩;obtain⟨o,ho,hc⟩:=h.loc.get h6;have h0:=hs.obj id o ho;cases hc with
 | same=>exact h0
 | map=>
  obtain⟨b,h1,h2⟩:=h0;exact⟨b,h1,h2.mono rfl fun h=>h.mono fun b i hs=>⟨hd.AX hs,rfl⟩⟩
 | vec=>
  obtain⟨h7,h0⟩:=h0;refine⟨h7,?_⟩;rcases h0 with h0 | ⟨b,h1,vs,h2,h3,h4⟩
  .exact .inl h0
  .exact .inr ⟨b,h1,vs,h2,h3,fun j u v hu hv=>(h4 j u v hu hv).mono fun b i hs=>⟨hd.AX hs,rfl⟩⟩
 | pin=>
  obtain⟨h1,vs,h2,h3,h4⟩:=h0;exact⟨h1,vs,h2,h3,fun j u v hu hv=>(h4 j u v hu hv).mono fun b i hs=>⟨hd.AX hs,rfl⟩⟩
 | iter hm=>
  obtain⟨b,h1,bm,h2,h4⟩:=h0;exact⟨b,h1,bm,h2.drop hd hm,h4⟩
 | box hl hc=>
  obtain⟨b,h1,vs,h2,h3,h4⟩:=h0;refine⟨b,h1,vs,h2,h3.trans hl,fun j u' v h5 hv=>?_⟩;rename_i cs cs';have hj:j < cs.length:=by
   rcases P4 j cs'.length with h | h
   .omega
   .simp [List.getElem?_eq_none h] at h5
  exact(h4 j cs[j] v (by simp [hj]) hv).conv hd (hc j _ _ (by simp [hj]) h5)
theorem StI.fits (h:StI E N a w U l L k) (h0:Fits N.base l L l' L'):StI E N a w U l' L' k:=
 ⟨h.sat.fits h0,⟨fun t=>(h.frame.tmp t).conv h0.drop (h0.fr.get t)⟩,h.size,h.defers.sub fun id D h1 h2=>⟨id,h0.drop.some h1,h2⟩,h.old,fun id b h1 h2=>h.own id b (h0.drop.some h1) h2,(by obtain⟨X,T,h1,h2,h3,h4,h5⟩:=h.gh; exact⟨X,T,h1,h2,fun b i h=>h0.drop.AX (h3 b i h),fun id b h=>h4 id b (h0.drop.some h),h5⟩),fun b i hn=>h.visFits h0.drop hn⟩

section code
variable {Y:Type} {E:dI Y} {P:Program} {N:Cfg} {Q:iH Y} {l:Fr} {L:Loc} {k:Y}

theorem eQ {x y:Code} (h:∀ K:Fr->Loc->Y->Prop,(∀ l L k,JI E P N y Q l L k->K l L k)->JI E P N x (Q.seq K) l L k):JI E P N (.seq x y) Q l L k:=
 fun n a w U hs=>wpIn_seq (Code.wpIn_mono (fun e a' w' q=>by
  cases e with
  | normal=>obtain⟨U',l',L',k',h0,hq⟩:=q; exact hq n a' w' U' h0
  | exit i=>exact q
  | ret=>exact q
  | goto l=>exact q
  | panic c=>exact q
  | outgrown=>exact q) (h (fun l L k=>JI E P N y Q l L k) (fun _ _ _ h=>h) n a w U hs))
theorem QJ (h:Q.norm l L k):JI E P N .skip Q l L k:=fun _ _ _ U hs=>wpIn_skip ⟨U,l,L,k,hs,h⟩
theorem Qa0 (h:Q.ret l L k):JI E P N .ret Q l L k:=fun _ _ _ U hs=>wpIn_ret ⟨U,l,L,k,hs,h⟩
theorem H19 {i:Nat} (h:Q.exit i l L k):JI E P N (.exit i) Q l L k:=fun _ _ _ U hs=>wpIn_exit ⟨U,l,L,k,hs,h⟩
theorem zC {c:Operand} {x y:Code} {b:Bool} (hc:ev l c=.sc (.bool b)) (ht:b=true->JI E P N x Q l L k) (hf:b=false->JI E P N y Q l L k):JI E P N (.cond c x y) Q l L k:=
 fun n a w U hs=>by
  have hv:=hs.frame.ev c;rw [hc] at hv;exact wpIn_cond_split hv.inv_sc (fun e=>ht e n a w U hs) (fun e=>hf e n a w U hs)
theorem uJ {i:Nat} {c:Code} (h:JI E P N c (Q.blk i) l L k):JI E P N (.block i c) Q l L k:=
 fun n a w U hs=>wpIn_block (Code.wpIn_mono (fun e a' w' q=>by
  cases e with
  | normal=>exact q
  | exit j=>
   obtain⟨U',l',L',k',h0,hq⟩:=q;simp only [Exit.inBlock];by_cases e:j=i
   .subst e;simp only [if_true];exact⟨U',l',L',k',h0,by simpa [iH.blk] using hq⟩
   .have hb:Nat.beq j i=false:=by
     cases hb:Nat.beq j i with
     | false=>rfl
     | true=>exact absurd (P2 hb) e
    simp only [if_neg e];exact⟨U',l',L',k',h0,by simpa [iH.blk,e] using hq⟩
  | ret=>exact q
  | goto l=>exact q
  | panic c=>exact q
  | outgrown=>exact q) (h n a w U hs))
theorem aV {id:Nat} {ops:AM} (h:JIL E P N ops.toArray ops Q l L k):JI E P N (.region id ops.toArray false) Q l L k:=
 fun n a w U hs=>wpIn_region_lit (h n a w U hs)
theorem eU {ops:Array Oper} (h:Q.norm l L k):JIL E P N ops [] Q l L k:=fun _ _ _ U hs=>⟨U,l,L,k,hs,h⟩

theorem J49 {c:Code} {l':Fr} {L':Loc} (h:Fits N.base l L l' L') (hk:JI E P N c Q l' L' k):JI E P N c Q l L k:=
 fun n a w U hs=>hk n a w U (hs.fits h)

theorem Q3d {body:Code} {X:Type} (I:X->Prop) (F:X->Fr) (M:X->Loc) (kf:X->Y) (C:X->Nat) (x0:X) (h0:I x0) (hf:Fits N.base l L (F x0) (M x0)) (hk:k=kf x0)
  (hr:∀ x,I x->∀ K:Fr->Loc->Y->Prop,(∀ l L x',I x'->C x' < C x->Fits N.base l L (F x') (M x')->K l L (kf x'))->JI E P N body (Q.seq K) (F x) (M x) (kf x)):JI E P N (.loop body) Q l L k:=by
 subst hk;intro n a w U hs b kk cs h8 h6 h5;have key:∀ m x a w U,C x=m->I x->StI E N a w U (F x) (M x) (kf x) ->
   ∃ e a' w',Q.out E N e a' w'/\ArrivesIn (Machine.fenced P (FR N.ro)) P (lone (b.atR a (.code body::.inLoop body::kk)) cs w) b kk cs e a' w':=by
  intro m
  induction m using Nat.strongRecOn with
  | _ m ih=>
   intro x a w U hn hI hs;obtain⟨e,a₁,w₁,hq,h4⟩:=hr x hI (fun l L q=>∃ x',I x'/\C x' < C x/\Fits N.base l L (F x') (M x')/\q=kf x') (fun l L x' h1 h2 h3=>⟨x',h1,h2,h3,rfl⟩) n a w U hs b (.inLoop body::kk) cs h8 h6 h5;cases e with
   | normal=>
    obtain⟨U',l',L',q,h9,x',a0,a1,h7,rfl⟩:=hq;obtain⟨e₂,a₂,w₂,hq₂,harr₂⟩:=ih (C x') (hn ▸ a1) x' a₁ w₁ U' rfl a0 (h9.fits h7);exact⟨e₂,a₂,w₂,hq₂,.of_steps (StepsIn.trans h4 (.one (fenced_calm h6 h5 rfl) stepR_inLoop)) harr₂⟩
   | exit id=>exact⟨.exit id,a₁,w₁,hq,.pass (x:=.inLoop body) rfl (fun _ _=>.inl (by simp)) h4⟩
   | goto l=>exact hq.elim
   | ret=>exact⟨.ret,a₁,w₁,hq,.pass (x:=.inLoop body) rfl (fun _ _=>.inl (by simp)) h4⟩
   | panic ch=>exact hq.elim
   | outgrown=>exact hq.elim
 obtain⟨e,a',w',hq,h4⟩:=key _ x0 a w U rfl h0 (hs.fits hf);exact⟨e,a',w',hq,.of_steps (.one (fenced_calm h6 h5 rfl) stepR_loop) h4⟩
end code

section ops
variable {Y:Type} {E:dI Y} {P:Program} {N:Cfg} {Q:iH Y} {l:Fr} {L L':Loc} {k:Y} {ops:Array Oper} {o:Oper} {rest:AM} {u:AV}

variable {d:Nat}
theorem Jce (hE:E.Ok P) (hg:o.guard=none) (hd:o.dst=some d) (hn:Nat.blt d N.n=true) {R:AV->Loc->Prop} (h:Gy P o l L R)
  (hk:∀ u L',R u L'->JIL E P N ops rest Q ((d,u)::l) L' k) (h2:bL o=true:=by rfl):JIL E P N ops (o::rest) Q l L k:=by
 intro n a w U hs;refine kP (ro:=N.ro) hg h2 fun K hK=>h a w U K _ hs.sat hs.frame ?_;intro u L' v w' U' hr h1 h0 hv;have h3:d < a.tmps.size:=P0 (by simpa [Nat.blt_eq] using hn) hs.size;rw [hd];exact hK _ _ (hk u L' hr n _ w' U' (hs.step hE h0 h1 ((hs.frame.step h0).put h3 hv) (Act.put_size ..) (Act.put_defers' ..)))
theorem Rc (hE:E.Ok P) (h:Gy P o l L (Is u L')) (hk:JIL E P N ops rest Q ((d,u)::l) L' k) (hg:o.guard=none) (hd:o.dst=some d) (hn:Nat.blt d N.n=true) (h2:bL o=true):JIL E P N ops (o::rest) Q l L k:=by
 intro n a w U hs;refine kP (ro:=N.ro) hg h2 fun K hK=>h a w U K _ hs.sat hs.frame ?_;intro u' L'' v w' U' hr h1 h0 hv;obtain⟨rfl,rfl⟩:=hr;have h3:d < a.tmps.size:=P0 (by simpa [Nat.blt_eq] using hn) hs.size;rw [hd];exact hK _ _ (hk n _ w' U' (hs.step hE h0 h1 ((hs.frame.step h0).put h3 hv) (Act.put_size ..) (Act.put_defers' ..)))
theorem J4b (hE:E.Ok P) (h:Gy P o l L (Is u L')) (hk:JIL E P N ops rest Q l L' k) (hg:o.guard=none) (hd:o.dst=none) (h2:bL o=true):JIL E P N ops (o::rest) Q l L k:=by
 intro n a w U hs;refine kP (ro:=N.ro) hg h2 fun K hK=>h a w U K _ hs.sat hs.frame ?_;intro u' L'' v w' U' hr h1 h0 hv;obtain⟨rfl,rfl⟩:=hr;rw [hd];exact hK _ _ (hk n _ w' U' (hs.step hE h0 h1 (hs.frame.step h0) rfl rfl))

theorem StI.round {L:Loc} {w w':World} {U:Gx} {X X':Nat->Prop} {T:Nat->Nat->Prop} (h0:Sat w U L) (hX:∀ b,X b->b < w.heap.size/\∀ i,¬ T b i->U.hid b i) (notX:∀ id b,(lk L id).isSome=true->U id=some b->¬ X b) (ht:yD X w w')
  (hT:∀ b i,T b i->X b->Qf w' b i=Qf w b i) (h4:∀ b,b < w.heap.size->(X' b ↔ X b)) (h3:∀ b,X' b->b < w'.heap.size) :
  let U':Gx:=⟨U.at_,fun b i=>U.hid b i\/(w.heap.size<=b/\b < w'.heap.size)⟩
  Sat w' U' L/\mI w U L w' U' L/\∀ b,X' b->b < w'.heap.size/\∀ i,¬ T b i->U'.hid b i:=by
 intro U';have same:∀ id b,(lk L id).isSome=true->U id=some b->w'.heap[b]? = w.heap[b]? := fun id b h1 h2=>ht.keep b (h0.bnd id b h1 h2) (notX id b h1 h2);have AX:∀ b i,Hs w U L b i->Hs w' U' L b i:=fun b i hs=>⟨P0 hs.lt ht.size,fun h=>h.elim hs.seen (fun h=>by have:=hs.lt; omega),hs.kept⟩;have cell:∀ b i,Hs w U L b i->Qf w' b i=Qf w b i:=fun b i hs=>by
  by_cases hx:X b
  .by_cases h:T b i
   .exact hT b i h hx
   .exact(hs.seen ((hX b hx).2 i h)).elim
  .exact Jc (w:=w) (ht.keep b hs.lt hx)
 have stw:mI w U L w' U' L:=⟨fun b i hs=>⟨AX b i hs,cell b i hs⟩,fun _ _ cs h=>⟨rfl,cs,h⟩,fun _ _ es h=>⟨rfl,es,h⟩,fun _ _ n es h=>⟨rfl,n,es,h⟩,
  fun id _ _ ver xs h=>⟨ver,xs,h,Pf,fun _=>⟨rfl,rfl,fun b hb=>bK (same id b (by rw [h]; rfl) hb)⟩⟩,
  fun id _ _ ver hw h=>⟨ver,hw,h,Pf,fun _=>⟨rfl,rfl,fun b hb=>same id b (by rw [h]; rfl) hb⟩⟩⟩
 refine⟨⟨fun b i h=>h.elim (fun h=>P0 (h0.hid b i h) ht.size) (fun h=>h.2),fun id b h1 h2=>P0 (h0.bnd id b h1 h2) ht.size,fun id b j h1 h2 h=>h.elim (h0.apart id b j h1 h2) (fun h=>by have:=h0.bnd id b h1 h2; omega),h0.inj,
  fun id o ho=>(h0.obj id o ho).stepW stw (fun b hb=>same id b (by rw [ho]; rfl) hb)⟩,stw,fun b hb=>⟨h3 b hb,fun i hn=>?_⟩⟩
 rcases P4 b w.heap.size with h | h
 .exact .inl ((hX b ((h4 b h).1 hb)).2 i hn)
 .exact .inr ⟨h,h3 b hb⟩

variable {kk t:Nat}
theorem StI.give {a:Act} {w:World} {U:Gx} {i ver:Nat} {xs:AD} (hs:StI E N a w U l L k) (hi:lk L i=some (.vec t kk ver xs)) {X:Nat->Prop} {T:Nat->Nat->Prop} (hX:∀ b,X b->b < w.heap.size/\∀ i,¬ E.S b i->U.hid b i) (hT:∀ b i,T b i->Hs w U L b i) (h7:∀ id b,(lk L id).isSome=true->U id=some b->¬ X b) (hE:E.Ok P) :
  ∃ U':Gx,Sat w U' ((i,.vec t kk (ver+1) [])::L)/\mI w U L w U' ((i,.vec t kk (ver+1) [])::L)/\(∀ b,(X b\/U i=some b)->b < w.heap.size/\∀ i,¬ E.S b i->U'.hid b i)/\(∀ id b,(lk ((i,Jb.vec t kk (ver+1) [])::L) id).isSome=true->U' id=some b->(lk L id).isSome=true/\U id=some b/\¬ (X b\/U i=some b))/\∀ b j,Hs w U' ((i,.vec t kk (ver+1) [])::L) b j->Hs w U L b j:=by
 have h0:∀ id,i≠id->(lk ((i,Jb.vec t kk (ver+1) [])::L) id)=lk L id:=fun id e=>by rw [Ge,if_neg e]
 have h5:(lk L i).isSome=true:=by rw [hi]; rfl
 have own:∀ id b,(lk ((i,Jb.vec t kk (ver+1) [])::L) id).isSome=true->(upP U i none) id=some b->i≠id/\(lk L id).isSome=true/\U id=some b/\U i≠some b:=fun id b h1 h2=>by
  by_cases e:i=id
  .subst e; simp [upP] at h2
  .rw [h0 id e] at h1;have h6:U id=some b:=by simpa only [upP,if_neg (Ne.symm e)] using h2
   exact⟨e,h1,h6,fun h3=>e (hs.sat.inj i id b h5 h1 h3 h6)⟩
 have nS:∀ b j,Hs w U L b j->U i≠some b:=fun b j h hb=>h.kept i _ hi hb;have AX:∀ b j,Hs w U L b j->Hs w ⟨(upP U i none).at_,fun b j=>U.hid b j\/(U i=some b)⟩ ((i,.vec t kk (ver+1) [])::L) b j:=fun b j h=>⟨h.lt,fun hh=>hh.elim h.seen (nS b j h),fun id o ho hb=>by
  obtain⟨e,h1,h2,h3⟩:=own id b (by rw [ho]; rfl) hb;rw [h0 id e] at ho;exact h.kept id o ho h2⟩
 have stw:mI w U L w ⟨(upP U i none).at_,fun b j=>U.hid b j\/(U i=some b)⟩ ((i,.vec t kk (ver+1) [])::L):=by
  refine⟨fun b j h=>⟨AX b j h,rfl⟩,fun id t' cs h=>?_,fun id t' es h=>?_,fun id t' n es h=>?_,fun id t' k' ver' xs' h=>?_,fun id t' k' ver' h8 h=>?_⟩
  .have e:i≠id:=fun e=>by subst e; rw [hi] at h; cases h
   exact⟨by simp [upP,Ne.symm e],cs,by rw [h0 id e]; exact h⟩
  .have e:i≠id:=fun e=>by subst e; rw [hi] at h; cases h
   exact⟨by simp [upP,Ne.symm e],es,by rw [h0 id e]; exact h⟩
  .have e:i≠id:=fun e=>by subst e; rw [hi] at h; cases h
   exact⟨by simp [upP,Ne.symm e],n,es,by rw [h0 id e]; exact h⟩
  .by_cases e:i=id
   .subst e;rw [hi] at h; cases h;exact⟨ver+1,[],by rw [Ge,if_pos rfl],Nat.le_succ _,fun h=>by omega⟩
   .exact⟨ver',xs',by rw [h0 id e]; exact h,Pf,fun _=>⟨rfl,by simp [upP,Ne.symm e],fun _ _=>rfl⟩⟩
  .have e:i≠id:=fun e=>by subst e; rw [hi] at h; cases h
   exact⟨ver',h8,by rw [h0 id e]; exact h,Pf,fun _=>⟨rfl,by simp [upP,Ne.symm e],fun _ _=>rfl⟩⟩
 refine⟨⟨(upP U i none).at_,fun b j=>U.hid b j\/(U i=some b)⟩,⟨fun b j h=>h.elim (hs.sat.hid b j) (fun h=>hs.sat.bnd i b h5 h),fun id b h1 h2=>?_,fun id b j h1 h2 hh=>?_,fun id id' b h1 h2 h3 h4=>?_,fun id o ho=>?_⟩,stw,fun b h=>?_,fun id b h1 h2=>?_,fun b j h=>⟨h.lt,fun hh=>h.seen (.inl hh),fun id o ho hb=>?_⟩⟩
 .obtain⟨e,g1,g2,g3⟩:=own id b h1 h2;exact hs.sat.bnd id b g1 g2
 .obtain⟨e,g1,g2,g3⟩:=own id b h1 h2;exact hh.elim (hs.sat.apart id b j g1 g2) g3
 .obtain⟨e,g1,g2,g3⟩:=own id b h1 h3;obtain⟨e',g1',g2',g3'⟩:=own id' b h2 h4;exact hs.sat.inj id id' b g1 g1' g2 g2'
 .by_cases e:i=id
  .subst e;rw [Ge,if_pos rfl] at ho; cases ho;exact⟨fun x hx=>(Pe hx).elim,.inl ⟨by simp [upP],rfl⟩⟩
  .rw [h0 id e] at ho;have:=(hs.sat.obj id o ho).stepW stw (fun b hb=>rfl);have eb:(⟨(upP U i none).at_,fun b j=>U.hid b j\/(U i=some b)⟩:Gx) id=U id:=by simp [upP,Ne.symm e]
   rw [eb]; exact this
 .rcases h with h | h
  .exact⟨(hX b h).1,fun j hn=>.inl ((hX b h).2 j hn)⟩
  .exact⟨hs.sat.bnd i b h5 h,fun j _=>.inr h⟩
 .obtain⟨e,g1,g2,g3⟩:=own id b h1 h2;exact⟨g1,g2,fun h=>h.elim (h7 id b g1 g2) g3⟩
 .by_cases e:i=id
  .subst e; exact(h.seen (.inr hb)).elim
  .exact h.kept id o (by rw [h0 id e]; exact ho) (by simpa only [upP,if_neg (Ne.symm e)] using hb)
theorem J1b {k':Y} {x xo:Operand} {i ver m:Nat} {xs:AD} {ts:Array TypeId} (hE:E.Ok P) (ho:o.op=.call { callee:=.value x,args:=#[xo],argTypes:=ts }) (hx:ev l x=.sc (.func (.yield E.lp) #[] #[]))
  (hv:ev l xo=.vec i ver kk m) (hi:lk L i=some (.vec t kk ver xs)) (hy:E.nx k [.list kk xs] k'/\E.gv=some (t,kk)) (hk:JIL E P N ops rest Q ((d,BL true)::l) ((i,.vec t kk (ver+1) [])::L) k') (hg:o.guard=none) (hd:o.dst=some d) (hn:Nat.blt d N.n=true):JIL E P N ops (o::rest) Q l L k:=by
 intro n a w U hs;obtain⟨X,T,hJ,hX,hT,a5,b5⟩:=hs.gh;have h8:d < a.tmps.size:=P0 (by simpa [Nat.blt_eq] using hn) hs.size;have a6:=hs.frame.ev x;rw [hx] at a6;have b6:=a6.inv_sc;obtain⟨U',g1,g2,g3,g4,g5⟩:=hs.give hi hX hT a5 hE;have a0:=hs.frame.ev xo;rw [hv] at a0;have b1:(a.eval xo).oneCell'=true:=by
  cases a0 with
  | data h=>cases h
  | vec hp h=>exact h
 obtain⟨hm,a1,a2⟩:=cX hs.sat hi a0;have h9:(lk L i).isSome=true:=by rw [hi]; rfl
 have nS:∀ b j,Hs w U L b j->U i≠some b:=fun b j h hb=>h.kept i _ hi hb;have a7:∀ b j,Hs w U L b j->E.S b j\/(T b j\/(E.fr b/\¬ X b/\Hs w U L b j)):=fun b j a3=>(Classical.em (E.S b j)).elim .inl fun hn=>.inr (.inr ⟨(hs.vis b j a3).elim (fun h=>(hn h).elim) (fun h=>h),fun hx=>a3.seen ((hX b hx).2 j hn),a3⟩);have a8:∀ b j,(T b j\/(E.fr b/\¬ X b/\Hs w U L b j))->Hs w U L b j:=fun b j h=>h.elim (hT b j) (·.2.2);obtain⟨fn,tmps,assign,body,hr,hR⟩:=hE.round (n - 1) k k' [.list kk xs] X T (fun b j=>T b j\/(E.fr b/\¬ X b/\Hs w U L b j)) (fun b=>U i=some b) w #[a.eval xo] hy.1 hJ (fun b j h=>.inl h) (fun b j h hn=>h.elim (fun h=>(hn h).elim) fun h=>⟨h.1,h.2.1,h.2.2.lt⟩) rfl (fun j u v hu hv=>by
  cases j with
  | succ j=>simp at hu
  | zero=>
   simp at hu hv;subst hu;subst hv;rcases a2 with ⟨h1,rfl,_⟩ | ⟨b,cap,vs,h1,h2,h3,h4,h5,h6,h7⟩
   .rw [h1]; exact .nil (Nat.zero_le _)
   .rw [h1];have b2:(flat xs).length=xs.length*kk:=J2 a1;have h8:∀ j,j < (flat xs).length->j < vs.size:=fun j hj=>by rw [h6]; exact P0 (by rw [b2] at hj; exact hj) (Nat.mul_le_mul_right _ h3)
    refine .list (fun j=>vs.getD j undef) h3 h4 a1 (fun j hj=>⟨.inr (.inr h2),?_⟩) (fun j u hu=>?_)
    .have:=h8 j hj;simp [World.cell?,h5,this]
    .have hj:=(Pa hu).1;have hv:=h8 j hj;refine(h7 j u _ hu (by simp [hv])).mono fun b j h=>⟨(a7 b j h).imp_right .inl,rfl⟩)
  (fun b hb=>⟨hs.own i b h9 hb,a5 i b h9 hb,hs.sat.bnd i b h9 hb,fun j h=>nS b j (a8 b j h) hb⟩) (by
   rw [hy.2];refine⟨xs,a.eval xo,U i,rfl,rfl,b1,?_,fun b=>Iff.rfl,a1,?_⟩
   .rcases a2 with ⟨h1,rfl,h2⟩ | ⟨b,cap,vs,h1,h2,h3,h4,h5,h6,h7⟩
    .exact .inl ⟨h1,rfl,h2⟩
    .exact .inr ⟨b,cap,h1,h2,h3,h4,by simp [World.shape?,h5,h6]⟩
   .rcases a2 with ⟨h1,h0,h2⟩ | ⟨b,cap,vs,h1,h2,h3,h4,h5,h6,h7⟩
    .exact .inl ⟨h2,h0⟩
    .exact .inr ⟨b,h2,vs,h5,by rw [h6]; exact Nat.mul_le_mul_right _ h3,fun j u v hu hv=>(h7 j u v hu hv).mono fun b j h=>⟨a7 b j h,rfl⟩⟩)
 refine wpListIn_plain hg fun K hK=>?_;refine⟨fun _ _=>trivial,?_⟩;have b3:(execOp a.eval o).run P w=.ok (.round E.lp fn tmps assign body) w:=by
  have h0:(execOp a.eval o).run P w=(Instr.yield E.lp #[a.eval xo]).run P w:=by
   simp [execOp,ho,resolve,b6,Deferred.ofValue,invoke];done
  rw [h0,hr]
 rw [show o.semAt (FR N.ro).round a.eval=execOp a.eval o from Oper.semAt_eq _ _ _ (by rw [ho]; intro c hc; cases hc),b3,Oper.uponIn_round];refine⟨fun e=>(by cases e),RoundIn.mono (show RoundIn (FR N.ro) _ _ _ _ _ _ _ _ _ from hR) fun e w' h=>?_⟩;obtain⟨rfl,X',b7,ht,a4,b4,b8⟩:=h;obtain⟨h1,h2,h3⟩:=StI.round (T:=E.S) g1 g3 (fun id b h1 h2=>(g4 id b h1 h2).2.2) ht (fun b j h _=>b8 b j h) a4 b4;have a9:∀ d∈a.defers,∀ D,d={ target:=.collected D,args:=#[] }->¬ (X D\/U i=some D):=fun d hd D e h=>by
  rcases h with h | h
  .exact b5 d hd D e h
  .obtain⟨D',e2,_,_,h3⟩:=hs.defers.each d hd;have:D'=D:=by rw [e] at e2; injection e2 with e3; injection e3 with e4; exact e4.symm
   subst this;exact h3 i h9 h
 have b0:gY N.ro E.W0.heap.size w U' ((i,.vec t kk (ver+1) [])::L) a.defers:=⟨hs.defers.top,hs.defers.nodup,fun d hd=>by
  obtain⟨D,e,q1,q2,q3⟩:=hs.defers.each d hd;exact⟨D,e,q1,q2,fun id h4 h5=>q3 id (g4 id D h4 h5).1 (g4 id D h4 h5).2.1⟩⟩
 rw [hd];refine hK _ _ (hk n _ w' _ ⟨h1,((hs.frame.stepW g2).stepW h2).put h8 .sc,by rw [Act.put_size]; exact hs.size,by rw [Act.put_defers']; exact b0.turn ht a9,Nat.le_trans hs.old ht.size,fun id b h4 h5=>hs.own id b (g4 id b h4 h5).1 (g4 id b h4 h5).2.1,⟨X',_,b7,h3,fun b j h=>(h2.AX b j (g2.AX b j (a8 b j h)).1).1,fun id b h4 h5 hx=>(g4 id b h4 h5).2.2 ((a4 b (g1.bnd id b h4 h5)).1 hx),by rw [Act.put_defers']; exact b0.notX a9 a4⟩,fun b j hn=>hs.vis b j (g5 b j ⟨Nat.lt_of_not_le fun h=>hn.seen (.inr ⟨h,hn.lt⟩),fun h=>hn.seen (.inl h),hn.kept⟩)⟩)
theorem J1c {k':Y} {x xo:Operand} {ts:Array TypeId} (hE:E.Ok P) (ho:o.op=.call { callee:=.value x,args:=#[xo],argTypes:=ts }) (hx:ev l x=.sc (.func (.yield E.lp) #[] #[]))
  (hv:ev l xo=.sc (.slice none 0 0)) (hy:E.nx k [.list kk []] k'/\E.gv=some (t,kk)) (hk:JIL E P N ops rest Q ((d,BL true)::l) L k') (hg:o.guard=none) (hd:o.dst=some d) (hn:Nat.blt d N.n=true):JIL E P N ops (o::rest) Q l L k:=by
 intro n a w U hs;obtain⟨X,T,hJ,hX,hT,h8,h9⟩:=hs.gh;have a4:d < a.tmps.size:=P0 (by simpa [Nat.blt_eq] using hn) hs.size;have a0:=hs.frame.ev x;rw [hx] at a0;have a5:=a0.inv_sc;have a1:=hs.frame.ev xo;rw [hv] at a1;have h6:=a1.inv_sc;obtain⟨fn,tmps,assign,body,hr,hR⟩:=hE.round (n - 1) k k' [.list kk []] X T (fun b i=>T b i\/(E.fr b/\¬ X b/\Hs w U L b i)) (fun _=>False) w #[a.eval xo] hy.1 hJ (fun b i h=>.inl h) (fun b i h hn=>h.elim (fun h=>(hn h).elim) fun h=>⟨h.1,h.2.1,h.2.2.lt⟩) rfl (fun j u v hu hv=>by
  cases j with
  | succ j=>simp at hu
  | zero=>
   simp at hu hv;subst hu;subst hv;rw [h6]; exact .nil (Nat.zero_le _)) (fun _ h=>h.elim) (by
   rw [hy.2];exact⟨[],a.eval xo,none,rfl,rfl,by rw [h6]; rfl,.inl ⟨h6,rfl,rfl⟩,fun b=>⟨fun h=>h.elim,fun h=>by cases h⟩,fun x hx=>(Pe hx).elim,.inl ⟨rfl,rfl⟩⟩)
 have eX:(fun b=>X b\/False)=X:=by funext b; simp
 rw [eX] at hR;refine wpListIn_plain hg fun K hK=>?_;refine⟨fun _ _=>trivial,?_⟩;have a2:(execOp a.eval o).run P w=.ok (.round E.lp fn tmps assign body) w:=by
  have h0:(execOp a.eval o).run P w=(Instr.yield E.lp #[a.eval xo]).run P w:=by
   simp [execOp,ho,resolve,a5,Deferred.ofValue,invoke];done
  rw [h0,hr]
 rw [show o.semAt (FR N.ro).round a.eval=execOp a.eval o from Oper.semAt_eq _ _ _ (by rw [ho]; intro c hc; cases hc),a2,Oper.uponIn_round];refine⟨fun e=>(by cases e),RoundIn.mono (show RoundIn (FR N.ro) _ _ _ _ _ _ _ _ _ from hR) fun e w' h=>?_⟩;obtain⟨rfl,X',a6,ht,h7,a3,a7⟩:=h;have a8:∀ b i,(T b i\/(E.fr b/\¬ X b/\Hs w U L b i))->Hs w U L b i:=fun b i h=>h.elim (hT b i) (·.2.2);obtain⟨h1,h2,h3⟩:=StI.round (T:=E.S) hs.sat hX h8 ht (fun b i h _=>a7 b i h) h7 a3;rw [hd];refine hK _ _ (hk n _ w' _ ⟨h1,(hs.frame.stepW h2).put a4 .sc,by rw [Act.put_size]; exact hs.size,by rw [Act.put_defers']; exact hs.defers.turn ht h9,Nat.le_trans hs.old ht.size,hs.own,⟨X',_,a6,h3,fun b i h=>(h2.AX b i (a8 b i h)).1,fun id b h4 h5 hx=>h8 id b h4 h5 ((h7 b (hs.sat.bnd id b h4 h5)).1 hx),by rw [Act.put_defers']; exact hs.defers.notX h9 h7⟩,fun b i hn=>hs.vis b i ⟨Nat.lt_of_not_le fun h=>hn.seen (.inr ⟨h,hn.lt⟩),fun h=>hn.seen (.inl h),hn.kept⟩⟩)
theorem StI.leaves {Y:Type} {E:dI Y} {F:Fence} {n:Nat} {P:Program} {fn:Func} {R:Ending->World->Prop} {N:Cfg} {U:Gx} {L:Loc} {l:Fr} {k:Y} {tmps:Array Value} (hE:E.Ok P) :
  ∀ {ds:List Deferred} {w:World},StI E N { tmps:=tmps,defers:=ds } w U l L k->(∀ w'',StI E N { tmps:=tmps,defers:=[] } w'' U l L k->LeavesIn F n P fn tmps R [] .returning w'')->LeavesInM F n P fn tmps R ds .returning w
 | [],w,hs,h=>h w hs
 | d::ds,w,hs,h=>by
  obtain⟨D,rfl,hB,hD,hL⟩:=hs.defers.each d (List.mem_cons_self ..);refine⟨by simp,.inl ⟨D,w.putObj D (.deferred none),rfl,run_takeDeferred hD,StI.leaves hE ?_ h⟩⟩;have hn:=List.nodup_cons.1 hs.defers.nodup;obtain⟨X,T,hJ,hX,hT,h2,h1⟩:=hs.gh;have ndX:=h1 _ (List.mem_cons_self ..) D rfl;have sw:=dP (U:=U) (L:=L) (o':=.deferred none) hD (by simp) (by simp) hL;refine⟨mQ hD (by simp) (by simp) hL hs.sat,⟨fun t=>(hs.frame.tmp t).stepW sw⟩,hs.size,⟨fun h=>(by have:=hs.defers.top h; cases this),hn.2,fun d' h0=>?_⟩,by rw [World.putObj_size]; exact hs.old,hs.own,
   ⟨X,T,hE.abide k X T w _ hJ ⟨rfl,rfl,⟨rfl,Pf⟩,by rw [World.putObj_size]; exact Pf,fun b _ hb=>World.putObj_heap_other fun e=>hb ⟨hE.frW b (by rw [e]; exact hB),by rw [e]; exact ndX⟩⟩ (fun b i _=>kR hD (by simp) (by simp) b i),fun b hb=>⟨by rw [World.putObj_size]; exact(hX b hb).1,(hX b hb).2⟩,fun b i h=>(sw.AX b i (hT b i h)).1,h2,fun d' h0=>h1 d' (List.mem_cons_of_mem _ h0)⟩,fun b i hn=>hs.vis b i ⟨by have:=hn.lt; rwa [World.putObj_size] at this,hn.seen,hn.kept⟩⟩
  obtain⟨D',rfl,h3,h4,h5⟩:=hs.defers.each d' (List.mem_cons_of_mem _ h0);exact⟨D',rfl,h3,(World.putObj_heap_other (fun e=>hn.1 (by rw [<- e]; exact h0))).trans h4,h5⟩
theorem H9d {g:FuncId} {fn:Func} {c:Code} {AZ:AD} {Y:Type} {gv:Option (Nat×Nat)} {k0:Y} {nx:Y->AD->Y->Prop} {fi:Y->Prop} (hf:P.funcs[g]? = some fn) (hb:fn.body=some c) (h2:fn.results=#[])
  (h:∀ E:dI Y,E.Ok P->E.nx=nx/\E.gv=gv->JI E P ⟨fn.ntmps,[],none⟩ c ⟨fun _ _ k=>fi k,fun _ _ k=>fi k,fun _ _ _ _=>False⟩ (kM 0 (.sc (.func (.yield E.lp) #[] #[])::AZ)) [] k0):G83 P g AZ gv k0 nx fi:=by
 intro n E lb X0 hE h4 hl h3 h0 hJ;have h5:(#[Value.func (.yield E.lp) #[] #[]]++lb).size=(AV.sc (.func (.yield E.lp) #[] #[])::AZ).length:=by simp [hl]; omega
 refine callsIn_of_wp_marks (F:=Fence.wide) hf hb trivial (Code.wpIn_mono (fun e a' w' q=>?_) (h E hE h4 n _ E.W0 ⟨fun _=>none,fun b i=>¬ E.S b i/\b < E.W0.heap.size⟩ ⟨⟨fun b i h=>h.2,fun id b h=>by simp [lk] at h,fun id b j h=>by simp [lk] at h,fun id id' b h=>by simp [lk] at h,fun id o h=>by simp [lk] at h⟩,⟨fun t=>?_⟩,?_,.nil,Pf,fun id b h=>by simp [lk] at h,⟨X0,_,hJ,fun b hb=>⟨h0 b hb,fun i hn=>⟨hn,h0 b hb⟩⟩,fun _ _ h=>h.elim,fun id b h=>by simp [lk] at h,fun d hd=>(Pe hd).elim⟩,fun b i hn=>Classical.byContradiction fun h=>hn.seen ⟨fun h'=>h (.inl h'),hn.lt⟩⟩))
 .have fin:(∃ U' l' L' k',StI E ⟨fn.ntmps,[],none⟩ a' w' U' l' L' k'/\fi k')->LeavesInM Fence.wide n P fn a'.tmps (fun e w'=>(∃ v',e=.returned v')/\∃ k X T,fi k/\E.J k X T w') a'.defers .returning w':=by
   rintro⟨U',l',L',k',hs,h6⟩;refine StI.leaves hE (tmps:=a'.tmps) (ds:=a'.defers) hs fun w'' h7=>?_;obtain⟨X,T,hX,_⟩:=h7.gh;exact⟨_,results_none h2 _ _ _,⟨_,rfl⟩,k',X,T,h6,hX⟩
  cases e with
  | normal=>exact fin q
  | ret=>exact fin q
  | exit i=>obtain⟨_,_,_,_,_,hq⟩:=q; exact hq.elim
  | goto l=>exact q.elim
  | panic c=>exact q.elim
  | outgrown=>exact q.elim
 .rw [sF];simp only [Nat.zero_le,if_true,Nat.sub_zero];cases hu:(AV.sc (.func (.yield E.lp) #[] #[])::AZ)[t]? with
  | none=>exact .AL
  | some u=>
   have ht:t < (#[Value.func (.yield E.lp) #[] #[]]++lb).size:=by rw [h5]; exact(Pa hu).1
   have e:((#[Value.func (.yield E.lp) #[] #[]]++lb)++Array.replicate (fn.ntmps - (#[Value.func (.yield E.lp) #[] #[]]++lb).size) undef).getD t undef=(#[Value.func (.yield E.lp) #[] #[]]++lb)[t]:=by
    rw [Array.getD_eq_getD_getElem?,Array.getElem?_append_left ht,Array.getElem?_eq_getElem ht]; rfl
   rw [e];cases t with
   | zero=>simp at hu; subst hu; simp; exact .sc
   | succ t=>
    have h1:AZ[t]? = some u:=by simpa using hu
    have h8:t < lb.size:=by rw [hl]; exact(Pa h1).1
    have hv:=h3 t u lb[t] h1 (by simp [h8]);have ev:(#[Value.func (.yield E.lp) #[] #[]]++lb)[t+1]=lb[t]:=by simp
    rw [ev];exact .data (hv.mono fun b i hs=>⟨⟨hE.sees b i hs,fun h=>h.1 hs,fun id o h=>by simp [lk] at h⟩,rfl⟩)
 .simp; omega
theorem Jd7 {g:FuncId} {fn:Func} {c:Code} {AZ:AD} {ys:List AD} (hf:P.funcs[g]? = some fn) (hb:fn.body=some c) (h0:fn.results=#[])
  (h:∀ E:dI Nat,E.Ok P->E.nx=ZZ ys/\E.gv=some (t,kk)->JI E P ⟨fn.ntmps,[],none⟩ c ⟨fun _ _ k=>k=ys.length,fun _ _ k=>k=ys.length,fun _ _ _ _=>False⟩ (kM 0 (.sc (.func (.yield E.lp) #[] #[])::AZ)) [] 0):Ge8 P g AZ t kk ys:=H9d hf hb h0 h
end ops

section code
variable {Y:Type} {E:dI Y} {P:Program} {N:Cfg} {Q:iH Y} {l:Fr} {L:Loc} {k:Y}
theorem H9c {body:Code} {V:Type} (I:Nat->V->Prop) (F:Nat->V->Fr) (M:Nat->V->Loc) (kf:Nat->V->Y) (C:Nat->Nat) (i0:Nat) (s0:V) (h0:I i0 s0) (hf:Fits N.base l L (F i0 s0) (M i0 s0)) (hk:k=kf i0 s0)
  (hr:∀ i s,I i s->∀ K:Fr->Loc->Y->Prop,(∀ l L i' s' k',I i' s'->C i' < C i->Fits N.base l L (F i' s') (M i' s')->k'=kf i' s'->K l L k')->JI E P N body (Q.seq K) (F i s) (M i s) (kf i s)):JI E P N (.loop body) Q l L k:=
 Q3d (fun x:Nat×V=>I x.1 x.2) (fun x=>F x.1 x.2) (fun x=>M x.1 x.2) (fun x=>kf x.1 x.2) (fun x=>C x.1) (i0,s0) h0 hf hk
  (fun x hi K hK=>hr x.1 x.2 hi K (fun l L i' s' k' h1 h2 h3 h4=>h4 ▸ hK l L (i',s') h1 h2 h3))
theorem Jcc {c:Operand} {x y:Code} (hc:ev l c=.sc (.bool false)) (hf:JI E P N y Q l L k):JI E P N (.cond c x y) Q l L k:=zC hc (fun e=>by cases e) (fun _=>hf)
theorem Q3f {ops:Array Oper} {o:Oper} {rest:AM} {T Et k' d kk:Nat} {x:Operand} {xs:AD} (hE:E.Ok P) (hT:sliceB P T Et k'=true) (hk:xs.length<=maxLen->JIL E P N ops rest Q ((d,I64 (xs.length:Int))::l) L k) (ho:o.op=.call { callee:=.builtin .len,args:=#[x],argTypes:=#[T] }) (hx:Jv (ev l x)=some (kk,xs))
  (hg:o.guard=none) (hd:o.dst=some d) (hn:Nat.blt d N.n=true):JIL E P N ops (o::rest) Q l L k:=by
 intro n a w U hs;obtain⟨ao,cap,h1,h2,h3⟩:=((hs.frame.ev x).Jv hx).len;exact Rc hE (Je6 hT ho hx) (hk (Nat.le_trans h2 h3)) hg hd hn (by unfold bL; rw [ho]) n a w U hs
variable {Z:Type}
theorem G80 {ops:Array Oper} {o:Oper} {rest:AM} {x:Operand} {T Et kk k' d:Nat} {f:Z->AV} {xs:List Z} (hE:E.Ok P) (hT:sliceB P T Et k'=true) (ho:o.op=.call { callee:=.builtin .len,args:=#[x],argTypes:=#[T] }) (hx:Jv (ev l x)=some (kk,xs.map f))
  (hk:xs.length<=maxLen->JIL E P N ops rest Q ((d,I64 (xs.length:Int))::l) L k) (hg:o.guard=none) (hd:o.dst=some d) (hn:Nat.blt d N.n=true):JIL E P N ops (o::rest) Q l L k:=
 Q3f hE hT (fun hm=>by simp only [Pr] at hm ⊢; exact hk hm) ho hx hg hd hn
variable {ys:List Z}
theorem Hac {E:dI Nat} {k:Nat} [DecidableEq Z] {f:Z->AD} {x:Z} {gv:Option (Nat×Nat)} (h0:E.nx=ZZ (ys.map f)/\E.gv=gv) (h:decide (ys[k]? = some x)=true):E.nx k (f x) (k+1)/\E.gv=gv:=by
 rw [h0.1]; exact⟨⟨by rw [Pj,P6 h]; rfl,rfl⟩,h0.2⟩
theorem J2a {k:Nat} {f:Z->AD} (h:decide (k=ys.length)=true):k=(ys.map f).length:=by
 rw [Pr]; exact P6 h
theorem Q25 {U:Type} {f:Z->U} {k:Nat} {u:U} (h:(ys.map f)[k]? = some u):∃ hk:k < ys.length,u=f ys[k]:=by
 rw [Pj] at h;cases hy:ys[k]? with
 | none=>rw [hy] at h; cases h
 | some y=>
  rw [hy] at h;obtain⟨hk,e⟩:=Pa hy;exact⟨hk,by rw [e]; exact(Pc h).symm⟩
end code
section frz
variable {Y:Type} {E:dI Y} {P:Program} {N:Cfg} {Q:iH Y} {l l':Fr} {L L':Loc} {k:Y}
theorem StI.freeze {a:Act} {w:World} {U:Gx} (hs:StI E N a w U l L k) (i:Nat) {t:TypeId} {cs:AD} (hi:lk L i=some (.box t cs)) (hd:Qr (fun _=>false) cs=true)
  (h2:lk L' i=none) (hl:aX (fun j=>(lk L' j).isSome) L L') (hb:allIn L' N.base=true) (hf:G84 i cs (fun j=>(lk L' j).isSome) l l'):StI E N a w U l' L' k:=by
 have h0:Fits N.base l L [] L':=⟨trivial,hl,hb⟩;have h1:=hs.fits h0;refine⟨h1.sat,⟨fun t'=>?_⟩,h1.size,h1.defers,h1.old,h1.own,h1.gh,h1.vis⟩;have hv:=hs.frame.tmp t';generalize hu:look l t'=u at hv;have hz:=hf.get t';rw [hu] at hz;generalize look l' t'=u' at hz;cases hz with
 | conv hc=>exact hv.conv h0.drop hc
 | ptr=>exact hv.freeze hs.sat hi hd h0.drop h2
theorem StI.vfreeze {a:Act} {w:World} {U:Gx} (hs:StI E N a w U l L k) (i:Nat) {t ver kk:Nat} {xs:AD} (hi:lk L i=some (.vec t kk ver xs))
  (h2:lk L' i=none) (hl:aX (fun j=>(lk L' j).isSome) L L') (hb:allIn L' N.base=true) (hf:zU i ver kk xs (fun j=>(lk L' j).isSome) l l'):StI E N a w U l' L' k:=by
 have h0:Fits N.base l L [] L':=⟨trivial,hl,hb⟩;have h1:=hs.fits h0;refine⟨h1.sat,⟨fun t'=>?_⟩,h1.size,h1.defers,h1.old,h1.own,h1.gh,h1.vis⟩;have hv:=hs.frame.tmp t';generalize hu:look l t'=u at hv;have hz:=hf.get t';rw [hu] at hz;generalize look l' t'=u' at hz;cases hz with
 | conv hc=>exact hv.conv h0.drop hc
 | vec=>exact hv.vfreeze hs.sat hi h0.drop h2
theorem Ge7 {c:Code} (l':Fr) (L':Loc) (i:Nat) {t:TypeId} {cs:AD} (hi:lk L i=some (.box t cs)) (hd:Qr (fun _=>false) cs=true)
  (h0:lk L' i=none) (hl:aX (fun j=>(lk L' j).isSome) L L') (hb:allIn L' N.base=true) (hf:G84 i cs (fun j=>(lk L' j).isSome) l l') (hk:JI E P N c Q l' L' k):JI E P N c Q l L k:=
 fun n a w U hs=>hk n a w U (hs.freeze i hi hd h0 hl hb hf)
theorem J1a {c:Code} (l':Fr) (L':Loc) (i:Nat) {t ver kk:Nat} {xs:AD} (hi:lk L i=some (.vec t kk ver xs)) (h0:lk L' i=none) (hl:aX (fun j=>(lk L' j).isSome) L L') (hb:allIn L' N.base=true)
  (hf:zU i ver kk xs (fun j=>(lk L' j).isSome) l l') (hk:JI E P N c Q l' L' k):JI E P N c Q l L k:=fun n a w U hs=>hk n a w U (hs.vfreeze i hi h0 hl hb hf)
end frz
end Go.Proofs.YtbgfgnddogfpcaaGreat
