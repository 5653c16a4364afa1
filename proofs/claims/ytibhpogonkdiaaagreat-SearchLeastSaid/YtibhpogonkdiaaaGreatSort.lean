/-
 A statement whose order is open,in which more than one opera Slices of the call's own,sorted in place by the library.
-/
import Derived.Test.YtibhpogonkdiaaaGreatMapM
import Derived.Shelf.SlSortCmp.WholeK
namespace Go.Proofs.YtibhpogonkdiaaaGreat
open Go.RowKit

def jM (L L':Loc):Prop:=∀ id,lk L id=lk L' id
variable {β:H2} {L L':Loc}
theorem Sat.BI {w:World} (h:Sat w β L) (e:jM L L'):Sat w β L':=by
 have hS:∀ b i,J6 w β L b i->J6 w β L' b i:=fun b i hs=>⟨hs.lt,hs.seen,fun id o ho=>hs.kept id o (by rw [e]; exact ho)⟩;exact⟨h.hid,fun id b h1=>h.bnd id b (by rw [e]; exact h1),fun id b j h1=>h.apart id b j (by rw [e]; exact h1),fun id id' b h1 h2=>h.inj id id' b (by rw [e]; exact h1) (by rw [e]; exact h2),
  fun id o ho=>(h.obj id o (by rw [e]; exact ho)).up hS (fun id o ho=>⟨by rw [<- e]; exact ho,rfl⟩)⟩
variable {L1:Loc}
theorem Step.BI {w w':World} {β':H2} (h:Step w β L w' β' L1) (e:jM L1 L'):Step w β L w' β' L' where
 os:=h.os
 tape:=h.tape
 output:=h.output
 size:=h.size
 hid:=h.hid
 AX:=fun b i hs=>by
  obtain⟨h1,h2⟩:=h.AX b i hs;exact⟨⟨h1.lt,h1.seen,fun id o ho=>h1.kept id o (by rw [e]; exact ho)⟩,h2⟩
 far:=fun b hb hf=>by
  obtain⟨h1,h2⟩:=h.far b hb hf;exact⟨h1,fun id hid=>h2 id (by rw [e]; exact hid)⟩
 box:=fun id t cs hi=>by obtain⟨h1,cs',h2⟩:=h.box id t cs hi; exact⟨h1,cs',by rw [<- e]; exact h2⟩
 map:=fun id t cs hi=>by obtain⟨h1,cs',h2⟩:=h.map id t cs hi; exact⟨h1,cs',by rw [<- e]; exact h2⟩
 iter:=fun id m n cs hi=>by obtain⟨h1,n',cs',h2⟩:=h.iter id m n cs hi; exact⟨h1,n',cs',by rw [<- e]; exact h2⟩
 vec:=fun id t k ver xs hi=>by obtain⟨v,xs',h1,h2,h3⟩:=h.vec id t k ver xs hi; exact⟨v,xs',by rw [<- e]; exact h1,h2,h3⟩
 spare:=fun id t k ver xs hi=>by obtain⟨v,xs',h1,h2,h3⟩:=h.spare id t k ver xs hi; exact⟨v,xs',by rw [<- e]; exact h1,h2,h3⟩
variable {u:AV}
theorem V.BI {w:World} {v:Value} (h:V w β L u v) (e:jM L L'):V w β L' u v:=
 h.up (fun b i hs=>⟨hs.lt,hs.seen,fun id o ho=>hs.kept id o (by rw [e]; exact ho)⟩) (fun id o ho=>⟨by rw [<- e]; exact ho,rfl⟩)
variable {ops:Array Oper} {N:Cfg} {l:Fr} {o:Oper} {P:Program}
theorem cI.BI (h:cI P N ops o l L u L1) (e:jM L1 L'):cI P N ops o l L u L':=
 fun a w β K Q h1 h2 h3 h4=>h a w β K Q h1 h2 h3 (fun v w' β' k1 k2 k3=>h4 v w' β' (k1.BI e) (k2.BI e) (k3.BI e))
def GQ (ks:AK):Loc->Bool
 | []=>true
 | (i,_)::r=>ks.contains i&&GQ ks r
def Q4a (L L':Loc):AK->Prop
 | []=>True
 | k::r=>lk L k=lk L' k∧Q4a L L' r
theorem GP {ks:AK} {id:Nat} (h:id ∉ ks):∀ {L:Loc},GQ ks L=true->lk L id=none
 | [],_=>rfl
 | (i,o)::r,hk=>by
  simp only [GQ,Sq] at hk;rw [Gm,if_neg (fun e=>h (by subst e; simpa using hk.1))];exact GP h hk.2
theorem jM.of (ks:AK) (h1:GQ ks L=true) (h2:GQ ks L'=true) (h3:Q4a L L' ks):jM L L':=fun id=>by
 by_cases h:id∈ks
 ·clear h1 h2
  induction ks with
  | nil=>cases h
  | cons k r ih=>
   rcases Sw.1 h with e | h
   ·rw [e]; exact h3.1
   ·exact ih h3.2 h
 ·rw [GP h h1,GP h h2]

/-! ### The stages: which of the turning operations are done -/
def xG:Nat->List (List Bool)
 | 0=>[[]]
 | n+1=>(xG n).flatMap fun s=>[false::s,true::s]
theorem JG:∀ (s:List Bool),s∈xG s.length
 | []=>by simp [xG]
 | b::s=>by
  simp only [Si,xG,List.mem_flatMap];exact⟨s,JG s,by cases b <;> simp⟩
def J3e (tbl:List AK) (ws:AK) (i:Nat) (s:List Bool):Bool:=
 (ws.zip s).all fun p=>(!p.2||(ws.zip s).all fun q=>!(tbl.getD p.1 []).contains q.1||q.2)&&(!(tbl.getD i []).contains p.1||p.2)&&(!(p.1==i)||!p.2)&&(!(tbl.getD p.1 []).contains i||!p.2)
def Jf6 (tbl:List AK) (ws:AK) (i:Nat):List (List Bool):=(xG ws.length).filter (J3e tbl ws i)
def flagsOf (Dn:Nat->Bool) (ws:AK):List Bool:=ws.map Dn
def G16 (ws:AK) (s:List Bool) (i:Nat):List Bool:=(ws.zip s).map fun p=>p.2||p.1==i
def yT (tb:List (List Bool×Loc)) (s:List Bool):Option Loc:=(tb.find? fun p=>p.1==s).map (·.2)
theorem tT {α:Type} (f:Nat->α):∀ ws:AK,ws.zip (ws.map f)=ws.map fun w=>(w,f w)
 | []=>rfl
 | w::r=>by simp [tT f r]
def wW (ops:AN) (ws:AK) (sts:List (List (List Bool))):Bool:=
 let tbl:=iY ops
 yM ops&&H08 ops tbl&&ws.all (fun w=>decide (w < ops.length))&&(List.range ops.length).all fun i=>sts.getD i []==Jf6 tbl ws i
def lN (p:List Bool->Prop):List (List Bool)->Prop
 | []=>True
 | s::r=>p s∧lN p r
theorem JH {p:List Bool->Prop}:∀ {ss:List (List Bool)},lN p ss->∀ s∈ss,p s
 | x::r,h,s,hs=>by
  rcases Sw.1 hs with rfl | hs
  ·exact h.1
  ·exact JH h.2 s hs

def lS (P:Program) (N:Cfg) (ops:Array Oper) (ws:AK) (tb:List (List Bool×Loc)) (i:Nat) (o:Oper) (l:Fr) (u:AV) (s:List Bool):Prop:=
 ∃ L L1 L',yT tb s=some L∧yT tb (G16 ws s i)=some L'∧cI P N ops o l L u L1∧jM L1 L'
variable {tb:List (List Bool×Loc)} {ws:AK}
theorem lS.ro {i:Nat} {s:List Bool} (h1:yT tb s=some L) (h2:yT tb (G16 ws s i)=some L) (h:cI P N ops o l L u L):lS P N ops ws tb i o l u s:=⟨L,L,L,h1,h2,h,fun _=>rfl⟩
theorem lS.w {i:Nat} {s:List Bool} (ks:AK) (h1:yT tb s=some L) (h2:yT tb (G16 ws s i)=some L') (h:cI P N ops o l L u L1) (k1:GQ ks L1=true) (k2:GQ ks L'=true) (k3:Q4a L1 L' ks):lS P N ops ws tb i o l u s:=⟨L,L1,L',h1,h2,h,jM.of ks k1 k2 k3⟩

def dT (P:Program) (N:Cfg) (ops:Array Oper) (ws:AK) (sts:List (List (List Bool))) (tb:List (List Bool×Loc)):Nat->AN->Fr->(Fr->Prop)->Prop
 | _,[],l,K=>K l
 | i,o::r,l,K=>∃ u,lN (lS P N ops ws tb i o (dI (o.looksAt ops) l) u) (sts.getD i [])∧(match o.dst with
   | some d=>Nat.blt d N.n=true∧dT P N ops ws sts tb (i+1) r ((d,u)::l) K
   | none=>dT P N ops ws sts tb (i+1) r l K)
section pre
variable {P:Program} {N:Cfg} {ops:Array Oper} {ws:AK} {sts:List (List (List Bool))} {tb:List (List Bool×Loc)} {i:Nat} {o:Oper} {r:AN} {l:Fr} {K:Fr->Prop} {u:AV}
theorem J2c (h:K l):dT P N ops ws sts tb i [] l K:=h
theorem gQ {d:Nat} (hd:o.dst=some d) (h:lN (lS P N ops ws tb i o (dI (o.looksAt ops) l) u) (sts.getD i [])) (hk:dT P N ops ws sts tb (i+1) r ((d,u)::l) K) (hn:Nat.blt d N.n=true:=by rfl) :
  dT P N ops ws sts tb i (o::r) l K:=⟨u,h,by rw [hd]; exact⟨hn,hk⟩⟩
theorem Je0 (hd:o.dst=none) (h:lN (lS P N ops ws tb i o (dI (o.looksAt ops) l) u) (sts.getD i [])) (hk:dT P N ops ws sts tb (i+1) r l K) :
  dT P N ops ws sts tb i (o::r) l K:=⟨u,h,by rw [hd]; exact hk⟩
end pre

structure J4d (P:Program) (N:Cfg) (ops:AN) (ws:AK) (sts:List (List (List Bool))) (tb:List (List Bool×Loc)) (l0:Fr) (val:Nat->AV):Prop where
 step:∀ i o,ops[i]? = some o->lN (lS P N ops.toArray ws tb i o (dI (o.looksAt ops.toArray) (Zk ops l0 val (fun _=>true) i)) (val i)) (sts.getD i [])
 lt:∀ (i:Nat) (o:Oper) (d:Tmp),ops[i]? = some o->o.dst=some d->d < N.n

theorem GL {P:Program} {N:Cfg} (ops:AN) (ws:AK) (sts:List (List (List Bool))) (tb:List (List Bool×Loc)) (l0:Fr) (K:Fr->Prop):∀ (r:AN) (i:Nat) (val:Nat->AV),(∀ j,r[j]? = ops[i+j]?)->i+r.length=ops.length ->
  (∀ j o,j < i->ops[j]? = some o->lN (lS P N ops.toArray ws tb j o (dI (o.looksAt ops.toArray) (Zk ops l0 val (fun _=>true) j)) (val j)) (sts.getD j [])∧∀ d,o.dst=some d->d < N.n) ->
  dT P N ops.toArray ws sts tb i r (Zk ops l0 val (fun _=>true) i) K->∃ val',J4d P N ops ws sts tb l0 val'∧K (Zk ops l0 val' (fun _=>true) ops.length)
 | [],i,val,hr,hl,hd,h=>by
  simp at hl;subst hl;exact⟨val,⟨fun j o ho=>(hd j o (by have:=Sa ho; exact this.1) ho).1,fun j o d ho=>(hd j o (by have:=Sa ho; exact this.1) ho).2 d⟩,h⟩
 | o::r,i,val,hr,hl,hd,h=>by
  obtain⟨u,h1,h2⟩:=h;have ho:ops[i]? = some o:=by have:=hr 0; simpa using this.symm
  -- the value of operation i is u
  let val':Nat->AV:=fun j=>if j=i then u else val j
  have hv:∀ j,j<=i->Zk ops l0 val' (fun _=>true) j=Zk ops l0 val (fun _=>true) j:=by
   intro j
   induction j with
   | zero=>intro _; rfl
   | succ j ih=>
    intro hj;have h5:j≠i:=by omega
    simp only [Zk,ih (by omega),val',if_neg h5]
  have h4:val' i=u:=by simp [val']
  refine GL ops ws sts tb l0 K r (i+1) val' (fun j=>by have:=hr (j+1); simpa [Nat.add_assoc,Nat.add_comm 1 j] using this) (by simp at hl; omega) (fun j o' hj h3=>?_) ?_
  ·by_cases e:j=i
   ·subst e;rw [ho] at h3; cases h3;refine⟨?_,fun d h0=>?_⟩
    ·rw [hv j (Sf),h4]; exact h1
    ·rw [h0] at h2; simpa [Nat.blt_eq] using h2.1
   ·obtain⟨a1,a2⟩:=hd j o' (by omega) h3;refine⟨?_,a2⟩;rw [hv j (by omega),show val' j=val j by simp [val',e]]; exact a1
  ·simp only [Zk,ho,Option.bind_some,if_true];cases h0:o.dst with
   | none=>rw [h0] at h2; simpa [hv i (Sf)] using h2
   | some d=>rw [h0] at h2; simpa [hv i (Sf),h4] using h2.2

structure J52 (P:Program) (N:Cfg) (ops:AN) (ws:AK) (tb:List (List Bool×Loc)) (l0:Fr) (val:Nat->AV) (w0:World) (β0:H2) (L0:Loc) (listed:Array Bool) (a:Act) (w:World):Prop where
 size:listed.size=ops.length
 closed:Closed ops.toArray (fun i=>listed.getD i false)
 st:∃ β L,yT tb (flagsOf (fun i=>listed.getD i false) ws)=some L∧Rr N w0 β0 L0 a w β (Zk ops l0 val (fun i=>listed.getD i false) ops.length) L

theorem G70 {ops:AN} {sts:List (List (List Bool))} {l0:Fr} {val:Nat->AV} {ro:Option Nat} {n:Nat} (b8:∀ (i:Nat) o,ops[i]? = some o->bR o=true) (chk:wW ops ws sts=true) (pc:J4d P N ops ws sts tb l0 val) {Q:Post} {w0:World} {β0:H2} {L0:Loc}
  (hQ:∀ L,yT tb (List.replicate ws.length true)=some L->Q.norm (Zk ops l0 val (fun _=>true) ops.length) L) :
  ∀ (fuel:Nat) (listed:Array Bool) (a:Act) (w:World),unl ops.length listed<=fuel->J52 P N ops ws tb l0 val w0 β0 L0 listed a w->wpAnyIn (FR ro) n P .any ops.toArray (Q.out N w0 β0 L0) fuel listed a w:=by
 simp only [wW,Sq] at chk;obtain⟨⟨⟨a3,a6⟩,a7⟩,b4⟩:=chk;have b0:∀ x∈ws,x < ops.length:=fun x hx=>by
  simp only [List.all_eq_true,Sr] at a7; exact a7 x hx
 have anc:∀ {i z:Nat},((iY ops).getD i []).contains z=true->Anc ops.toArray i z:=fun h=>Ge7 (by simpa using h);have down:∀ i o e,ops[i]? = some o->e∈o.after->Region.binds .any e=true->e.on < i:=by
  intro i o e ho he hb;have hi:i < ops.length:=(Sa ho).1;simp only [yM,List.all_eq_true,List.mem_range] at a3;have:=a3 i hi;rw [ho] at this;simp only [List.all_eq_true,Sr] at this;exact this e.on (Su.2 ⟨e,Sx.2 ⟨Array.mem_toList_iff.2 he,hb⟩,rfl⟩)
 -- when nothing is ready, all is done
 have finish:∀ (listed:Array Bool) (a:Act) (w:World),J52 P N ops ws tb l0 val w0 β0 L0 listed a w->(∀ i,i < ops.length->listed.getD i false=true)->Q.out N w0 β0 L0 .normal a w:=by
  intro listed a w hs h7;obtain⟨β,L,hL,h4⟩:=hs.st;have e1:flagsOf (fun i=>listed.getD i false) ws=List.replicate ws.length true:=by
   refine List.eq_replicate_iff.2 ⟨by simp [flagsOf],fun b hb=>?_⟩;obtain⟨x,hx,rfl⟩:=Su.1 hb;exact h7 x (b0 x hx)
  rw [e1] at hL;rw [JM ops l0 val _ ops.length (fun j hj=>h7 j hj)] at h4;exact⟨β,_,L,h4,hQ L hL⟩
 have stuck:∀ (listed:Array Bool),listed.size=ops.length->Region.ready .any ops.toArray listed=[]->∀ i,i < ops.length->listed.getD i false=true:=by
  intro listed c6 hr i
  induction i using Nat.strongRecOn with
  | _ i ih=>
   intro hi;cases hd:listed.getD i false with
   | true=>rfl
   | false=>
    exfalso;have:i∈Region.ready .any ops.toArray listed:=mem_ready.2 ⟨by rw [bM (by omega)]; exact hd,ops[i],by simp [hi],fun e he hb=>by
     have:=down i ops[i] e (by simp [hi]) he hb;exact ih e.on this (by omega)⟩
    rw [hr] at this; cases this
 intro fuel
 induction fuel with
 | zero=>
  intro listed a w hu hs;have h7:∀ i,i < ops.length->listed.getD i false=true:=by
   intro i hi;cases hd:listed.getD i false with
   | true=>rfl
   | false=>
    have:i∈(List.range ops.length).filter fun i=>!listed.getD i false:=Sx.2 ⟨List.mem_range.2 hi,by rw [hd]; rfl⟩;have h0:(List.range ops.length).filter (fun i=>!listed.getD i false)=[]:=S1 (by unfold unl at hu; omega);rw [h0] at this; cases this
  refine⟨?_,finish listed a w hs h7⟩;cases hr:Region.ready .any ops.toArray listed with
  | nil=>rfl
  | cons i r=>
   have hm:i∈Region.ready .any ops.toArray listed:=by rw [hr]; simp
   obtain⟨h1,o,ho,_⟩:=mem_ready.1 hm;have hi:i < ops.length:=by have:=(Pz ho).1; simpa using this
   rw [bM (by rw [hs.size]; exact hi),h7 i hi] at h1;cases h1
 | succ fuel ih=>
  intro listed a w hu hs;refine⟨fun hr=>finish listed a w hs (stuck listed hs.size hr),fun i hi=>?_⟩;obtain⟨h1,o,ho,a4⟩:=mem_ready.1 hi;have h6:ops[i]? = some o:=by simpa using ho
  have a0:i < ops.length:=(Sa h6).1;have h5:listed.getD i false=false:=by rw [<- bM (by rw [hs.size]; exact a0)]; exact h1
  obtain⟨β,L,hL,h4⟩:=hs.st;have a1:∀ j,Anc ops.toArray i j->listed.getD j false=true:=fun j hj=>hj.ready hs.closed (fun o' e h8 he hb=>by
   rw [ho] at h8; cases h8; exact a4 e he hb)
  -- what a slot that operation i names has to do with the others
  have names:∀ j t,j < ops.length->j≠i->(ops[j]?).bind (·.dst)=some t->t∈iO ops.toArray o->(j < i∧Anc ops.toArray i j)∨(i < j∧Anc ops.toArray j i):=by
   intro j t hj b9 hd ht;simp only [H08,List.all_eq_true,List.mem_range] at a6;have:=a6 j hj;rw [hd] at this;simp only [List.all_eq_true,List.mem_range] at this;have:=this i a0;rw [h6] at this;have hc:(iO ops.toArray o).contains t=true:=by simpa using ht
   simp only [hc,Bool.not_true,Bool.false_or,Sy,beq_iff_eq,Ne.symm b9,false_or,ordered] at this;rcases S4 i j with h | h
   ·rw [if_pos h] at this; exact .inr ⟨h,anc this⟩
   ·rw [if_neg (by omega)] at this; exact .inl ⟨by omega,anc this⟩
  have later:∀ j t,i < j->j < ops.length->(ops[j]?).bind (·.dst)=some t->t∈iO ops.toArray o->listed.getD j false=false:=by
   intro j t c0 hj hd ht;rcases names j t hj (by omega) hd ht with h | h
   ·omega
   ·cases hl:listed.getD j false with
    | false=>rfl
    | true=>
     have:listed.getD i false=true:=hs.closed.anc h.2 hl;rw [this] at h5; cases h5
  have earlier:∀ j t,j < i->(ops[j]?).bind (·.dst)=some t->t∈iO ops.toArray o->listed.getD j false=true:=by
   intro j t c0 hd ht;rcases names j t (by omega) (by omega) hd ht with h | h
   ·exact a1 j h.2
   ·omega
  -- the frame that operation i sees
  have b1:Q3 a w β L (dI (o.looksAt ops.toArray) (Zk ops l0 val (fun _=>true) i)):=by
   refine⟨fun t=>?_⟩;rw [GN];split
   ·rename_i ht;have hn:t∈iO ops.toArray o:=List.mem_append_right _ ht;have hv:=h4.frame.tmp t;rw [iP] at hv ⊢;have e1:cE ops (fun i=>listed.getD i false) t ops.length=cE ops (fun i=>listed.getD i false) t i:=
     qL ops _ t i ops.length (by omega) (fun j h1 h2 hd=>by
      rcases S4 i j with h | h
      ·exact later j t h h2 hd hn
      ·have:j=i:=by omega
       subst this; exact h5)
    have e2:cE ops (fun i=>listed.getD i false) t i=cE ops (fun _=>true) t i:=nU ops _ _ t i (fun j hj hd=>earlier j t hj hd hn);rw [e1,e2] at hv;exact hv
   ·exact .AP
  -- behind it
  let listed':=listed.setIfInBounds i true
  have h9:∀ j,listed'.getD j false=if j=i then true else listed.getD j false:=by
   intro j;simp only [listed',Array.getD_eq_getD_getElem?,Array.getElem?_setIfInBounds];by_cases e:i=j
   ·subst e; simp [hs.size,a0]
   ·simp [e,Ne.symm e]
  have b2:∀ (L':Loc) (v:Value) (w':World) (β':H2),yT tb (flagsOf (fun i=>listed'.getD i false) ws)=some L'->Sat w' β' L'->Step w β L w' β' L'->V w' β' L' (val i) v ->
    wpAnyIn (FR ro) n P .any ops.toArray (Q.out N w0 β0 L0) fuel listed' (a.put o.dst v) w':=by
   intro L' v w' β' a8 b3 a2 c1;refine ih listed' _ w' ?_ ⟨by simp [listed',hs.size],⟨fun k o2 e hk h8 he hb=>?_⟩,β',L',a8,b3,h4.step.trans a2,⟨fun t=>?_⟩,by rw [Act.put_size]; exact h4.size,h4.base,by rw [Act.put_defers']; exact h4.defers.step a2⟩
   ·-- one fewer is left
    have c5:((List.range ops.length).filter fun j=>!listed'.getD j false).length < ((List.range ops.length).filter fun j=>!listed.getD j false).length:=by
     have:(List.range ops.length).filter (fun j=>!listed'.getD j false)=((List.range ops.length).filter fun j=>!listed.getD j false).filter (fun j=>j != i):=by
      rw [List.filter_filter];congr 1;funext j;rw [h9 j];by_cases e:j=i <;> simp [e]
     rw [this];refine Nat.lt_of_le_of_ne (S3 _ _) (fun e=>?_);have:=List.length_filter_eq_length_iff.1 e i (Sx.2 ⟨List.mem_range.2 a0,by rw [h5]; rfl⟩);simp at this
    unfold unl at hu ⊢; omega
   ·rw [h9] at hk ⊢;by_cases e':e.on=i
    ·rw [if_pos e']
    ·rw [if_neg e'];by_cases e2:k=i
     ·subst e2;rw [ho] at h8; cases h8;exact a4 e he hb
     ·rw [if_neg e2] at hk;exact hs.closed.edge k o2 e hk h8 he hb
   ·rw [iP];by_cases hd:o.dst=some t
    ·have hn:t∈iO ops.toArray o:=List.mem_append_left _ (by simp [hd]);have c2:(ops[i]?).bind (·.dst)=some t:=by rw [h6]; exact hd
     have e1:cE ops (fun i=>listed'.getD i false) t ops.length=cE ops (fun i=>listed'.getD i false) t (i+1):=
      qL ops _ t (i+1) ops.length (by omega) (fun j h1 h2 a5=>by rw [h9 j,if_neg (by omega)]; exact later j t (by omega) h2 a5 hn)
     have e2:cE ops (fun i=>listed'.getD i false) t (i+1)=some i:=by simp only [cE]; rw [if_pos ⟨by rw [h9 i,if_pos rfl],c2⟩]
     rw [e1,e2,hd,wU (S0 (pc.lt i o t h6 hd) h4.size),if_pos rfl];exact c1
    ·have e1:cE ops (fun i=>listed'.getD i false) t ops.length=cE ops (fun i=>listed.getD i false) t ops.length:=
      nU ops _ _ t ops.length (fun j hj a5=>by
       rw [h9 j,if_neg (fun e=>hd (by subst e; rw [h6] at a5; exact a5))])
     have hv:=(h4.frame.tmp t).step a2;rw [iP] at hv;rw [e1];have e2:(a.put o.dst v).tmps.getD t undef=a.tmps.getD t undef:=by
      cases b5:o.dst with
      | none=>rfl
      | some d=>
       have c3:d < a.tmps.size:=S0 (pc.lt i o d h6 b5) h4.size;rw [wU c3,if_neg (fun e=>hd (by rw [b5,e]))]
     rw [e2]; exact hv
  unfold wpOpIn;rw [ho];have fin:(∃ L',yT tb (flagsOf (fun i=>listed'.getD i false) ws)=some L'∧cI P N ops.toArray o (dI (o.looksAt ops.toArray) (Zk ops l0 val (fun _=>true) i)) L (val i) L') ->
    if Region.wanted o (yielded ops.toArray a.tmps)=true then Oper.wpIn (FR ro) n P o a w (wpAnyIn (FR ro) n P .any ops.toArray (Q.out N w0 β0 L0) fuel listed') (Q.out N w0 β0 L0) else (∀ f,o.about P w a.eval=some f->(FR ro).fn f)∧wpAnyIn (FR ro) n P .any ops.toArray (Q.out N w0 β0 L0) fuel listed' (a.put o.dst undef) w:=by
   rintro⟨L',a8,hO⟩;have:=hO a w β (wpAnyIn (FR ro) n P .any ops.toArray (Q.out N w0 β0 L0) fuel listed') (Q.out N w0 β0 L0) h4.sat b1 h4.size (fun v w' β' h1 h2 h3=>b2 L' v w' β' a8 h1 h2 h3);split
   ·rename_i hw; rw [if_pos hw] at this; exact pP (b8 i o h6) this
   ·rename_i hw; rw [if_neg hw] at this; exact⟨fun _ _=>trivial,this⟩
  apply fin;have c4:=pc.step i o h6;simp only [List.all_eq_true,List.mem_range] at b4;have b6:=b4 i a0;have b7:flagsOf (fun i=>listed.getD i false) ws∈sts.getD i []:=by
   rw [eq_of_beq b6];refine Sx.2 ⟨?_,?_⟩
   ·have:=JG (flagsOf (fun i=>listed.getD i false) ws);simpa [flagsOf] using this
   ·simp only [J3e,flagsOf,tT,List.all_map,List.all_eq_true,Function.comp,Sq,Sy,Bool.not_eq_true'];intro x hx;refine⟨⟨⟨?_,?_⟩,?_⟩,?_⟩
    ·cases a9:listed.getD x false with
     | false=>exact .inl rfl
     | true=>
      refine .inr fun y hy=>?_;cases hc:((iY ops).getD x []).contains y with
      | false=>exact .inl rfl
      | true=>exact .inr (hs.closed.anc (anc hc) a9)
    ·cases hc:((iY ops).getD i []).contains x with
     | false=>exact .inl rfl
     | true=>exact .inr (a1 x (anc hc))
    ·cases hc:x==i with
     | false=>exact .inl rfl
     | true=>rw [eq_of_beq hc]; exact .inr h5
    ·cases hc:((iY ops).getD x []).contains i with
     | false=>exact .inl rfl
     | true=>
      right;cases a9:listed.getD x false with
      | false=>rfl
      | true=>
       have:listed.getD i false=true:=hs.closed.anc (anc hc) a9;rw [this] at h5; cases h5
  obtain⟨L1,L2,L',g1,g2,hO,hE⟩:=JH c4 _ b7;rw [hL] at g1; cases g1;refine⟨L',?_,hO.BI hE⟩;rw [<- g2];congr 1;simp only [G16,flagsOf,tT,List.map_map];refine List.map_congr_left fun x _=>?_;simp only [Function.comp,h9 x];by_cases e:x=i
  ·subst e; simp
  ·simp [e]

theorem G8f {ops:AN} {id:Nat} {Q:Post} (ws:AK) (sts:List (List (List Bool))) (tb:List (List Bool×Loc)) (hm:P.follows .mixedOrders=true) (chk:wW ops ws sts=true) (h0:yT tb (List.replicate ws.length false)=some L) (h1:yT tb (List.replicate ws.length true)=some L')
  (h:dT P N ops.toArray ws sts tb 0 ops l (fun l'=>Q.norm l' L')) (h2:ops.all bR=true:=by rfl):JC P N (.region id ops.toArray true) Q l L:=by
 obtain⟨val,pc,hK⟩:=GL ops ws sts tb l _ ops 0 (fun _=>.AP) (fun j=>by simp) (by simp) (fun j o hj=>by omega) h;intro n w0 β0 L0 a w β hs;refine wpIn_region_any hm ?_;rw [List.size_toArray];refine G70 (ro:=N.ro) (n:=n) (fun i o hi=>List.all_eq_true.1 h2 o (Sd hi)) chk pc (fun L'' hL''=>by rw [h1] at hL''; cases hL''; exact hK) ops.length (Array.replicate ops.length false) a _ ?_ ⟨by simp,⟨fun i o e hi=>?_⟩,β,L,?_,?_⟩
 ·exact Nat.le_trans (S3 _ _) (by simp)
 ·simp only [Array.getD_eq_getD_getElem?,Array.getElem?_replicate] at hi;split at hi <;> simp at hi
 ·have:flagsOf (fun i=>(Array.replicate ops.length false).getD i false) ws=List.replicate ws.length false:=by
   refine List.eq_replicate_iff.2 ⟨by simp [flagsOf],fun b hb=>?_⟩;obtain⟨x,hx,rfl⟩:=Su.1 hb;simp only [Array.getD_eq_getD_getElem?,Array.getElem?_replicate]; split <;> rfl
  rw [this]; exact h0
 ·have this:Zk ops l val (fun i=>(Array.replicate ops.length false).getD i false) ops.length=l:=by
   have hf:(fun i=>(Array.replicate ops.length false).getD i false)=fun _=>false:=by
    funext i;simp only [Array.getD_eq_getD_getElem?,Array.getElem?_replicate]; split <;> rfl
   rw [hf];have:∀ n,Zk ops l val (fun _=>false) n=l:=by
    intro n
    induction n with
    | zero=>rfl
    | succ n ih=>
     cases hd:(ops[n]?).bind (·.dst) with
     | none=>simp only [Zk,hd]; exact ih
     | some d=>simp only [Zk,hd,Bool.false_eq_true,if_false]; exact ih
   exact this _
  rw [this]; exact hs.drew
open Go.RowKit Go.Sort

def aN {α:Type} [Inhabited α] (cf:α->α->Int) (xs:List α):List α:=(pdq (ltOf cf) xs.toArray 0 xs.length (Lib.bitLen xs.length) true true).toList
variable {α:Type}
theorem wK [Inhabited α] (cf:α->α->Int) (hO:SWO (ltOf cf)) (xs:List α):(aN cf xs).Perm xs∧(aN cf xs).length=xs.length∧∀ i j (hi:i < j) (hj:j < (aN cf xs).length),ltOf cf (aN cf xs)[j] (aN cf xs)[i]=false:=by
 have h:=pdq_sorts (ltOf cf) hO xs.toArray 0 xs.length (Lib.bitLen xs.length) true true (Nat.zero_le _) (by simp) (Or.inl rfl);obtain⟨⟨h1,h2,h3⟩,h4⟩:=h;have hl:(aN cf xs).length=xs.length:=by simp [aN,h1]
 refine⟨?_,hl,fun i j hi hj=>?_⟩
 ·have e1:(pdq (ltOf cf) xs.toArray 0 xs.length (Lib.bitLen xs.length) true true).extract 0 xs.length=pdq (ltOf cf) xs.toArray 0 xs.length (Lib.bitLen xs.length) true true:=by
   grind
  have e2:xs.toArray.extract 0 xs.length=xs.toArray:=by rw [Array.extract_eq_self_of_le (by simp)]
  rw [e1,e2] at h3;exact h3
 ·have h0:j < xs.length:=by omega
  have:=h4 i j (Nat.zero_le _) hi h0;have g:∀ q (hq:q < (aN cf xs).length),(pdq (ltOf cf) xs.toArray 0 xs.length (Lib.bitLen xs.length) true true)[q]! = (aN cf xs)[q]:=fun q hq=>by
   have h5:q < (pdq (ltOf cf) xs.toArray 0 xs.length (Lib.bitLen xs.length) true true).size:=by rw [h1]; simpa using (hl ▸ hq)
   rw [getElem!_pos _ q h5]; simp [aN]
  grind

def G20 (P:Program) (F:FuncId) (k:Nat):Prop:=
 ∀ {α:Type} [Inhabited α] (enc:α->AM),(∀ x,(enc x).length=k)->(∀ x,∀ v∈enc x,v.oneCell'=true)->∀ (cf:α->α->Int),SWO (ltOf cf)->∀ (g:Nat) (cb:Array Value) (blk off cap:Nat) (d:Array α) (w:World),
  (∀ args w,(callFunc g args).run P w=.ok (.enter g args) w)->CmpLays P g cb enc k cf blk off d.size w->HoldsK enc k w blk off d->blk < w.heap.size->d.size < 4611686018427387904 ->
  Calls P F #[.slice (some ⟨blk,off,none⟩) d.size cap,.func (.func g) #[] cb] w fun e w'=>e=.returned (.tuple #[])∧∃ n os,w'=sortWorldK enc k w blk off n (pdq (ltOf cf) d 0 d.size (Lib.bitLen d.size) true true) os
def SortNone (P:Program) (F:FuncId):Prop:=
 ∀ (g:Nat) (cb:Array Value) (w:World),Calls P F #[.slice none 0 0,.func (.func g) #[] cb] w fun e w'=>e=.returned (.tuple #[])∧∃ n os,w'=grow (w.drewN n) os

theorem J59 {w w':World} (h1:w'.os=w.os) (h2:w'.tape=w.tape) (h3:w'.output=w.output∧w.drawn<=w'.drawn) (h4:w.heap.size<=w'.heap.size) (h5:∀ b,b < w.heap.size->w'.heap[b]? = w.heap[b]?):∃ q os,w'=grow (w.drewN q) os:=by
 refine⟨w'.drawn - w.drawn,w'.heap.extract w.heap.size w'.heap.size,?_⟩;obtain⟨hp,tp,dr,os_,out⟩:=w';simp only at h1 h2 h3 h4 h5;subst h1 h2;obtain⟨rfl,h3⟩:=h3;unfold grow World.drewN;simp only [World.mk.injEq,true_and,and_true];grind

theorem G53 {f:FuncId} {args:AG} (hc:Pure P f args (·=u)) {w:World} {vs:Array Value} (hl:vs.size=args.length) (hv:∀ (j:Nat) a v,args[j]? = some a->vs[j]? = some v->D w (fun b _=>b < w.heap.size) a v) :
  Calls P f vs w fun e w'=>∃ v,e=.returned v∧D w' (fun b _=>b < w'.heap.size) u v∧∃ q os,w'=grow (w.drewN q) os:=by
 have h1:∀ b i:Nat,b < w.heap.size->J6 w ⟨fun _=>none,fun _ _=>False⟩ [] b i:=fun b i hs=>⟨hs,fun h=>h,fun id o h=>by simp [lk] at h⟩;refine(hc w ⟨fun _=>none,fun _ _=>False⟩ vs ⟨fun b i h=>h.elim,fun id b h=>by simp [lk] at h,fun id b j h=>by simp [lk] at h,fun id id' b h=>by simp [lk] at h,fun id o h=>by simp [lk] at h⟩ hl
  (fun j u v hu h2=>.data ((hv j u v hu h2).mono fun b i hs=>⟨h1 b i hs,rfl⟩))).mono fun e w' h=>?_
 obtain⟨v,r,β',L',he,h4,h0,h3,rfl,rfl⟩:=h;exact⟨v,he,h3.data_of_nil.mono fun b i hs=>⟨hs.lt,rfl⟩,J59 h0.os h0.tape h0.output h0.size (fun b hb=>(h0.far b hb (fun id h=>by simp [lk] at h)).1)⟩

def Flat {α:Type} (f:α->AV) (enc:α->AM):Prop:=∀ x,f x=.agg ((enc x).map .sc)

theorem D.inv_sc {w:World} {S:Nat->Nat->Prop} {v x:Value} (h:D w S (.sc v) x):x=v:=by cases h; rfl
theorem Q37 {w:World} {S:Nat->Nat->Prop} {vs:AM}:D w S (.agg (vs.map .sc)) (.agg vs.toArray):=
 .agg (by simp) fun j u v hu hv=>by
  simp only [Sj] at hu;simp only [List.getElem?_toArray] at hv;rw [hv] at hu; cases hu; exact .sc

theorem G68 [Inhabited α] {f:α->AV} {enc:α->AM} {k:Nat} (hf:Flat f enc) (hk:∀ x,(enc x).length=k) (xs:List α):flat (xs.map f)=(flatK enc k xs.toArray).toList.map .sc:=by
 apply List.ext_getElem?;intro j;have h0:∀ x∈xs.map f,x.cells.length=k:=fun x hx=>by
  obtain⟨y,_,rfl⟩:=Su.1 hx;rw [hf y]; simp [AV.cells,hk]
 have h4:(flatK enc k xs.toArray).size=xs.length*k:=by rw [size_flatK]; simp
 rcases S4 j (xs.length*k) with hj | hj
 ·have k0:0 < k:=by
   rcases Nat.eq_zero_or_pos k with h | h
   ·subst h; simp at hj
   ·exact h
  have h5:j=j / k*k+j % k:=by rw [Nat.mul_comm]; exact(Nat.div_add_mod j k).symm
  have hq:j / k < xs.length:=Nat.div_lt_of_lt_mul (by rw [Nat.mul_comm]; exact hj);have h1:(xs.map f)[j / k]? = some (f xs[j / k]):=by simp [hq]
  have hl:(flat (xs.map f))[j]? = (f xs[j / k]).cells[j % k]? := by
   have:=jE h0 h1 (Nat.mod_lt j k0)
   rwa [<- h5] at this
  have hg:=get_flatK enc k xs.toArray j (by rw [List.size_toArray]; exact hj);have h2:j % k < (enc xs[j / k]).length:=by rw [hk]; exact Nat.mod_lt _ k0
  rw [hl,hf,Sj];simp only [AV.cells,Sj,Sb h2,Option.map_some,Array.getElem?_toList];grind
 ·rw [List.getElem?_eq_none (by rw [Jd h0]; simpa using hj),List.getElem?_eq_none (by simp [h4]; exact hj)]

set_option maxHeartbeats 1000000 in
theorem Hf9 {F:FuncId} {k:Nat} (hs:G20 P F k) (h0:SortNone P F) [Inhabited α] {f:α->AV} (enc:α->AM) (hf:Flat f enc) (hk:∀ x,(enc x).length=k) (h1:∀ x,∀ v∈enc x,v.oneCell'=true)
  (cf:α->α->Int) (hO:SWO (ltOf cf)) (g:FuncId) (hB:Hh P g=true) (BA:AG) (c1:Qw (fun _=>false) BA=true) (h8:∀ x y,Pure P g ([f x,f y]++BA) (·=I64 (cf x y)))
  (i ver E:Nat) (xs:List α) (b7:xs.length < 4611686018427387904) :
  Q4 P F [.vec i ver k xs.length,.fn g BA] [(i,.vec E k ver (xs.map f))] (fun r L'=>r=.tup []∧L'=[(i,.vec E k ver ((aN cf xs).map f))]):=by
 intro w β vs h9 hl hv;have hi:lk [(i,Jn.vec E k ver (xs.map f))] i=some (.vec E k ver (xs.map f)):=by simp [lk]
 have c2:vs.size=2:=hl;obtain⟨v0,v1,rfl⟩:∃ v0 v1,vs=#[v0,v1]:=by
  refine⟨vs[0],vs[1],?_⟩;apply Array.ext
  ·simp [c2]
  ·intro j d4 c3;have:j=0∨j=1:=by omega
   rcases this with rfl | rfl <;> rfl
 have c4:=hv 0 _ v0 rfl rfl;have c5:=hv 1 _ v1 rfl rfl;obtain⟨cb,rfl,a9,c6⟩:=c5.inv_fn;have b8:∀ (j:Nat) u v,BA[j]? = some u->cb[j]? = some v->D w (J6 w β [(i,Jn.vec E k ver (xs.map f))]) u v:=fun j u v hu h2=>(c6 j u v hu h2).toD (aD c1 u (Sd hu));obtain⟨-,d5,c7⟩:=fF h9 hi c4;have h7:(aN cf xs).length=xs.length:=(wK cf hO xs).2.1;have a0:∀ y∈(aN cf xs).map f,y.cells.length=k:=fun y hy=>by
  obtain⟨z,_,rfl⟩:=Su.1 hy;rw [hf z]; simp [AV.cells,hk]
 have h6:∀ L:Loc,L=[(i,Jn.vec E k ver ((aN cf xs).map f))]->jM ((i,Jn.vec E k ver ((aN cf xs).map f))::[(i,Jn.vec E k ver (xs.map f))]) L:=fun L hL id=>by
  subst hL;rw [Gm,Gm,Gm];by_cases e:i=id
  ·rw [if_pos e,if_pos e]
  ·rw [if_neg e,if_neg e,if_neg e]
 rcases c7 with ⟨rfl,c8,b0⟩ | ⟨b,cap,cur,rfl,hb,q1,q2,q3,q4,q5⟩
 ·-- no element
  refine(h0 g cb w).mono fun e w' h=>?_;obtain⟨rfl,n,os,rfl⟩:=h;have hx:xs=[]:=by simpa using c8
  subst hx;have b1:aN cf ([]:List α)=[]:=S1 (by simpa using h7);obtain⟨st,sat⟩:=Rn (w':=grow (w.drewN n) os) (t:=E) (k:=k) (AZ:=ver) (xs':=(aN cf ([]:List α)).map f) (ob':=none) h9 (.inr ⟨ver,_,hi,Sf,fun _=>⟨by simp [b1],b0.symm,fun b hb=>by rw [b0] at hb; cases hb⟩⟩)
   rfl rfl ⟨rfl,by simp [grow,World.drewN]⟩ (by simp [grow,World.drewN]) (fun b hb _=>by simp [grow,World.drewN,Array.getElem?_append_left hb]) (.inl rfl)
  have s2:=sat ⟨a0,.inl ⟨rfl,by simp [b1]⟩⟩;exact⟨_,_,_,_,rfl,s2.BI (h6 _ rfl),st.BI (h6 _ rfl),.tup rfl (fun j u v hu=>by simp at hu),rfl,rfl⟩
 ·have a3:b < w.heap.size:=(Pz q3).1;have b2:(flatK enc k xs.toArray).size=xs.length*k:=by rw [size_flatK]; simp
  have b3:(xs.map f).length=xs.length:=by simp
  rw [b3] at q1;have hH:HoldsK enc k w b 0 xs.toArray:=by
   intro j hj;have c3:j < xs.length*k:=by rw [<- b2]; exact hj
   have b4:j < cur.size:=by rw [q4]; have:=Nat.mul_le_mul_right k q1; omega
   have hu:(flat (xs.map f))[j]? = some (.sc (flatK enc k xs.toArray)[j]!):=by
    rw [G68 hf hk,Sj,Array.getElem?_toList,Array.getElem?_eq_getElem hj,getElem!_pos _ j hj]; rfl
   have hd:=q5 j _ cur[j] hu (by simp [b4]);have he:cur[j]=(flatK enc k xs.toArray)[j]! := hd.inv_sc;constructor
   ·simp [World.cell?,q3,b4,he]
   ·simp [World.frozen?,q3]
  have eg:∀ args w,(callFunc g args).run P w=.ok (.enter g args) w:=fun args w=>Hh.out hB args w;have hC:CmpLays P g cb enc k cf b 0 xs.toArray.size w:=by
   intro m os dk d6 x y;have h4:∀ b' j,J6 w β [(i,Jn.vec E k ver (xs.map f))] b' j->Rq (sortWorldK enc k w b 0 m dk os) b' j=Rq w b' j∧b' < (sortWorldK enc k w b 0 m dk os).heap.size:=by
    intro b' j hs;have a4:b'≠b:=fun e=>by
     have:=hs.kept i _ hi (by rw [e]; exact hb);exact this
    constructor
    ·refine Jt (w:=w) ?_;unfold sortWorldK;simp only [grow];rw [Array.getElem?_append_left (by simp only [putRowK,putRow,mapBlock,Array.size_modify,Sort.ahead]; exact hs.lt)];simp only [putRowK,putRow,mapBlock,Sort.ahead,Array.getElem?_modify,if_neg (Ne.symm a4)]
    ·unfold sortWorldK;simp only [size_grow,putRowK,putRow,mapBlock,Array.size_modify,Sort.ahead];have:=hs.lt; omega
   generalize sortWorldK enc k w b 0 m dk os=W at h4 ⊢;have a5:(#[Value.agg (enc x).toArray,Value.agg (enc y).toArray]++cb).size=([f x,f y]++BA).length:=by rw [Array.size_append,Sn,a9]; rfl
   have c9:=G53 (w:=W) (h8 x y) a5;clear h8 hs a5 hH b2 q5 a9;refine(c9 (fun j a v ha h2=>?_)).mono fun e w' h=>?_
   ·rcases S4 j 2 with hj | hj
    ·rw [Sh (by simpa using hj)] at ha;rw [Array.getElem?_append_left (by simpa using hj)] at h2;have:j=0∨j=1:=by omega
     rcases this with rfl | rfl
     ·simp at ha h2; subst ha h2; rw [hf x]; exact Q37
     ·simp at ha h2; subst ha h2; rw [hf y]; exact Q37
    ·rw [Sg (by simpa using hj)] at ha;rw [Array.getElem?_append_right (by simpa using hj)] at h2;exact(b8 (j - 2) a v (by simpa using ha) (by simpa using h2)).mono fun b' j' hs=>⟨(h4 b' j' hs).2,(h4 b' j' hs).1⟩
   ·obtain⟨v,rfl,hd,q,os',rfl⟩:=h;have d0:=hd.inv_sc;subst d0;exact⟨rfl,q,os',rfl⟩
  have a1:=hs enc hk h1 cf hO g cb b 0 cap xs.toArray w eg hC hH a3 (by simpa using b7);rw [List.size_toArray] at a1;rw [b3];refine a1.mono fun e w' h=>?_;obtain⟨rfl,n,os,rfl⟩:=h
  -- what lies there now
  obtain⟨d',a6⟩:∃ d',d'=pdq (ltOf cf) xs.toArray 0 xs.length (Lib.bitLen xs.length) true true:=⟨_,rfl⟩;have a7:d'.size=xs.toArray.size:=by
   have:=h7;rw [aN,<- a6] at this;simpa using this
  have d1:aN cf xs=d'.toList:=by rw [aN,<- a6]
  rw [<- a6];have b5:=holdsK_sortWorldK enc k w b 0 n xs.toArray d' os a3 hH a7;have h3:(sortWorldK enc k w b 0 n d' os).heap[b]? = some (.cells (putCells id 0 (flatK enc k d') cur) E (0,0)):=by
   unfold sortWorldK grow putRowK putRow mapBlock;simp only [Sort.ahead];rw [Array.getElem?_append_left (by simpa using a3),Array.getElem?_modify,if_pos rfl,q3];rfl
  have b6:(putCells id 0 (flatK enc k d') cur).size=cur.size:=by simp [putCells]
  have a8:∀ j,j < xs.length*k->(sortWorldK enc k w b 0 n d' os).cell? ⟨b,j,none⟩=some (flatK enc k d')[j]! := by
   intro j hj;have a2:j < (flatK enc k d').size:=by rw [size_flatK,a7]; simpa using hj
   have:=(b5 j a2).1;rw [Nat.zero_add] at this;exact this
  have f1:(sortWorldK enc k w b 0 n d' os).os=w.os:=rfl;have f2:(sortWorldK enc k w b 0 n d' os).tape=w.tape:=rfl;have f3:(sortWorldK enc k w b 0 n d' os).output=w.output∧w.drawn<=(sortWorldK enc k w b 0 n d' os).drawn:=⟨rfl,Nat.le_add_right _ _⟩;have f4:w.heap.size<=(sortWorldK enc k w b 0 n d' os).heap.size:=by
   unfold sortWorldK;rw [size_grow];simp only [putRowK,putRow,mapBlock,Array.size_modify,Sort.ahead]; omega
  have f5:∀ b',b' < w.heap.size->b≠b'->(sortWorldK enc k w b 0 n d' os).heap[b']? = w.heap[b']? := by
   intro b' h5 b9;unfold sortWorldK grow putRowK putRow mapBlock;simp only [Sort.ahead];rw [Array.getElem?_append_left (by simpa using h5),Array.getElem?_modify,if_neg b9]
  clear b5 hH hC h8;generalize sortWorldK enc k w b 0 n d' os=W at h3 a8 f1 f2 f3 f4 f5;obtain⟨st,sat⟩:=Rn (w':=W) (t:=E) (k:=k) (AZ:=ver) (xs':=(aN cf xs).map f) (ob':=β.at_ i) h9
   (.inr ⟨ver,_,hi,Sf,fun _=>⟨by rw [Ss,Ss,h7],rfl,fun b' h5=>by
    rw [hb] at h5; cases h5;rw [World.shape?,h3,World.shape?,q3]; simp only [b6]⟩⟩) f1 f2 f3 f4
   (fun b' h5 a4=>f5 b' h5 (fun e=>a4 (by rw [inL,hi]; rfl) (by rw [hb,e])))
   (.inr (.inl ⟨by rw [inL,hi]; rfl,rfl⟩))
  have c0:∀ j,j < xs.length*k->(putCells id 0 (flatK enc k d') cur)[j]? = some (flatK enc k d')[j]! := by
   intro j hj;have:=a8 j hj;simp only [World.cell?,h3] at this;simpa using this
  have s2:=sat ⟨a0,.inr ⟨b,hb,_,h3,by rw [b6,q4,Ss,h7]; exact Nat.mul_le_mul_right _ q1,fun j u v hu h2=>by
   have hj:=(Sa hu).1;rw [Jd a0,Ss,h7] at hj;rw [c0 j hj] at h2;have d2:=Sc h2;subst d2;have a2:j < (flatK enc k d').size:=by rw [size_flatK,a7]; simpa using hj
   rw [G68 hf hk,d1] at hu;rw [Sj,Array.getElem?_toList,Array.toArray_toList,Array.getElem?_eq_getElem a2,Option.map_some] at hu;have d3:=Sc hu;subst d3;rw [getElem!_pos _ j a2];exact .sc⟩⟩
  exact⟨_,_,_,_,rfl,s2.BI (h6 _ rfl),st.BI (h6 _ rfl),.tup rfl (fun j u v hu=>by simp at hu),rfl,rfl⟩
end Go.Proofs.YtibhpogonkdiaaaGreat
