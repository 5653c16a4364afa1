/- A statement whose order is open,in which more than one opera -/
import Derived.Test.YthkihfoleenlmaaGreatMapM
namespace Go.Proofs.YthkihfoleenlmaaGreat
open Go.RowKit

def jA (L L':Loc):Prop:=∀ id,lk L id=lk L' id
theorem Sat.locEq {w:World} {β:Gx} {L L':Loc} (h:Sat w β L) (e:jA L L'):Sat w β L':=by
 have hS:∀ b i,Jc w β L b i→Jc w β L' b i:=fun b i hs=>⟨hs.lt,hs.seen,fun id o ho=>hs.kept id o (by rw [e]; exact ho)⟩
 exact⟨h.hid,fun id b h1=>h.bnd id b (by rw [e]; exact h1),fun id b j h1=>h.apart id b j (by rw [e]; exact h1),fun id id' b h1 h2=>h.inj id id' b (by rw [e]; exact h1) (by rw [e]; exact h2),
  fun id o ho=>(h.obj id o (by rw [e]; exact ho)).up hS (fun id o ho=>⟨by rw [← e]; exact ho,rfl⟩)⟩
theorem Step.locEq {w w':World} {β β':Gx} {L L1 L':Loc} (h:Step w β L w' β' L1) (e:jA L1 L'):Step w β L w' β' L' where
 os:=h.os
 tape:=h.tape
 output:=h.output
 size:=h.size
 hid:=h.hid
 stab:=fun b i hs=>by
  obtain⟨h1,h2⟩:=h.stab b i hs
  exact⟨⟨h1.lt,h1.seen,fun id o ho=>h1.kept id o (by rw [e]; exact ho)⟩,h2⟩
 far:=fun b hb hf=>by
  obtain⟨h1,h2⟩:=h.far b hb hf
  exact⟨h1,fun id hid=>h2 id (by rw [e]; exact hid)⟩
 box:=fun id t cs hi=>by obtain⟨h1,cs',h2⟩:=h.box id t cs hi; exact⟨h1,cs',by rw [← e]; exact h2⟩
 map:=fun id t cs hi=>by obtain⟨h1,cs',h2⟩:=h.map id t cs hi; exact⟨h1,cs',by rw [← e]; exact h2⟩
 iter:=fun id m n cs hi=>by obtain⟨h1,n',cs',h2⟩:=h.iter id m n cs hi; exact⟨h1,n',cs',by rw [← e]; exact h2⟩
 vec:=fun id t k ver xs hi=>by obtain⟨v,xs',h1,h2,h3⟩:=h.vec id t k ver xs hi; exact⟨v,xs',by rw [← e]; exact h1,h2,h3⟩
 spare:=fun id t k ver xs hi=>by obtain⟨v,xs',h1,h2,h3⟩:=h.spare id t k ver xs hi; exact⟨v,xs',by rw [← e]; exact h1,h2,h3⟩
theorem V.locEq {w:World} {β:Gx} {L L':Loc} {u:AV} {v:Value} (h:V w β L u v) (e:jA L L'):V w β L' u v:=
 h.up (fun b i hs=>⟨hs.lt,hs.seen,fun id o ho=>hs.kept id o (by rw [e]; exact ho)⟩) (fun id o ho=>⟨by rw [← e]; exact ho,rfl⟩)
theorem gC.locEq {P:Program} {N:Cfg} {ops:Array Oper} {o:Oper} {l:Fr} {L L1 L':Loc} {u:AV} (h:gC P N ops o l L u L1) (e:jA L1 L'):gC P N ops o l L u L':=
 fun a w β K Q h1 h2 h3 h4=>h a w β K Q h1 h2 h3 (fun v w' β' k1 k2 k3=>h4 v w' β' (k1.locEq e) (k2.locEq e) (k3.locEq e))
def wU (ks:List Nat):Loc→Bool
 | []=>true
 | (i,_)::r=>ks.contains i&&wU ks r
def J6e (L L':Loc):List Nat→Prop
 | []=>True
 | k::r=>lk L k=lk L' k∧J6e L L' r
theorem wS {ks:List Nat} {id:Nat} (h:id ∉ ks):∀ {L:Loc},wU ks L=true→lk L id=none
 | [],_=>rfl
 | (i,o)::r,hk=>by
  simp only [wU,P7] at hk
  rw [Gf,if_neg (fun e=>h (by subst e; simpa using hk.1))]
  exact wS h hk.2
theorem jA.of {L L':Loc} (ks:List Nat) (h1:wU ks L=true) (h2:wU ks L'=true) (h3:J6e L L' ks):jA L L':=fun id=>by
 by_cases h:id∈ks
 ·clear h1 h2
  induction ks with
  | nil=>cases h
  | cons k r ih=>
   rcases Pd.1 h with e | h
   ·rw [e]; exact h3.1
   ·exact ih h3.2 h
 ·rw [wS h h1,wS h h2]

/-! ### The stages: which of the turning operations are done -/
def uL:Nat→List (List Bool)
 | 0=>[[]]
 | n+1=>(uL n).flatMap fun s=>[false::s,true::s]
theorem yA:∀ (s:List Bool),s∈uL s.length
 | []=>by simp [uL]
 | b::s=>by
  simp only [P1,uL,List.mem_flatMap]
  exact⟨s,yA s,by cases b <;> simp⟩
def H59 (tbl:List (List Nat)) (ws:List Nat) (i:Nat) (s:List Bool):Bool:=
 (ws.zip s).all fun p=>(!p.2||(ws.zip s).all fun q=>!(tbl.getD p.1 []).contains q.1||q.2)&&(!(tbl.getD i []).contains p.1||p.2)&&(!(p.1==i)||!p.2)&&(!(tbl.getD p.1 []).contains i||!p.2)
def J1a (tbl:List (List Nat)) (ws:List Nat) (i:Nat):List (List Bool):=(uL ws.length).filter (H59 tbl ws i)
def flagsOf (Dn:Nat→Bool) (ws:List Nat):List Bool:=ws.map Dn
def QJ (ws:List Nat) (s:List Bool) (i:Nat):List Bool:=(ws.zip s).map fun p=>p.2||p.1==i
def QA (tb:List (List Bool×Loc)) (s:List Bool):Option Loc:=(tb.find? fun p=>p.1==s).map (·.2)
theorem rE {α:Type} (f:Nat→α):∀ ws:List Nat,ws.zip (ws.map f)=ws.map fun w=>(w,f w)
 | []=>rfl
 | w::r=>by simp [rE f r]
def YN (ops:List Oper) (ws:List Nat) (sts:List (List (List Bool))):Bool:=
 let tbl:=gF ops
 vF ops&&G54 ops tbl&&ws.all (fun w=>decide (w < ops.length))&&(List.range ops.length).all fun i=>sts.getD i []==J1a tbl ws i
def nT (p:List Bool→Prop):List (List Bool)→Prop
 | []=>True
 | s::r=>p s∧nT p r
theorem yB {p:List Bool→Prop}:∀ {ss:List (List Bool)},nT p ss→∀ s∈ss,p s
 | x::r,h,s,hs=>by
  rcases Pd.1 hs with rfl | hs
  ·exact h.1
  ·exact yB h.2 s hs

def mJ (P:Program) (N:Cfg) (ops:Array Oper) (ws:List Nat) (tb:List (List Bool×Loc)) (i:Nat) (o:Oper) (l:Fr) (u:AV) (s:List Bool):Prop:=
 ∃ L L1 L',QA tb s=some L∧QA tb (QJ ws s i)=some L'∧gC P N ops o l L u L1∧jA L1 L'
theorem mJ.ro {P:Program} {N:Cfg} {ops:Array Oper} {ws:List Nat} {tb:List (List Bool×Loc)} {i:Nat} {o:Oper} {l:Fr} {u:AV} {s:List Bool} {L:Loc} (h1:QA tb s=some L) (h2:QA tb (QJ ws s i)=some L) (h:gC P N ops o l L u L):mJ P N ops ws tb i o l u s:=⟨L,L,L,h1,h2,h,fun _=>rfl⟩
theorem mJ.w {P:Program} {N:Cfg} {ops:Array Oper} {ws:List Nat} {tb:List (List Bool×Loc)} {i:Nat} {o:Oper} {l:Fr} {u:AV} {s:List Bool} {L L1 L':Loc} (ks:List Nat) (h1:QA tb s=some L) (h2:QA tb (QJ ws s i)=some L') (h:gC P N ops o l L u L1) (k1:wU ks L1=true) (k2:wU ks L'=true) (k3:J6e L1 L' ks):mJ P N ops ws tb i o l u s:=⟨L,L1,L',h1,h2,h,jA.of ks k1 k2 k3⟩

def jS (P:Program) (N:Cfg) (ops:Array Oper) (ws:List Nat) (sts:List (List (List Bool))) (tb:List (List Bool×Loc)):Nat→List Oper→Fr→(Fr→Prop)→Prop
 | _,[],l,K=>K l
 | i,o::r,l,K=>∃ u,nT (mJ P N ops ws tb i o (cM (o.looksAt ops) l) u) (sts.getD i [])∧(match o.dst with
   | some d=>Nat.blt d N.n=true∧jS P N ops ws sts tb (i+1) r ((d,u)::l) K
   | none=>jS P N ops ws sts tb (i+1) r l K)
section pre
variable {P:Program} {N:Cfg} {ops:Array Oper} {ws:List Nat} {sts:List (List (List Bool))} {tb:List (List Bool×Loc)} {i:Nat} {o:Oper} {r:List Oper} {l:Fr} {K:Fr→Prop} {u:AV}
theorem H44 (h:K l):jS P N ops ws sts tb i [] l K:=h
theorem fE {d:Nat} (hd:o.dst=some d) (h:nT (mJ P N ops ws tb i o (cM (o.looksAt ops) l) u) (sts.getD i [])) (hk:jS P N ops ws sts tb (i+1) r ((d,u)::l) K) (hn:Nat.blt d N.n=true) :
  jS P N ops ws sts tb i (o::r) l K:=⟨u,h,by rw [hd]; exact⟨hn,hk⟩⟩
theorem Hdd (hd:o.dst=none) (h:nT (mJ P N ops ws tb i o (cM (o.looksAt ops) l) u) (sts.getD i [])) (hk:jS P N ops ws sts tb (i+1) r l K) :
  jS P N ops ws sts tb i (o::r) l K:=⟨u,h,by rw [hd]; exact hk⟩
end pre

structure H69 (P:Program) (N:Cfg) (ops:List Oper) (ws:List Nat) (sts:List (List (List Bool))) (tb:List (List Bool×Loc)) (l0:Fr) (val:Nat→AV):Prop where
 step:∀ i o,ops[i]? = some o→nT (mJ P N ops.toArray ws tb i o (cM (o.looksAt ops.toArray) (aT ops l0 val (fun _=>true) i)) (val i)) (sts.getD i [])
 lt:∀ (i:Nat) (o:Oper) (d:Tmp),ops[i]? = some o→o.dst=some d→d < N.n

theorem RX {P:Program} {N:Cfg} (ops:List Oper) (ws:List Nat) (sts:List (List (List Bool))) (tb:List (List Bool×Loc)) (l0:Fr) (K:Fr→Prop):∀ (r:List Oper) (i:Nat) (val:Nat→AV),(∀ j,r[j]? = ops[i+j]?)→i+r.length=ops.length →
  (∀ j o,j < i→ops[j]? = some o→nT (mJ P N ops.toArray ws tb j o (cM (o.looksAt ops.toArray) (aT ops l0 val (fun _=>true) j)) (val j)) (sts.getD j [])∧∀ d,o.dst=some d→d < N.n) →
  jS P N ops.toArray ws sts tb i r (aT ops l0 val (fun _=>true) i) K→∃ val',H69 P N ops ws sts tb l0 val'∧K (aT ops l0 val' (fun _=>true) ops.length)
 | [],i,val,hr,hl,hd,h=>by
  simp at hl
  subst hl
  exact⟨val,⟨fun j o ho=>(hd j o (by have:=Nt ho; exact this.1) ho).1,fun j o d ho=>(hd j o (by have:=Nt ho; exact this.1) ho).2 d⟩,h⟩
 | o::r,i,val,hr,hl,hd,h=>by
  obtain⟨u,h1,h2⟩:=h
  have ho:ops[i]? = some o:=by have:=hr 0; simpa using this.symm
  -- the value of operation i is u
  let val':Nat→AV:=fun j=>if j=i then u else val j
  have hv:∀ j,j≤i→aT ops l0 val' (fun _=>true) j=aT ops l0 val (fun _=>true) j:=by
   intro j
   induction j with
   | zero=>intro _; rfl
   | succ j ih=>
    intro hj
    have h5:j≠i:=by omega
    simp only [aT,ih (by omega),val',if_neg h5]
  have h4:val' i=u:=by simp [val']
  refine RX ops ws sts tb l0 K r (i+1) val' (fun j=>by have:=hr (j+1); simpa [Nat.add_assoc,Nat.add_comm 1 j] using this) (by simp at hl; omega) (fun j o' hj h3=>?_) ?_
  ·by_cases e:j=i
   ·subst e
    rw [ho] at h3; cases h3
    refine⟨?_,fun d h0=>?_⟩
    ·rw [hv j (Ny),h4]; exact h1
    ·rw [h0] at h2; simpa [Nat.blt_eq] using h2.1
   ·obtain⟨a1,a2⟩:=hd j o' (by omega) h3
    refine⟨?_,a2⟩
    rw [hv j (by omega),show val' j=val j by simp [val',e]]; exact a1
  ·simp only [aT,ho,Option.bind_some,if_true]
   cases h0:o.dst with
   | none=>rw [h0] at h2; simpa [hv i (Ny)] using h2
   | some d=>rw [h0] at h2; simpa [hv i (Ny),h4] using h2.2

structure H6c (P:Program) (N:Cfg) (ops:List Oper) (ws:List Nat) (tb:List (List Bool×Loc)) (l0:Fr) (val:Nat→AV) (w0:World) (β0:Gx) (L0:Loc) (listed:Array Bool) (a:Act) (w:World):Prop where
 size:listed.size=ops.length
 closed:Closed ops.toArray (fun i=>listed.getD i false)
 st:∃ β L,QA tb (flagsOf (fun i=>listed.getD i false) ws)=some L∧R4 N w0 β0 L0 a w β (aT ops l0 val (fun i=>listed.getD i false) ops.length) L

theorem H3b {P:Program} {N:Cfg} {ops:List Oper} {ws:List Nat} {sts:List (List (List Bool))} {tb:List (List Bool×Loc)} {l0:Fr} {val:Nat→AV} {ro:Option Nat} {n:Nat} (b8:∀ (i:Nat) o,ops[i]? = some o→dB o=true) (chk:YN ops ws sts=true) (pc:H69 P N ops ws sts tb l0 val) {Q:Post} {w0:World} {β0:Gx} {L0:Loc}
  (hQ:∀ L,QA tb (List.replicate ws.length true)=some L→Q.norm (aT ops l0 val (fun _=>true) ops.length) L) :
  ∀ (fuel:Nat) (listed:Array Bool) (a:Act) (w:World),unl ops.length listed≤fuel→H6c P N ops ws tb l0 val w0 β0 L0 listed a w→wpAnyIn (FR ro) n P .any ops.toArray (Q.out N w0 β0 L0) fuel listed a w:=by
 simp only [YN,P7] at chk
 obtain⟨⟨⟨a3,a6⟩,a7⟩,b4⟩:=chk
 have b0:∀ x∈ws,x < ops.length:=fun x hx=>by
  simp only [List.all_eq_true,P8] at a7; exact a7 x hx
 have anc:∀ {i z:Nat},((gF ops).getD i []).contains z=true→Anc ops.toArray i z:=fun h=>G41 (by simpa using h)
 have down:∀ i o e,ops[i]? = some o→e∈o.after→Region.binds .any e=true→e.on < i:=by
  intro i o e ho he hb
  have hi:i < ops.length:=(Nt ho).1
  simp only [vF,List.all_eq_true,List.mem_range] at a3
  have:=a3 i hi
  rw [ho] at this
  simp only [List.all_eq_true,P8] at this
  exact this e.on (Pb.2 ⟨e,Pe.2 ⟨Array.mem_toList_iff.2 he,hb⟩,rfl⟩)
 -- when nothing is ready, all is done
 have finish:∀ (listed:Array Bool) (a:Act) (w:World),H6c P N ops ws tb l0 val w0 β0 L0 listed a w→(∀ i,i < ops.length→listed.getD i false=true)→Q.out N w0 β0 L0 .normal a w:=by
  intro listed a w hs h7
  obtain⟨β,L,hL,h4⟩:=hs.st
  have e1:flagsOf (fun i=>listed.getD i false) ws=List.replicate ws.length true:=by
   refine List.eq_replicate_iff.2 ⟨by simp [flagsOf],fun b hb=>?_⟩
   obtain⟨x,hx,rfl⟩:=Pb.1 hb
   exact h7 x (b0 x hx)
  rw [e1] at hL
  rw [yE ops l0 val _ ops.length (fun j hj=>h7 j hj)] at h4
  exact⟨β,_,L,h4,hQ L hL⟩
 have stuck:∀ (listed:Array Bool),listed.size=ops.length→Region.ready .any ops.toArray listed=[]→∀ i,i < ops.length→listed.getD i false=true:=by
  intro listed c6 hr i
  induction i using Nat.strongRecOn with
  | _ i ih=>
   intro hi
   cases hd:listed.getD i false with
   | true=>rfl
   | false=>
    exfalso
    have:i∈Region.ready .any ops.toArray listed:=mem_ready.2 ⟨by rw [bB (by omega)]; exact hd,ops[i],by simp [hi],fun e he hb=>by
     have:=down i ops[i] e (by simp [hi]) he hb
     exact ih e.on this (by omega)⟩
    rw [hr] at this; cases this
 intro fuel
 induction fuel with
 | zero=>
  intro listed a w hu hs
  have h7:∀ i,i < ops.length→listed.getD i false=true:=by
   intro i hi
   cases hd:listed.getD i false with
   | true=>rfl
   | false=>
    have:i∈(List.range ops.length).filter fun i=>!listed.getD i false:=Pe.2 ⟨List.mem_range.2 hi,by rw [hd]; rfl⟩
    have h0:(List.range ops.length).filter (fun i=>!listed.getD i false)=[]:=Ni (by unfold unl at hu; omega)
    rw [h0] at this; cases this
  refine⟨?_,finish listed a w hs h7⟩
  cases hr:Region.ready .any ops.toArray listed with
  | nil=>rfl
  | cons i r=>
   have hm:i∈Region.ready .any ops.toArray listed:=by rw [hr]; simp
   obtain⟨h1,o,ho,_⟩:=mem_ready.1 hm
   have hi:i < ops.length:=by have:=(Ng ho).1; simpa using this
   rw [bB (by rw [hs.size]; exact hi),h7 i hi] at h1
   cases h1
 | succ fuel ih=>
  intro listed a w hu hs
  refine⟨fun hr=>finish listed a w hs (stuck listed hs.size hr),fun i hi=>?_⟩
  obtain⟨h1,o,ho,a4⟩:=mem_ready.1 hi
  have h6:ops[i]? = some o:=by simpa using ho
  have a0:i < ops.length:=(Nt h6).1
  have h5:listed.getD i false=false:=by rw [← bB (by rw [hs.size]; exact a0)]; exact h1
  obtain⟨β,L,hL,h4⟩:=hs.st
  have a1:∀ j,Anc ops.toArray i j→listed.getD j false=true:=fun j hj=>hj.ready hs.closed (fun o' e h8 he hb=>by
   rw [ho] at h8; cases h8; exact a4 e he hb)
  -- what a slot that operation i names has to do with the others
  have names:∀ j t,j < ops.length→j≠i→(ops[j]?).bind (·.dst)=some t→t∈fR ops.toArray o→(j < i∧Anc ops.toArray i j)∨(i < j∧Anc ops.toArray j i):=by
   intro j t hj b9 hd ht
   simp only [G54,List.all_eq_true,List.mem_range] at a6
   have:=a6 j hj
   rw [hd] at this
   simp only [List.all_eq_true,List.mem_range] at this
   have:=this i a0
   rw [h6] at this
   have hc:(fR ops.toArray o).contains t=true:=by simpa using ht
   simp only [hc,Bool.not_true,Bool.false_or,Pf,beq_iff_eq,Ne.symm b9,false_or,ordered] at this
   rcases Nm i j with h | h
   ·rw [if_pos h] at this; exact .inr ⟨h,anc this⟩
   ·rw [if_neg (by omega)] at this; exact .inl ⟨by omega,anc this⟩
  have later:∀ j t,i < j→j < ops.length→(ops[j]?).bind (·.dst)=some t→t∈fR ops.toArray o→listed.getD j false=false:=by
   intro j t c0 hj hd ht
   rcases names j t hj (by omega) hd ht with h | h
   ·omega
   ·cases hl:listed.getD j false with
    | false=>rfl
    | true=>
     have:listed.getD i false=true:=hs.closed.anc h.2 hl
     rw [this] at h5; cases h5
  have earlier:∀ j t,j < i→(ops[j]?).bind (·.dst)=some t→t∈fR ops.toArray o→listed.getD j false=true:=by
   intro j t c0 hd ht
   rcases names j t (by omega) (by omega) hd ht with h | h
   ·exact a1 j h.2
   ·omega
  -- the frame that operation i sees
  have b1:Jw a w β L (cM (o.looksAt ops.toArray) (aT ops l0 val (fun _=>true) i)):=by
   refine⟨fun t=>?_⟩
   rw [wR]
   split
   ·rename_i ht
    have hn:t∈fR ops.toArray o:=List.mem_append_right _ ht
    have hv:=h4.frame.tmp t
    rw [fU] at hv ⊢
    have e1:bO ops (fun i=>listed.getD i false) t ops.length=bO ops (fun i=>listed.getD i false) t i:=
     nU ops _ t i ops.length (by omega) (fun j h1 h2 hd=>by
      rcases Nm i j with h | h
      ·exact later j t h h2 hd hn
      ·have:j=i:=by omega
       subst this; exact h5)
    have e2:bO ops (fun i=>listed.getD i false) t i=bO ops (fun _=>true) t i:=lB ops _ _ t i (fun j hj hd=>earlier j t hj hd hn)
    rw [e1,e2] at hv
    exact hv
   ·exact .junk
  -- behind it
  let listed':=listed.setIfInBounds i true
  have h9:∀ j,listed'.getD j false=if j=i then true else listed.getD j false:=by
   intro j
   simp only [listed',Array.getD_eq_getD_getElem?,Array.getElem?_setIfInBounds]
   by_cases e:i=j
   ·subst e; simp [hs.size,a0]
   ·simp [e,Ne.symm e]
  have b2:∀ (L':Loc) (v:Value) (w':World) (β':Gx),QA tb (flagsOf (fun i=>listed'.getD i false) ws)=some L'→Sat w' β' L'→Step w β L w' β' L'→V w' β' L' (val i) v →
    wpAnyIn (FR ro) n P .any ops.toArray (Q.out N w0 β0 L0) fuel listed' (a.put o.dst v) w':=by
   intro L' v w' β' a8 b3 a2 c1
   refine ih listed' _ w' ?_ ⟨by simp [listed',hs.size],⟨fun k o2 e hk h8 he hb=>?_⟩,β',L',a8,b3,h4.step.trans a2,⟨fun t=>?_⟩,by rw [Act.put_size]; exact h4.size,h4.base,by rw [Act.put_defers']; exact h4.defers.step a2⟩
   ·-- one fewer is left
    have c5:((List.range ops.length).filter fun j=>!listed'.getD j false).length < ((List.range ops.length).filter fun j=>!listed.getD j false).length:=by
     have:(List.range ops.length).filter (fun j=>!listed'.getD j false)=((List.range ops.length).filter fun j=>!listed.getD j false).filter (fun j=>j != i):=by
      rw [List.filter_filter]
      congr 1
      funext j
      rw [h9 j]
      by_cases e:j=i <;> simp [e]
     rw [this]
     refine Nat.lt_of_le_of_ne (Nk _ _) (fun e=>?_)
     have:=List.length_filter_eq_length_iff.1 e i (Pe.2 ⟨List.mem_range.2 a0,by rw [h5]; rfl⟩)
     simp at this
    unfold unl at hu ⊢; omega
   ·rw [h9] at hk ⊢
    by_cases e':e.on=i
    ·rw [if_pos e']
    ·rw [if_neg e']
     by_cases e2:k=i
     ·subst e2
      rw [ho] at h8; cases h8
      exact a4 e he hb
     ·rw [if_neg e2] at hk
      exact hs.closed.edge k o2 e hk h8 he hb
   ·rw [fU]
    by_cases hd:o.dst=some t
    ·have hn:t∈fR ops.toArray o:=List.mem_append_left _ (by simp [hd])
     have c2:(ops[i]?).bind (·.dst)=some t:=by rw [h6]; exact hd
     have e1:bO ops (fun i=>listed'.getD i false) t ops.length=bO ops (fun i=>listed'.getD i false) t (i+1):=
      nU ops _ t (i+1) ops.length (by omega) (fun j h1 h2 a5=>by rw [h9 j,if_neg (by omega)]; exact later j t (by omega) h2 a5 hn)
     have e2:bO ops (fun i=>listed'.getD i false) t (i+1)=some i:=by simp only [bO]; rw [if_pos ⟨by rw [h9 i,if_pos rfl],c2⟩]
     rw [e1,e2,hd,uE (Nh (pc.lt i o t h6 hd) h4.size),if_pos rfl]
     exact c1
    ·have e1:bO ops (fun i=>listed'.getD i false) t ops.length=bO ops (fun i=>listed.getD i false) t ops.length:=
      lB ops _ _ t ops.length (fun j hj a5=>by
       rw [h9 j,if_neg (fun e=>hd (by subst e; rw [h6] at a5; exact a5))])
     have hv:=(h4.frame.tmp t).step a2
     rw [fU] at hv
     rw [e1]
     have e2:(a.put o.dst v).tmps.getD t undef=a.tmps.getD t undef:=by
      cases b5:o.dst with
      | none=>rfl
      | some d=>
       have c3:d < a.tmps.size:=Nh (pc.lt i o d h6 b5) h4.size
       rw [uE c3,if_neg (fun e=>hd (by rw [b5,e]))]
     rw [e2]; exact hv
  unfold wpOpIn
  rw [ho]
  have fin:(∃ L',QA tb (flagsOf (fun i=>listed'.getD i false) ws)=some L'∧gC P N ops.toArray o (cM (o.looksAt ops.toArray) (aT ops l0 val (fun _=>true) i)) L (val i) L') →
    if Region.wanted o (yielded ops.toArray a.tmps)=true then Oper.wpIn (FR ro) n P o a w (wpAnyIn (FR ro) n P .any ops.toArray (Q.out N w0 β0 L0) fuel listed') (Q.out N w0 β0 L0) else (∀ f,o.about P w a.eval=some f→(FR ro).fn f)∧wpAnyIn (FR ro) n P .any ops.toArray (Q.out N w0 β0 L0) fuel listed' (a.put o.dst undef) w:=by
   rintro⟨L',a8,hO⟩
   have:=hO a w β (wpAnyIn (FR ro) n P .any ops.toArray (Q.out N w0 β0 L0) fuel listed') (Q.out N w0 β0 L0) h4.sat b1 h4.size (fun v w' β' h1 h2 h3=>b2 L' v w' β' a8 h1 h2 h3)
   split
   ·rename_i hw; rw [if_pos hw] at this; exact jV (b8 i o h6) this
   ·rename_i hw; rw [if_neg hw] at this; exact⟨fun _ _=>trivial,this⟩
  apply fin
  have c4:=pc.step i o h6
  simp only [List.all_eq_true,List.mem_range] at b4
  have b6:=b4 i a0
  have b7:flagsOf (fun i=>listed.getD i false) ws∈sts.getD i []:=by
   rw [eq_of_beq b6]
   refine Pe.2 ⟨?_,?_⟩
   ·have:=yA (flagsOf (fun i=>listed.getD i false) ws)
    simpa [flagsOf] using this
   ·simp only [H59,flagsOf,rE,List.all_map,List.all_eq_true,Function.comp,P7,Pf,Bool.not_eq_true']
    intro x hx
    refine⟨⟨⟨?_,?_⟩,?_⟩,?_⟩
    ·cases a9:listed.getD x false with
     | false=>exact .inl rfl
     | true=>
      refine .inr fun y hy=>?_
      cases hc:((gF ops).getD x []).contains y with
      | false=>exact .inl rfl
      | true=>exact .inr (hs.closed.anc (anc hc) a9)
    ·cases hc:((gF ops).getD i []).contains x with
     | false=>exact .inl rfl
     | true=>exact .inr (a1 x (anc hc))
    ·cases hc:x==i with
     | false=>exact .inl rfl
     | true=>rw [eq_of_beq hc]; exact .inr h5
    ·cases hc:((gF ops).getD x []).contains i with
     | false=>exact .inl rfl
     | true=>
      right
      cases a9:listed.getD x false with
      | false=>rfl
      | true=>
       have:listed.getD i false=true:=hs.closed.anc (anc hc) a9
       rw [this] at h5; cases h5
  obtain⟨L1,L2,L',g1,g2,hO,hE⟩:=yB c4 _ b7
  rw [hL] at g1; cases g1
  refine⟨L',?_,hO.locEq hE⟩
  rw [← g2]
  congr 1
  simp only [QJ,flagsOf,rE,List.map_map]
  refine List.map_congr_left fun x _=>?_
  simp only [Function.comp,h9 x]
  by_cases e:x=i
  ·subst e; simp
  ·simp [e]

theorem ZL {P:Program} {N:Cfg} {ops:List Oper} {id:Nat} {Q:Post} {l:Fr} {L L':Loc} (ws:List Nat) (sts:List (List (List Bool))) (tb:List (List Bool×Loc)) (hm:P.follows .mixedOrders=true) (chk:YN ops ws sts=true) (h0:QA tb (List.replicate ws.length false)=some L) (h1:QA tb (List.replicate ws.length true)=some L')
  (h:jS P N ops.toArray ws sts tb 0 ops l (fun l'=>Q.norm l' L')) (h2:ops.all dB=true:=by rfl):JC P N (.region id ops.toArray true) Q l L:=by
 obtain⟨val,pc,hK⟩:=RX ops ws sts tb l _ ops 0 (fun _=>.junk) (fun j=>by simp) (by simp) (fun j o hj=>by omega) h
 intro n w0 β0 L0 a w β hs
 refine wpIn_region_any hm ?_
 rw [List.size_toArray]
 refine H3b (ro:=N.ro) (n:=n) (fun i o hi=>List.all_eq_true.1 h2 o (Nw hi)) chk pc (fun L'' hL''=>by rw [h1] at hL''; cases hL''; exact hK) ops.length (Array.replicate ops.length false) a _ ?_ ⟨by simp,⟨fun i o e hi=>?_⟩,β,L,?_,?_⟩
 ·exact Nat.le_trans (Nk _ _) (by simp)
 ·simp only [Array.getD_eq_getD_getElem?,Array.getElem?_replicate] at hi
  split at hi <;> simp at hi
 ·have:flagsOf (fun i=>(Array.replicate ops.length false).getD i false) ws=List.replicate ws.length false:=by
   refine List.eq_replicate_iff.2 ⟨by simp [flagsOf],fun b hb=>?_⟩
   obtain⟨x,hx,rfl⟩:=Pb.1 hb
   simp only [Array.getD_eq_getD_getElem?,Array.getElem?_replicate]; split <;> rfl
  rw [this]; exact h0
 ·have this:aT ops l val (fun i=>(Array.replicate ops.length false).getD i false) ops.length=l:=by
   have hf:(fun i=>(Array.replicate ops.length false).getD i false)=fun _=>false:=by
    funext i
    simp only [Array.getD_eq_getD_getElem?,Array.getElem?_replicate]; split <;> rfl
   rw [hf]
   have:∀ n,aT ops l val (fun _=>false) n=l:=by
    intro n
    induction n with
    | zero=>rfl
    | succ n ih=>
     cases hd:(ops[n]?).bind (·.dst) with
     | none=>simp only [aT,hd]; exact ih
     | some d=>simp only [aT,hd,Bool.false_eq_true,if_false]; exact ih
   exact this _
  rw [this]; exact hs.drew
end Go.Proofs.YthkihfoleenlmaaGreat
