/- A statement whose order is open,in which more than one opera -/
import Derived.Test.YthkihfoleenlmaaGreatMapM
namespace Go.Proofs.YthkihfoleenlmaaGreat
open Go.RowKit

def kH (L L':Loc):Prop:=∀ id,lk L id=lk L' id
theorem Sat.locEq {w:World} {β:H4} {L L':Loc} (h:Sat w β L) (e:kH L L'):Sat w β L':=by
 have hS:∀ b i,Ji w β L b i→Ji w β L' b i:=fun b i hs=>⟨hs.lt,hs.seen,fun id o ho=>hs.kept id o (by rw [e]; exact ho)⟩
 exact⟨h.hid,fun id b h1=>h.bnd id b (by rw [e]; exact h1),fun id b j h1=>h.apart id b j (by rw [e]; exact h1),fun id id' b h1 h2=>h.inj id id' b (by rw [e]; exact h1) (by rw [e]; exact h2),
  fun id o ho=>(h.obj id o (by rw [e]; exact ho)).up hS (fun id o ho=>⟨by rw [← e]; exact ho,rfl⟩)⟩
theorem Step.locEq {w w':World} {β J':H4} {L L1 L':Loc} (h:Step w β L w' J' L1) (e:kH L1 L'):Step w β L w' J' L' where
 os:=h.os
 tape:=h.tape
 output:=h.output
 size:=h.size
 hid:=h.hid
 stab:=fun b i hs=>by
  obtain⟨h1,h2⟩:=h.stab b i hs
  exact⟨⟨h1.lt,h1.seen,fun id o ho=>h1.kept id o (by rw [e]; exact ho)⟩,h2⟩
 far:=fun b hb hf=>by
  obtain⟨h1,h2⟩:=h.far b hb hf
  exact⟨h1,fun id hid=>h2 id (by rw [e]; exact hid)⟩
 box:=fun id t cs hi=>by obtain⟨h1,cs',h2⟩:=h.box id t cs hi; exact⟨h1,cs',by rw [← e]; exact h2⟩
 map:=fun id t cs hi=>by obtain⟨h1,cs',h2⟩:=h.map id t cs hi; exact⟨h1,cs',by rw [← e]; exact h2⟩
 iter:=fun id m n cs hi=>by obtain⟨h1,n',cs',h2⟩:=h.iter id m n cs hi; exact⟨h1,n',cs',by rw [← e]; exact h2⟩
 vec:=fun id t k ver xs hi=>by obtain⟨v,xs',h1,h2,h3⟩:=h.vec id t k ver xs hi; exact⟨v,xs',by rw [← e]; exact h1,h2,h3⟩
 spare:=fun id t k ver xs hi=>by obtain⟨v,xs',h1,h2,h3⟩:=h.spare id t k ver xs hi; exact⟨v,xs',by rw [← e]; exact h1,h2,h3⟩
theorem V.locEq {w:World} {β:H4} {L L':Loc} {u:AV} {v:Value} (h:V w β L u v) (e:kH L L'):V w β L' u v:=
 h.up (fun b i hs=>⟨hs.lt,hs.seen,fun id o ho=>hs.kept id o (by rw [e]; exact ho)⟩) (fun id o ho=>⟨by rw [← e]; exact ho,rfl⟩)
theorem fA.locEq {P:Program} {N:Cfg} {ops:Array Oper} {o:Oper} {l:Fr} {L L1 L':Loc} {u:AV} (h:fA P N ops o l L u L1) (e:kH L1 L'):fA P N ops o l L u L':=
 fun a w β K Q h1 h2 h3 h4=>h a w β K Q h1 h2 h3 (fun v w' J' k1 k2 k3=>h4 v w' J' (k1.locEq e) (k2.locEq e) (k3.locEq e))
def zJ (ks:List Nat):Loc→Bool
 | []=>true
 | (i,_)::r=>ks.contains i&&zJ ks r
def Je9 (L L':Loc):List Nat→Prop
 | []=>True
 | k::r=>lk L k=lk L' k/\Je9 L L' r
theorem zI {ks:List Nat} {id:Nat} (h:id ∉ ks):∀ {L:Loc},zJ ks L=true→lk L id=none
 | [],_=>rfl
 | (i,o)::r,hk=>by
  simp only [zJ,Pp] at hk
  rw [Gm,if_neg (fun e=>h (by subst e; simpa using hk.1))]
  exact zI h hk.2
theorem kH.of {L L':Loc} (ks:List Nat) (h1:zJ ks L=true) (h2:zJ ks L'=true) (h3:Je9 L L' ks):kH L L':=fun id=>by
 by_cases h:id∈ks
 .clear h1 h2
  induction ks with
  | nil=>cases h
  | cons k r ih=>
   rcases Pv.1 h with e | h
   .rw [e]; exact h3.1
   .exact ih h3.2 h
 .rw [zI h h1,zI h h2]

/-! ### The stages: which of the turning operations are done -/
def wV:Nat→List (List Bool)
 | 0=>[[]]
 | n+1=>(wV n).flatMap fun s=>[false::s,true::s]
theorem GU:∀ (s:List Bool),s∈wV s.length
 | []=>by simp [wV]
 | b::s=>by
  simp only [Pi,wV,List.mem_flatMap]
  exact⟨s,GU s,by cases b <;> simp⟩
def Hb9 (tbl:List (List Nat)) (ws:List Nat) (i:Nat) (s:List Bool):Bool:=
 (ws.zip s).all fun p=>(!p.2||(ws.zip s).all fun q=>!(tbl.getD p.1 []).contains q.1||q.2)&&(!(tbl.getD i []).contains p.1||p.2)&&(!(p.1==i)||!p.2)&&(!(tbl.getD p.1 []).contains i||!p.2)
def J8b (tbl:List (List Nat)) (ws:List Nat) (i:Nat):List (List Bool):=(wV ws.length).filter (Hb9 tbl ws i)
def flagsOf (Dn:Nat→Bool) (ws:List Nat):List Bool:=ws.map Dn
def YN (ws:List Nat) (s:List Bool) (i:Nat):List Bool:=(ws.zip s).map fun p=>p.2||p.1==i
def YB (tb:List (List Bool×Loc)) (s:List Bool):Option Loc:=(tb.find? fun p=>p.1==s).map (·.2)
theorem tK {J:Type} (f:Nat→J):∀ ws:List Nat,ws.zip (ws.map f)=ws.map fun w=>(w,f w)
 | []=>rfl
 | w::r=>by simp [tK f r]
def G1f (ops:List Oper) (ws:List Nat) (sts:List (List (List Bool))):Bool:=
 let tbl:=cS ops
 sQ ops&&G10 ops tbl&&ws.all (fun w=>decide (w < ops.length))&&(List.range ops.length).all fun i=>sts.getD i []==J8b tbl ws i
def pE (p:List Bool→Prop):List (List Bool)→Prop
 | []=>True
 | s::r=>p s/\pE p r
theorem GV {p:List Bool→Prop}:∀ {ss:List (List Bool)},pE p ss→∀ s∈ss,p s
 | x::r,h,s,hs=>by
  rcases Pv.1 hs with rfl | hs
  .exact h.1
  .exact GV h.2 s hs

def nQ (P:Program) (N:Cfg) (ops:Array Oper) (ws:List Nat) (tb:List (List Bool×Loc)) (i:Nat) (o:Oper) (l:Fr) (u:AV) (s:List Bool):Prop:=
 ∃ L L1 L',YB tb s=some L/\YB tb (YN ws s i)=some L'/\fA P N ops o l L u L1/\kH L1 L'
theorem nQ.ro {P:Program} {N:Cfg} {ops:Array Oper} {ws:List Nat} {tb:List (List Bool×Loc)} {i:Nat} {o:Oper} {l:Fr} {u:AV} {s:List Bool} {L:Loc} (h1:YB tb s=some L) (h2:YB tb (YN ws s i)=some L) (h:fA P N ops o l L u L):nQ P N ops ws tb i o l u s:=⟨L,L,L,h1,h2,h,fun _=>rfl⟩
theorem nQ.w {P:Program} {N:Cfg} {ops:Array Oper} {ws:List Nat} {tb:List (List Bool×Loc)} {i:Nat} {o:Oper} {l:Fr} {u:AV} {s:List Bool} {L L1 L':Loc} (ks:List Nat) (h1:YB tb s=some L) (h2:YB tb (YN ws s i)=some L') (h:fA P N ops o l L u L1) (k1:zJ ks L1=true) (k2:zJ ks L'=true) (k3:Je9 L1 L' ks):nQ P N ops ws tb i o l u s:=⟨L,L1,L',h1,h2,h,kH.of ks k1 k2 k3⟩

def kW (P:Program) (N:Cfg) (ops:Array Oper) (ws:List Nat) (sts:List (List (List Bool))) (tb:List (List Bool×Loc)):Nat→List Oper→Fr→(Fr→Prop)→Prop
 | _,[],l,K=>K l
 | i,o::r,l,K=>∃ u,pE (nQ P N ops ws tb i o (bH (o.looksAt ops) l) u) (sts.getD i [])/\(match o.dst with
   | some d=>Nat.blt d N.n=true/\kW P N ops ws sts tb (i+1) r ((d,u)::l) K
   | none=>kW P N ops ws sts tb (i+1) r l K)
section pre
variable {P:Program} {N:Cfg} {ops:Array Oper} {ws:List Nat} {sts:List (List (List Bool))} {tb:List (List Bool×Loc)} {i:Nat} {o:Oper} {r:List Oper} {l:Fr} {K:Fr→Prop} {u:AV}
theorem Jfa (h:K l):kW P N ops ws sts tb i [] l K:=h
theorem HG {d:Nat} (hd:o.dst=some d) (h:pE (nQ P N ops ws tb i o (bH (o.looksAt ops) l) u) (sts.getD i [])) (hk:kW P N ops ws sts tb (i+1) r ((d,u)::l) K) (hn:Nat.blt d N.n=true) :
  kW P N ops ws sts tb i (o::r) l K:=⟨u,h,by rw [hd]; exact⟨hn,hk⟩⟩
theorem J52 (hd:o.dst=none) (h:pE (nQ P N ops ws tb i o (bH (o.looksAt ops) l) u) (sts.getD i [])) (hk:kW P N ops ws sts tb (i+1) r l K) :
  kW P N ops ws sts tb i (o::r) l K:=⟨u,h,by rw [hd]; exact hk⟩
end pre

structure Hca (P:Program) (N:Cfg) (ops:List Oper) (ws:List Nat) (sts:List (List (List Bool))) (tb:List (List Bool×Loc)) (l0:Fr) (val:Nat→AV):Prop where
 step:∀ i o,ops[i]? = some o→pE (nQ P N ops.toArray ws tb i o (bH (o.looksAt ops.toArray) (Y9 ops l0 val (fun _=>true) i)) (val i)) (sts.getD i [])
 lt:∀ (i:Nat) (o:Oper) (d:Tmp),ops[i]? = some o→o.dst=some d→d < N.n

theorem G0d {P:Program} {N:Cfg} (ops:List Oper) (ws:List Nat) (sts:List (List (List Bool))) (tb:List (List Bool×Loc)) (l0:Fr) (K:Fr→Prop):∀ (r:List Oper) (i:Nat) (val:Nat→AV),(∀ j,r[j]? = ops[i+j]?)→i+r.length=ops.length →
  (∀ j o,j < i→ops[j]? = some o→pE (nQ P N ops.toArray ws tb j o (bH (o.looksAt ops.toArray) (Y9 ops l0 val (fun _=>true) j)) (val j)) (sts.getD j [])/\∀ d,o.dst=some d→d < N.n) →
  kW P N ops.toArray ws sts tb i r (Y9 ops l0 val (fun _=>true) i) K→∃ val',Hca P N ops ws sts tb l0 val'/\K (Y9 ops l0 val' (fun _=>true) ops.length)
 | [],i,val,hr,hl,hd,h=>by
  simp at hl
  subst hl
  exact⟨val,⟨fun j o ho=>(hd j o (by have:=Pa ho; exact this.1) ho).1,fun j o d ho=>(hd j o (by have:=Pa ho; exact this.1) ho).2 d⟩,h⟩
 | o::r,i,val,hr,hl,hd,h=>by
  obtain⟨u,h1,h2⟩:=h
  have ho:ops[i]? = some o:=by have:=hr 0; simpa using this.symm
  -- the value of operation i is u
  let val':Nat→AV:=fun j=>if j=i then u else val j
  have hv:∀ j,j≤i→Y9 ops l0 val' (fun _=>true) j=Y9 ops l0 val (fun _=>true) j:=by
   intro j
   induction j with
   | zero=>intro _; rfl
   | succ j ih=>
    intro hj
    have h5:j≠i:=by omega
    simp only [Y9,ih (by omega),val',if_neg h5]
  have h4:val' i=u:=by simp [val']
  refine G0d ops ws sts tb l0 K r (i+1) val' (fun j=>by have:=hr (j+1); simpa [Nat.add_assoc,Nat.add_comm 1 j] using this) (by simp at hl; omega) (fun j o' hj h3=>?_) ?_
  .by_cases e:j=i
   .subst e
    rw [ho] at h3; cases h3
    refine⟨?_,fun d h0=>?_⟩
    .rw [hv j (Pf),h4]; exact h1
    .rw [h0] at h2; simpa [Nat.blt_eq] using h2.1
   .obtain⟨a1,a2⟩:=hd j o' (by omega) h3
    refine⟨?_,a2⟩
    rw [hv j (by omega),show val' j=val j by simp [val',e]]; exact a1
  .simp only [Y9,ho,Option.bind_some,if_true]
   cases h0:o.dst with
   | none=>rw [h0] at h2; simpa [hv i (Pf)] using h2
   | some d=>rw [h0] at h2; simpa [hv i (Pf),h4] using h2.2

structure Hce (P:Program) (N:Cfg) (ops:List Oper) (ws:List Nat) (tb:List (List Bool×Loc)) (l0:Fr) (val:Nat→AV) (w0:World) (β0:H4) (L0:Loc) (listed:Array Bool) (a:Act) (w:World):Prop where
 size:listed.size=ops.length
 closed:Closed ops.toArray (fun i=>listed.getD i false)
 st:∃ β L,YB tb (flagsOf (fun i=>listed.getD i false) ws)=some L/\Ry N w0 β0 L0 a w β (Y9 ops l0 val (fun i=>listed.getD i false) ops.length) L

theorem H95 {P:Program} {N:Cfg} {ops:List Oper} {ws:List Nat} {sts:List (List (List Bool))} {tb:List (List Bool×Loc)} {l0:Fr} {val:Nat→AV} {ro:Option Nat} {n:Nat} (b8:∀ (i:Nat) o,ops[i]? = some o→dR o=true) (chk:G1f ops ws sts=true) (pc:Hca P N ops ws sts tb l0 val) {Q:Post} {w0:World} {β0:H4} {L0:Loc}
  (hQ:∀ L,YB tb (List.replicate ws.length true)=some L→Q.norm (Y9 ops l0 val (fun _=>true) ops.length) L) :
  ∀ (fuel:Nat) (listed:Array Bool) (a:Act) (w:World),unl ops.length listed≤fuel→Hce P N ops ws tb l0 val w0 β0 L0 listed a w→wpAnyIn (FR ro) n P .any ops.toArray (Q.out N w0 β0 L0) fuel listed a w:=by
 simp only [G1f,Pp] at chk
 obtain⟨⟨⟨a3,a6⟩,a7⟩,b4⟩:=chk
 have b0:∀ x∈ws,x < ops.length:=fun x hx=>by
  simp only [List.all_eq_true,Pq] at a7; exact a7 x hx
 have anc:∀ {i z:Nat},((cS ops).getD i []).contains z=true→Anc ops.toArray i z:=fun h=>JJ (by simpa using h)
 have down:∀ i o e,ops[i]? = some o→e∈o.after→Region.binds .any e=true→e.on < i:=by
  intro i o e ho he hb
  have hi:i < ops.length:=(Pa ho).1
  simp only [sQ,List.all_eq_true,List.mem_range] at a3
  have:=a3 i hi
  rw [ho] at this
  simp only [List.all_eq_true,Pq] at this
  exact this e.on (Pt.2 ⟨e,Pw.2 ⟨Array.mem_toList_iff.2 he,hb⟩,rfl⟩)
 -- when nothing is ready, all is done
 have finish:∀ (listed:Array Bool) (a:Act) (w:World),Hce P N ops ws tb l0 val w0 β0 L0 listed a w→(∀ i,i < ops.length→listed.getD i false=true)→Q.out N w0 β0 L0 .normal a w:=by
  intro listed a w hs h7
  obtain⟨β,L,hL,h4⟩:=hs.st
  have e1:flagsOf (fun i=>listed.getD i false) ws=List.replicate ws.length true:=by
   refine List.eq_replicate_iff.2 ⟨by simp [flagsOf],fun b hb=>?_⟩
   obtain⟨x,hx,rfl⟩:=Pt.1 hb
   exact h7 x (b0 x hx)
  rw [e1] at hL
  rw [wR ops l0 val _ ops.length (fun j hj=>h7 j hj)] at h4
  exact⟨β,_,L,h4,hQ L hL⟩
 have stuck:∀ (listed:Array Bool),listed.size=ops.length→Region.ready .any ops.toArray listed=[]→∀ i,i < ops.length→listed.getD i false=true:=by
  intro listed c6 hr i
  induction i using Nat.strongRecOn with
  | _ i ih=>
   intro hi
   cases hd:listed.getD i false with
   | true=>rfl
   | false=>
    exfalso
    have:i∈Region.ready .any ops.toArray listed:=mem_ready.2 ⟨by rw [Yr (by omega)]; exact hd,ops[i],by simp [hi],fun e he hb=>by
     have:=down i ops[i] e (by simp [hi]) he hb
     exact ih e.on this (by omega)⟩
    rw [hr] at this; cases this
 intro fuel
 induction fuel with
 | zero=>
  intro listed a w hu hs
  have h7:∀ i,i < ops.length→listed.getD i false=true:=by
   intro i hi
   cases hd:listed.getD i false with
   | true=>rfl
   | false=>
    have:i∈(List.range ops.length).filter fun i=>!listed.getD i false:=Pw.2 ⟨List.mem_range.2 hi,by rw [hd]; rfl⟩
    have h0:(List.range ops.length).filter (fun i=>!listed.getD i false)=[]:=P1 (by unfold unl at hu; omega)
    rw [h0] at this; cases this
  refine⟨?_,finish listed a w hs h7⟩
  cases hr:Region.ready .any ops.toArray listed with
  | nil=>rfl
  | cons i r=>
   have hm:i∈Region.ready .any ops.toArray listed:=by rw [hr]; simp
   obtain⟨h1,o,ho,_⟩:=mem_ready.1 hm
   have hi:i < ops.length:=by have:=(Nz ho).1; simpa using this
   rw [Yr (by rw [hs.size]; exact hi),h7 i hi] at h1
   cases h1
 | succ fuel ih=>
  intro listed a w hu hs
  refine⟨fun hr=>finish listed a w hs (stuck listed hs.size hr),fun i hi=>?_⟩
  obtain⟨h1,o,ho,a4⟩:=mem_ready.1 hi
  have h6:ops[i]? = some o:=by simpa using ho
  have a0:i < ops.length:=(Pa h6).1
  have h5:listed.getD i false=false:=by rw [← Yr (by rw [hs.size]; exact a0)]; exact h1
  obtain⟨β,L,hL,h4⟩:=hs.st
  have a1:∀ j,Anc ops.toArray i j→listed.getD j false=true:=fun j hj=>hj.ready hs.closed (fun o' e h8 he hb=>by
   rw [ho] at h8; cases h8; exact a4 e he hb)
  -- what a slot that operation i names has to do with the others
  have names:∀ j t,j < ops.length→j≠i→(ops[j]?).bind (·.dst)=some t→t∈cR ops.toArray o→(j < i/\Anc ops.toArray i j)\/(i < j/\Anc ops.toArray j i):=by
   intro j t hj b9 hd ht
   simp only [G10,List.all_eq_true,List.mem_range] at a6
   have:=a6 j hj
   rw [hd] at this
   simp only [List.all_eq_true,List.mem_range] at this
   have:=this i a0
   rw [h6] at this
   have hc:(cR ops.toArray o).contains t=true:=by simpa using ht
   simp only [hc,Bool.not_true,Bool.false_or,Px,beq_iff_eq,Ne.symm b9,false_or,ordered] at this
   rcases P4 i j with h | h
   .rw [if_pos h] at this; exact .inr ⟨h,anc this⟩
   .rw [if_neg (by omega)] at this; exact .inl ⟨by omega,anc this⟩
  have later:∀ j t,i < j→j < ops.length→(ops[j]?).bind (·.dst)=some t→t∈cR ops.toArray o→listed.getD j false=false:=by
   intro j t c0 hj hd ht
   rcases names j t hj (by omega) hd ht with h | h
   .omega
   .cases hl:listed.getD j false with
    | false=>rfl
    | true=>
     have:listed.getD i false=true:=hs.closed.anc h.2 hl
     rw [this] at h5; cases h5
  have earlier:∀ j t,j < i→(ops[j]?).bind (·.dst)=some t→t∈cR ops.toArray o→listed.getD j false=true:=by
   intro j t c0 hd ht
   rcases names j t (by omega) (by omega) hd ht with h | h
   .exact a1 j h.2
   .omega
  -- the frame that operation i sees
  have b1:Jx a w β L (bH (o.looksAt ops.toArray) (Y9 ops l0 val (fun _=>true) i)):=by
   refine⟨fun t=>?_⟩
   rw [uM]
   split
   .rename_i ht
    have hn:t∈cR ops.toArray o:=List.mem_append_right _ ht
    have hv:=h4.frame.tmp t
    rw [dU] at hv ⊢
    have e1:Yw ops (fun i=>listed.getD i false) t ops.length=Yw ops (fun i=>listed.getD i false) t i:=
     jO ops _ t i ops.length (by omega) (fun j h1 h2 hd=>by
      rcases P4 i j with h | h
      .exact later j t h h2 hd hn
      .have:j=i:=by omega
       subst this; exact h5)
    have e2:Yw ops (fun i=>listed.getD i false) t i=Yw ops (fun _=>true) t i:=gQ ops _ _ t i (fun j hj hd=>earlier j t hj hd hn)
    rw [e1,e2] at hv
    exact hv
   .exact .junk
  -- behind it
  let listed':=listed.setIfInBounds i true
  have h9:∀ j,listed'.getD j false=if j=i then true else listed.getD j false:=by
   intro j
   simp only [listed',Array.getD_eq_getD_getElem?,Array.getElem?_setIfInBounds]
   by_cases e:i=j
   .subst e; simp [hs.size,a0]
   .simp [e,Ne.symm e]
  have b2:∀ (L':Loc) (v:Value) (w':World) (J':H4),YB tb (flagsOf (fun i=>listed'.getD i false) ws)=some L'→Sat w' J' L'→Step w β L w' J' L'→V w' J' L' (val i) v →
    wpAnyIn (FR ro) n P .any ops.toArray (Q.out N w0 β0 L0) fuel listed' (a.put o.dst v) w':=by
   intro L' v w' J' a8 b3 a2 c1
   refine ih listed' _ w' ?_ ⟨by simp [listed',hs.size],⟨fun k o2 e hk h8 he hb=>?_⟩,J',L',a8,b3,h4.step.trans a2,⟨fun t=>?_⟩,by rw [Act.put_size]; exact h4.size,h4.base,by rw [Act.put_defers']; exact h4.defers.step a2⟩
   ·-- one fewer is left
    have c5:((List.range ops.length).filter fun j=>!listed'.getD j false).length < ((List.range ops.length).filter fun j=>!listed.getD j false).length:=by
     have:(List.range ops.length).filter (fun j=>!listed'.getD j false)=((List.range ops.length).filter fun j=>!listed.getD j false).filter (fun j=>j != i):=by
      rw [List.filter_filter]
      congr 1
      funext j
      rw [h9 j]
      by_cases e:j=i <;> simp [e]
     rw [this]
     refine Nat.lt_of_le_of_ne (P3 _ _) (fun e=>?_)
     have:=List.length_filter_eq_length_iff.1 e i (Pw.2 ⟨List.mem_range.2 a0,by rw [h5]; rfl⟩)
     simp at this
    unfold unl at hu ⊢; omega
   .rw [h9] at hk ⊢
    by_cases e':e.on=i
    .rw [if_pos e']
    .rw [if_neg e']
     by_cases e2:k=i
     .subst e2
      rw [ho] at h8; cases h8
      exact a4 e he hb
     .rw [if_neg e2] at hk
      exact hs.closed.edge k o2 e hk h8 he hb
   .rw [dU]
    by_cases hd:o.dst=some t
    .have hn:t∈cR ops.toArray o:=List.mem_append_left _ (by simp [hd])
     have c2:(ops[i]?).bind (·.dst)=some t:=by rw [h6]; exact hd
     have e1:Yw ops (fun i=>listed'.getD i false) t ops.length=Yw ops (fun i=>listed'.getD i false) t (i+1):=
      jO ops _ t (i+1) ops.length (by omega) (fun j h1 h2 a5=>by rw [h9 j,if_neg (by omega)]; exact later j t (by omega) h2 a5 hn)
     have e2:Yw ops (fun i=>listed'.getD i false) t (i+1)=some i:=by simp only [Yw]; rw [if_pos ⟨by rw [h9 i,if_pos rfl],c2⟩]
     rw [e1,e2,hd,pJ (P0 (pc.lt i o t h6 hd) h4.size),if_pos rfl]
     exact c1
    .have e1:Yw ops (fun i=>listed'.getD i false) t ops.length=Yw ops (fun i=>listed.getD i false) t ops.length:=
      gQ ops _ _ t ops.length (fun j hj a5=>by
       rw [h9 j,if_neg (fun e=>hd (by subst e; rw [h6] at a5; exact a5))])
     have hv:=(h4.frame.tmp t).step a2
     rw [dU] at hv
     rw [e1]
     have e2:(a.put o.dst v).tmps.getD t undef=a.tmps.getD t undef:=by
      cases b5:o.dst with
      | none=>rfl
      | some d=>
       have c3:d < a.tmps.size:=P0 (pc.lt i o d h6 b5) h4.size
       rw [pJ c3,if_neg (fun e=>hd (by rw [b5,e]))]
     rw [e2]; exact hv
  unfold wpOpIn
  rw [ho]
  have fin:(∃ L',YB tb (flagsOf (fun i=>listed'.getD i false) ws)=some L'/\fA P N ops.toArray o (bH (o.looksAt ops.toArray) (Y9 ops l0 val (fun _=>true) i)) L (val i) L') →
    if Region.wanted o (yielded ops.toArray a.tmps)=true then Oper.wpIn (FR ro) n P o a w (wpAnyIn (FR ro) n P .any ops.toArray (Q.out N w0 β0 L0) fuel listed') (Q.out N w0 β0 L0) else (∀ f,o.about P w a.eval=some f→(FR ro).fn f)/\wpAnyIn (FR ro) n P .any ops.toArray (Q.out N w0 β0 L0) fuel listed' (a.put o.dst undef) w:=by
   rintro⟨L',a8,hO⟩
   have:=hO a w β (wpAnyIn (FR ro) n P .any ops.toArray (Q.out N w0 β0 L0) fuel listed') (Q.out N w0 β0 L0) h4.sat b1 h4.size (fun v w' J' h1 h2 h3=>b2 L' v w' J' a8 h1 h2 h3)
   split
   .rename_i hw; rw [if_pos hw] at this; exact gM (b8 i o h6) this
   .rename_i hw; rw [if_neg hw] at this; exact⟨fun _ _=>trivial,this⟩
  apply fin
  have c4:=pc.step i o h6
  simp only [List.all_eq_true,List.mem_range] at b4
  have b6:=b4 i a0
  have b7:flagsOf (fun i=>listed.getD i false) ws∈sts.getD i []:=by
   rw [eq_of_beq b6]
   refine Pw.2 ⟨?_,?_⟩
   .have:=GU (flagsOf (fun i=>listed.getD i false) ws)
    simpa [flagsOf] using this
   .simp only [Hb9,flagsOf,tK,List.all_map,List.all_eq_true,Function.comp,Pp,Px,Bool.not_eq_true']
    intro x hx
    refine⟨⟨⟨?_,?_⟩,?_⟩,?_⟩
    .cases a9:listed.getD x false with
     | false=>exact .inl rfl
     | true=>
      refine .inr fun y hy=>?_
      cases hc:((cS ops).getD x []).contains y with
      | false=>exact .inl rfl
      | true=>exact .inr (hs.closed.anc (anc hc) a9)
    .cases hc:((cS ops).getD i []).contains x with
     | false=>exact .inl rfl
     | true=>exact .inr (a1 x (anc hc))
    .cases hc:x==i with
     | false=>exact .inl rfl
     | true=>rw [eq_of_beq hc]; exact .inr h5
    .cases hc:((cS ops).getD x []).contains i with
     | false=>exact .inl rfl
     | true=>
      right
      cases a9:listed.getD x false with
      | false=>rfl
      | true=>
       have:listed.getD i false=true:=hs.closed.anc (anc hc) a9
       rw [this] at h5; cases h5
  obtain⟨L1,L2,L',g1,g2,hO,hE⟩:=GV c4 _ b7
  rw [hL] at g1; cases g1
  refine⟨L',?_,hO.locEq hE⟩
  rw [← g2]
  congr 1
  simp only [YN,flagsOf,tK,List.map_map]
  refine List.map_congr_left fun x _=>?_
  simp only [Function.comp,h9 x]
  by_cases e:x=i
  .subst e; simp
  .simp [e]

theorem J4e {P:Program} {N:Cfg} {ops:List Oper} {id:Nat} {Q:Post} {l:Fr} {L L':Loc} (ws:List Nat) (sts:List (List (List Bool))) (tb:List (List Bool×Loc)) (hm:P.follows .mixedOrders=true) (chk:G1f ops ws sts=true) (h0:YB tb (List.replicate ws.length false)=some L) (h1:YB tb (List.replicate ws.length true)=some L')
  (h:kW P N ops.toArray ws sts tb 0 ops l (fun l'=>Q.norm l' L')) (h2:ops.all dR=true:=by rfl):JC P N (.region id ops.toArray true) Q l L:=by
 obtain⟨val,pc,hK⟩:=G0d ops ws sts tb l _ ops 0 (fun _=>.junk) (fun j=>by simp) (by simp) (fun j o hj=>by omega) h
 intro n w0 β0 L0 a w β hs
 refine wpIn_region_any hm ?_
 rw [List.size_toArray]
 refine H95 (ro:=N.ro) (n:=n) (fun i o hi=>List.all_eq_true.1 h2 o (Pd hi)) chk pc (fun L'' hL''=>by rw [h1] at hL''; cases hL''; exact hK) ops.length (Array.replicate ops.length false) a _ ?_ ⟨by simp,⟨fun i o e hi=>?_⟩,β,L,?_,?_⟩
 .exact Nat.le_trans (P3 _ _) (by simp)
 .simp only [Array.getD_eq_getD_getElem?,Array.getElem?_replicate] at hi
  split at hi <;> simp at hi
 .have:flagsOf (fun i=>(Array.replicate ops.length false).getD i false) ws=List.replicate ws.length false:=by
   refine List.eq_replicate_iff.2 ⟨by simp [flagsOf],fun b hb=>?_⟩
   obtain⟨x,hx,rfl⟩:=Pt.1 hb
   simp only [Array.getD_eq_getD_getElem?,Array.getElem?_replicate]; split <;> rfl
  rw [this]; exact h0
 .have this:Y9 ops l val (fun i=>(Array.replicate ops.length false).getD i false) ops.length=l:=by
   have hf:(fun i=>(Array.replicate ops.length false).getD i false)=fun _=>false:=by
    funext i
    simp only [Array.getD_eq_getD_getElem?,Array.getElem?_replicate]; split <;> rfl
   rw [hf]
   have:∀ n,Y9 ops l val (fun _=>false) n=l:=by
    intro n
    induction n with
    | zero=>rfl
    | succ n ih=>
     cases hd:(ops[n]?).bind (·.dst) with
     | none=>simp only [Y9,hd]; exact ih
     | some d=>simp only [Y9,hd,Bool.false_eq_true,if_false]; exact ih
   exact this _
  rw [this]; exact hs.drew
end Go.Proofs.YthkihfoleenlmaaGreat
