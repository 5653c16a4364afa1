/-
 A statement whose order is open,in which more than one opera Slices of the call's own,sorted in place by the library. slices.SortFunc in a model. Slices of whole numbers of the call's own,sorted in place by slices.SortFunc of whole numbers,by a comparison that parts
-/
import Derived.Test.YtokjlondbjdlfaaGreatMapM
import Derived.Shelf.SlSortCmp.WholeK
import Derived.Shelf.SlSortCmp.Kit1
namespace Go.Proofs.YtokjlondbjdlfaaGreat
open Go.RowKit

def G7b (L L':Loc):Prop:=∀ id,lk L id=lk L' id
theorem Sat.locEq {w:World} {β:Gx} {L L':Loc} (h:Sat w β L) (e:G7b L L'):Sat w β L':=by
 have hS:∀ b i,J5 w β L b i→J5 w β L' b i:=fun b i hs=>⟨hs.lt,hs.seen,fun id o ho=>hs.kept id o (by rw [e]; exact ho)⟩
 exact⟨h.hid,fun id b h1=>h.bnd id b (by rw [e]; exact h1),fun id b j h1=>h.apart id b j (by rw [e]; exact h1),fun id id' b h1 h2=>h.inj id id' b (by rw [e]; exact h1) (by rw [e]; exact h2),
  fun id o ho=>(h.obj id o (by rw [e]; exact ho)).up hS (fun id o ho=>⟨by rw [← e]; exact ho,rfl⟩)⟩
theorem Step.locEq {w w':World} {β β':Gx} {L L1 L':Loc} (h:Step w β L w' β' L1) (e:G7b L1 L'):Step w β L w' β' L' where
 os:=h.os
 tape:=h.tape
 output:=h.output
 size:=h.size
 hid:=h.hid
 stab:=fun b i hs=>by
  obtain⟨h1,h2⟩:=h.stab b i hs
  exact⟨⟨h1.lt,h1.seen,fun id o ho=>h1.kept id o (by rw [e]; exact ho)⟩,h2⟩
 far:=fun b hb hf=>by
  obtain⟨h1,h2⟩:=h.far b hb hf
  exact⟨h1,fun id hid=>h2 id (by rw [e]; exact hid)⟩
 box:=fun id t cs hi=>by obtain⟨h1,cs',h2⟩:=h.box id t cs hi; exact⟨h1,cs',by rw [← e]; exact h2⟩
 map:=fun id t cs hi=>by obtain⟨h1,cs',h2⟩:=h.map id t cs hi; exact⟨h1,cs',by rw [← e]; exact h2⟩
 iter:=fun id m n cs hi=>by obtain⟨h1,n',cs',h2⟩:=h.iter id m n cs hi; exact⟨h1,n',cs',by rw [← e]; exact h2⟩
 vec:=fun id t k ver xs hi=>by obtain⟨v,xs',h1,h2,h3⟩:=h.vec id t k ver xs hi; exact⟨v,xs',by rw [← e]; exact h1,h2,h3⟩
 spare:=fun id t k ver xs hi=>by obtain⟨v,xs',h1,h2,h3⟩:=h.spare id t k ver xs hi; exact⟨v,xs',by rw [← e]; exact h1,h2,h3⟩
theorem V.locEq {w:World} {β:Gx} {L L':Loc} {u:AV} {v:Value} (h:V w β L u v) (e:G7b L L'):V w β L' u v:=
 h.up (fun b i hs=>⟨hs.lt,hs.seen,fun id o ho=>hs.kept id o (by rw [e]; exact ho)⟩) (fun id o ho=>⟨by rw [← e]; exact ho,rfl⟩)
theorem G0d.locEq {P:Program} {N:Cfg} {ops:Array Oper} {o:Oper} {l:Fr} {L L1 L':Loc} {u:AV} (h:G0d P N ops o l L u L1) (e:G7b L1 L'):G0d P N ops o l L u L':=
 fun a w β K Q h1 h2 h3 h4=>h a w β K Q h1 h2 h3 (fun v w' β' k1 k2 k3=>h4 v w' β' (k1.locEq e) (k2.locEq e) (k3.locEq e))
def H8a (ks:List Nat):Loc→Bool
 | []=>true
 | (i,_)::r=>ks.contains i&&H8a ks r
def R82 (L L':Loc):List Nat→Prop
 | []=>True
 | k::r=>lk L k=lk L' k∧R82 L L' r
theorem H89 {ks:List Nat} {id:Nat} (h:id ∉ ks):∀ {L:Loc},H8a ks L=true→lk L id=none
 | [],_=>rfl
 | (i,o)::r,hk=>by
  simp only [H8a,Kk] at hk
  rw [G9,if_neg (fun e=>h (by subst e; simpa using hk.1))]
  exact H89 h hk.2
theorem G7b.of {L L':Loc} (ks:List Nat) (h1:H8a ks L=true) (h2:H8a ks L'=true) (h3:R82 L L' ks):G7b L L':=fun id=>by
 by_cases h:id∈ks
 ·clear h1 h2
  induction ks with
  | nil=>cases h
  | cons k r ih=>
   rcases Kr.1 h with e | h
   ·rw [e]; exact h3.1
   ·exact ih h3.2 h
 ·rw [H89 h h1,H89 h h2]

/-! ### The stages: which of the turning operations are done -/
def H41:Nat→List (List Bool)
 | 0=>[[]]
 | n+1=>(H41 n).flatMap fun s=>[false::s,true::s]
theorem Hac:∀ (s:List Bool),s∈H41 s.length
 | []=>by simp [H41]
 | b::s=>by
  simp only [Ke,H41,List.mem_flatMap]
  exact⟨s,Hac s,by cases b <;> simp⟩
def Q65 (tbl:List (List Nat)) (ws:List Nat) (i:Nat) (s:List Bool):Bool:=
 (ws.zip s).all fun p=>(!p.2||(ws.zip s).all fun q=>!(tbl.getD p.1 []).contains q.1||q.2)&&(!(tbl.getD i []).contains p.1||p.2)&&(!(p.1==i)||!p.2)&&(!(tbl.getD p.1 []).contains i||!p.2)
def R1d (tbl:List (List Nat)) (ws:List Nat) (i:Nat):List (List Bool):=(H41 ws.length).filter (Q65 tbl ws i)
def flagsOf (Dn:Nat→Bool) (ws:List Nat):List Bool:=ws.map Dn
def Hf9 (ws:List Nat) (s:List Bool) (i:Nat):List Bool:=(ws.zip s).map fun p=>p.2||p.1==i
def Hb0 (tb:List (List Bool×Loc)) (s:List Bool):Option Loc:=(tb.find? fun p=>p.1==s).map (·.2)
theorem Gff {α:Type} (f:Nat→α):∀ ws:List Nat,ws.zip (ws.map f)=ws.map fun w=>(w,f w)
 | []=>rfl
 | w::r=>by simp [Gff f r]
def Hb5 (ops:List Oper) (ws:List Nat) (sts:List (List (List Bool))):Bool:=
 let tbl:=G4c ops
 H5e ops&&J95 ops tbl&&ws.all (fun w=>decide (w < ops.length))&&(List.range ops.length).all fun i=>sts.getD i []==R1d tbl ws i
def G74 (p:List Bool→Prop):List (List Bool)→Prop
 | []=>True
 | s::r=>p s∧G74 p r
theorem Haf {p:List Bool→Prop}:∀ {ss:List (List Bool)},G74 p ss→∀ s∈ss,p s
 | x::r,h,s,hs=>by
  rcases Kr.1 hs with rfl | hs
  ·exact h.1
  ·exact Haf h.2 s hs

def G76 (P:Program) (N:Cfg) (ops:Array Oper) (ws:List Nat) (tb:List (List Bool×Loc)) (i:Nat) (o:Oper) (l:Fr) (u:AV) (s:List Bool):Prop:=
 ∃ L L1 L',Hb0 tb s=some L∧Hb0 tb (Hf9 ws s i)=some L'∧G0d P N ops o l L u L1∧G7b L1 L'
theorem G76.ro {P:Program} {N:Cfg} {ops:Array Oper} {ws:List Nat} {tb:List (List Bool×Loc)} {i:Nat} {o:Oper} {l:Fr} {u:AV} {s:List Bool} {L:Loc} (h1:Hb0 tb s=some L) (h2:Hb0 tb (Hf9 ws s i)=some L) (h:G0d P N ops o l L u L):G76 P N ops ws tb i o l u s:=⟨L,L,L,h1,h2,h,fun _=>rfl⟩
theorem G76.w {P:Program} {N:Cfg} {ops:Array Oper} {ws:List Nat} {tb:List (List Bool×Loc)} {i:Nat} {o:Oper} {l:Fr} {u:AV} {s:List Bool} {L L1 L':Loc} (ks:List Nat) (h1:Hb0 tb s=some L) (h2:Hb0 tb (Hf9 ws s i)=some L') (h:G0d P N ops o l L u L1) (k1:H8a ks L1=true) (k2:H8a ks L'=true) (k3:R82 L1 L' ks):G76 P N ops ws tb i o l u s:=⟨L,L1,L',h1,h2,h,G7b.of ks k1 k2 k3⟩

def G16 (P:Program) (N:Cfg) (ops:Array Oper) (ws:List Nat) (sts:List (List (List Bool))) (tb:List (List Bool×Loc)):Nat→List Oper→Fr→(Fr→Prop)→Prop
 | _,[],l,K=>K l
 | i,o::r,l,K=>∃ u,G74 (G76 P N ops ws tb i o (Zz (o.looksAt ops) l) u) (sts.getD i [])∧(match o.dst with
   | some d=>Nat.blt d N.n=true∧G16 P N ops ws sts tb (i+1) r ((d,u)::l) K
   | none=>G16 P N ops ws sts tb (i+1) r l K)
section pre
variable {P:Program} {N:Cfg} {ops:Array Oper} {ws:List Nat} {sts:List (List (List Bool))} {tb:List (List Bool×Loc)} {i:Nat} {o:Oper} {r:List Oper} {l:Fr} {K:Fr→Prop} {u:AV}
theorem R94 (h:K l):G16 P N ops ws sts tb i [] l K:=h
theorem Ga8 {d:Nat} (hd:o.dst=some d) (h:G74 (G76 P N ops ws tb i o (Zz (o.looksAt ops) l) u) (sts.getD i [])) (hk:G16 P N ops ws sts tb (i+1) r ((d,u)::l) K) (hn:Nat.blt d N.n=true) :
  G16 P N ops ws sts tb i (o::r) l K:=⟨u,h,by rw [hd]; exact⟨hn,hk⟩⟩
theorem R95 (hd:o.dst=none) (h:G74 (G76 P N ops ws tb i o (Zz (o.looksAt ops) l) u) (sts.getD i [])) (hk:G16 P N ops ws sts tb (i+1) r l K) :
  G16 P N ops ws sts tb i (o::r) l K:=⟨u,h,by rw [hd]; exact hk⟩
end pre

structure Q7a (P:Program) (N:Cfg) (ops:List Oper) (ws:List Nat) (sts:List (List (List Bool))) (tb:List (List Bool×Loc)) (l0:Fr) (val:Nat→AV):Prop where
 step:∀ i o,ops[i]? = some o→G74 (G76 P N ops.toArray ws tb i o (Zz (o.looksAt ops.toArray) (Y5 ops l0 val (fun _=>true) i)) (val i)) (sts.getD i [])
 lt:∀ (i:Nat) (o:Oper) (d:Tmp),ops[i]? = some o→o.dst=some d→d < N.n

theorem H87 {P:Program} {N:Cfg} (ops:List Oper) (ws:List Nat) (sts:List (List (List Bool))) (tb:List (List Bool×Loc)) (l0:Fr) (K:Fr→Prop):∀ (r:List Oper) (i:Nat) (val:Nat→AV),(∀ j,r[j]? = ops[i+j]?)→i+r.length=ops.length →
  (∀ j o,j < i→ops[j]? = some o→G74 (G76 P N ops.toArray ws tb j o (Zz (o.looksAt ops.toArray) (Y5 ops l0 val (fun _=>true) j)) (val j)) (sts.getD j [])∧∀ d,o.dst=some d→d < N.n) →
  G16 P N ops.toArray ws sts tb i r (Y5 ops l0 val (fun _=>true) i) K→∃ val',Q7a P N ops ws sts tb l0 val'∧K (Y5 ops l0 val' (fun _=>true) ops.length)
 | [],i,val,hr,hl,hd,h=>by
  simp at hl
  subst hl
  exact⟨val,⟨fun j o ho=>(hd j o (by have:=Ex ho; exact this.1) ho).1,fun j o d ho=>(hd j o (by have:=Ex ho; exact this.1) ho).2 d⟩,h⟩
 | o::r,i,val,hr,hl,hd,h=>by
  obtain⟨u,h1,h2⟩:=h
  have ho:ops[i]? = some o:=by have:=hr 0; simpa using this.symm
  -- the value of operation i is u
  let val':Nat→AV:=fun j=>if j=i then u else val j
  have hv:∀ j,j≤i→Y5 ops l0 val' (fun _=>true) j=Y5 ops l0 val (fun _=>true) j:=by
   intro j
   induction j with
   | zero=>intro _; rfl
   | succ j ih=>
    intro hj
    have h5:j≠i:=by omega
    simp only [Y5,ih (by omega),val',if_neg h5]
  have h4:val' i=u:=by simp [val']
  refine H87 ops ws sts tb l0 K r (i+1) val' (fun j=>by have:=hr (j+1); simpa [Nat.add_assoc,Nat.add_comm 1 j] using this) (by simp at hl; omega) (fun j o' hj h3=>?_) ?_
  ·by_cases e:j=i
   ·subst e
    rw [ho] at h3; cases h3
    refine⟨?_,fun d h0=>?_⟩
    ·rw [hv j (Kb),h4]; exact h1
    ·rw [h0] at h2; simpa [Nat.blt_eq] using h2.1
   ·obtain⟨a1,a2⟩:=hd j o' (by omega) h3
    refine⟨?_,a2⟩
    rw [hv j (by omega),show val' j=val j by simp [val',e]]; exact a1
  ·simp only [Y5,ho,Option.bind_some,if_true]
   cases h0:o.dst with
   | none=>rw [h0] at h2; simpa [hv i (Kb)] using h2
   | some d=>rw [h0] at h2; simpa [hv i (Kb),h4] using h2.2

structure Q7f (P:Program) (N:Cfg) (ops:List Oper) (ws:List Nat) (tb:List (List Bool×Loc)) (l0:Fr) (val:Nat→AV) (w0:World) (β0:Gx) (L0:Loc) (listed:Array Bool) (a:Act) (w:World):Prop where
 size:listed.size=ops.length
 closed:Closed ops.toArray (fun i=>listed.getD i false)
 st:∃ β L,Hb0 tb (flagsOf (fun i=>listed.getD i false) ws)=some L∧Jy N w0 β0 L0 a w β (Y5 ops l0 val (fun i=>listed.getD i false) ops.length) L

theorem J33 {P:Program} {N:Cfg} {ops:List Oper} {ws:List Nat} {sts:List (List (List Bool))} {tb:List (List Bool×Loc)} {l0:Fr} {val:Nat→AV} {ro:Option Nat} {n:Nat} (b8:∀ (i:Nat) o,ops[i]? = some o→Zu o=true) (chk:Hb5 ops ws sts=true) (pc:Q7a P N ops ws sts tb l0 val) {Q:Post} {w0:World} {β0:Gx} {L0:Loc}
  (hQ:∀ L,Hb0 tb (List.replicate ws.length true)=some L→Q.norm (Y5 ops l0 val (fun _=>true) ops.length) L) :
  ∀ (fuel:Nat) (listed:Array Bool) (a:Act) (w:World),unl ops.length listed≤fuel→Q7f P N ops ws tb l0 val w0 β0 L0 listed a w→wpAnyIn (FR ro) n P .any ops.toArray (Q.out N w0 β0 L0) fuel listed a w:=by
 simp only [Hb5,Kk] at chk
 obtain⟨⟨⟨a3,a6⟩,a7⟩,b4⟩:=chk
 have b0:∀ x∈ws,x < ops.length:=fun x hx=>by
  simp only [List.all_eq_true,Km] at a7; exact a7 x hx
 have anc:∀ {i z:Nat},((G4c ops).getD i []).contains z=true→Anc ops.toArray i z:=fun h=>J81 (by simpa using h)
 have down:∀ i o e,ops[i]? = some o→e∈o.after→Region.binds .any e=true→e.on < i:=by
  intro i o e ho he hb
  have hi:i < ops.length:=(Ex ho).1
  simp only [H5e,List.all_eq_true,List.mem_range] at a3
  have:=a3 i hi
  rw [ho] at this
  simp only [List.all_eq_true,Km] at this
  exact this e.on (Kp.2 ⟨e,Ks.2 ⟨Array.mem_toList_iff.2 he,hb⟩,rfl⟩)
 -- when nothing is ready, all is done
 have finish:∀ (listed:Array Bool) (a:Act) (w:World),Q7f P N ops ws tb l0 val w0 β0 L0 listed a w→(∀ i,i < ops.length→listed.getD i false=true)→Q.out N w0 β0 L0 .normal a w:=by
  intro listed a w hs h7
  obtain⟨β,L,hL,h4⟩:=hs.st
  have e1:flagsOf (fun i=>listed.getD i false) ws=List.replicate ws.length true:=by
   refine List.eq_replicate_iff.2 ⟨by simp [flagsOf],fun b hb=>?_⟩
   obtain⟨x,hx,rfl⟩:=Kp.1 hb
   exact h7 x (b0 x hx)
  rw [e1] at hL
  rw [Hb1 ops l0 val _ ops.length (fun j hj=>h7 j hj)] at h4
  exact⟨β,_,L,h4,hQ L hL⟩
 have stuck:∀ (listed:Array Bool),listed.size=ops.length→Region.ready .any ops.toArray listed=[]→∀ i,i < ops.length→listed.getD i false=true:=by
  intro listed c6 hr i
  induction i using Nat.strongRecOn with
  | _ i ih=>
   intro hi
   cases hd:listed.getD i false with
   | true=>rfl
   | false=>
    exfalso
    have:i∈Region.ready .any ops.toArray listed:=mem_ready.2 ⟨by rw [Z4 (by omega)]; exact hd,ops[i],by simp [hi],fun e he hb=>by
     have:=down i ops[i] e (by simp [hi]) he hb
     exact ih e.on this (by omega)⟩
    rw [hr] at this; cases this
 intro fuel
 induction fuel with
 | zero=>
  intro listed a w hu hs
  have h7:∀ i,i < ops.length→listed.getD i false=true:=by
   intro i hi
   cases hd:listed.getD i false with
   | true=>rfl
   | false=>
    have:i∈(List.range ops.length).filter fun i=>!listed.getD i false:=Ks.2 ⟨List.mem_range.2 hi,by rw [hd]; rfl⟩
    have h0:(List.range ops.length).filter (fun i=>!listed.getD i false)=[]:=Em (by unfold unl at hu; omega)
    rw [h0] at this; cases this
  refine⟨?_,finish listed a w hs h7⟩
  cases hr:Region.ready .any ops.toArray listed with
  | nil=>rfl
  | cons i r=>
   have hm:i∈Region.ready .any ops.toArray listed:=by rw [hr]; simp
   obtain⟨h1,o,ho,_⟩:=mem_ready.1 hm
   have hi:i < ops.length:=by have:=(Ej ho).1; simpa using this
   rw [Z4 (by rw [hs.size]; exact hi),h7 i hi] at h1
   cases h1
 | succ fuel ih=>
  intro listed a w hu hs
  refine⟨fun hr=>finish listed a w hs (stuck listed hs.size hr),fun i hi=>?_⟩
  obtain⟨h1,o,ho,a4⟩:=mem_ready.1 hi
  have h6:ops[i]? = some o:=by simpa using ho
  have a0:i < ops.length:=(Ex h6).1
  have h5:listed.getD i false=false:=by rw [← Z4 (by rw [hs.size]; exact a0)]; exact h1
  obtain⟨β,L,hL,h4⟩:=hs.st
  have a1:∀ j,Anc ops.toArray i j→listed.getD j false=true:=fun j hj=>hj.ready hs.closed (fun o' e h8 he hb=>by
   rw [ho] at h8; cases h8; exact a4 e he hb)
  -- what a slot that operation i names has to do with the others
  have names:∀ j t,j < ops.length→j≠i→(ops[j]?).bind (·.dst)=some t→t∈G46 ops.toArray o→(j < i∧Anc ops.toArray i j)∨(i < j∧Anc ops.toArray j i):=by
   intro j t hj b9 hd ht
   simp only [J95,List.all_eq_true,List.mem_range] at a6
   have:=a6 j hj
   rw [hd] at this
   simp only [List.all_eq_true,List.mem_range] at this
   have:=this i a0
   rw [h6] at this
   have hc:(G46 ops.toArray o).contains t=true:=by simpa using ht
   simp only [hc,Bool.not_true,Bool.false_or,Kt,beq_iff_eq,Ne.symm b9,false_or,ordered] at this
   rcases Ep i j with h | h
   ·rw [if_pos h] at this; exact .inr ⟨h,anc this⟩
   ·rw [if_neg (by omega)] at this; exact .inl ⟨by omega,anc this⟩
  have later:∀ j t,i < j→j < ops.length→(ops[j]?).bind (·.dst)=some t→t∈G46 ops.toArray o→listed.getD j false=false:=by
   intro j t c0 hj hd ht
   rcases names j t hj (by omega) hd ht with h | h
   ·omega
   ·cases hl:listed.getD j false with
    | false=>rfl
    | true=>
     have:listed.getD i false=true:=hs.closed.anc h.2 hl
     rw [this] at h5; cases h5
  have earlier:∀ j t,j < i→(ops[j]?).bind (·.dst)=some t→t∈G46 ops.toArray o→listed.getD j false=true:=by
   intro j t c0 hd ht
   rcases names j t (by omega) (by omega) hd ht with h | h
   ·exact a1 j h.2
   ·omega
  -- the frame that operation i sees
  have b1:Jm a w β L (Zz (o.looksAt ops.toArray) (Y5 ops l0 val (fun _=>true) i)):=by
   refine⟨fun t=>?_⟩
   rw [H88]
   split
   ·rename_i ht
    have hn:t∈G46 ops.toArray o:=List.mem_append_right _ ht
    have hv:=h4.frame.tmp t
    rw [G47] at hv ⊢
    have e1:Zh ops (fun i=>listed.getD i false) t ops.length=Zh ops (fun i=>listed.getD i false) t i:=
     Gbe ops _ t i ops.length (by omega) (fun j h1 h2 hd=>by
      rcases Ep i j with h | h
      ·exact later j t h h2 hd hn
      ·have:j=i:=by omega
       subst this; exact h5)
    have e2:Zh ops (fun i=>listed.getD i false) t i=Zh ops (fun _=>true) t i:=G9b ops _ _ t i (fun j hj hd=>earlier j t hj hd hn)
    rw [e1,e2] at hv
    exact hv
   ·exact .junk
  -- behind it
  let listed':=listed.setIfInBounds i true
  have h9:∀ j,listed'.getD j false=if j=i then true else listed.getD j false:=by
   intro j
   simp only [listed',Array.getD_eq_getD_getElem?,Array.getElem?_setIfInBounds]
   by_cases e:i=j
   ·subst e; simp [hs.size,a0]
   ·simp [e,Ne.symm e]
  have b2:∀ (L':Loc) (v:Value) (w':World) (β':Gx),Hb0 tb (flagsOf (fun i=>listed'.getD i false) ws)=some L'→Sat w' β' L'→Step w β L w' β' L'→V w' β' L' (val i) v →
    wpAnyIn (FR ro) n P .any ops.toArray (Q.out N w0 β0 L0) fuel listed' (a.put o.dst v) w':=by
   intro L' v w' β' a8 b3 a2 c1
   refine ih listed' _ w' ?_ ⟨by simp [listed',hs.size],⟨fun k o2 e hk h8 he hb=>?_⟩,β',L',a8,b3,h4.step.trans a2,⟨fun t=>?_⟩,by rw [Act.put_size]; exact h4.size,h4.base,by rw [Act.put_defers']; exact h4.defers.step a2⟩
   ·-- one fewer is left
    have c5:((List.range ops.length).filter fun j=>!listed'.getD j false).length < ((List.range ops.length).filter fun j=>!listed.getD j false).length:=by
     have:(List.range ops.length).filter (fun j=>!listed'.getD j false)=((List.range ops.length).filter fun j=>!listed.getD j false).filter (fun j=>j != i):=by
      rw [List.filter_filter]
      congr 1
      funext j
      rw [h9 j]
      by_cases e:j=i <;> simp [e]
     rw [this]
     refine Nat.lt_of_le_of_ne (Eo _ _) (fun e=>?_)
     have:=List.length_filter_eq_length_iff.1 e i (Ks.2 ⟨List.mem_range.2 a0,by rw [h5]; rfl⟩)
     simp at this
    unfold unl at hu ⊢; omega
   ·rw [h9] at hk ⊢
    by_cases e':e.on=i
    ·rw [if_pos e']
    ·rw [if_neg e']
     by_cases e2:k=i
     ·subst e2
      rw [ho] at h8; cases h8
      exact a4 e he hb
     ·rw [if_neg e2] at hk
      exact hs.closed.edge k o2 e hk h8 he hb
   ·rw [G47]
    by_cases hd:o.dst=some t
    ·have hn:t∈G46 ops.toArray o:=List.mem_append_left _ (by simp [hd])
     have c2:(ops[i]?).bind (·.dst)=some t:=by rw [h6]; exact hd
     have e1:Zh ops (fun i=>listed'.getD i false) t ops.length=Zh ops (fun i=>listed'.getD i false) t (i+1):=
      Gbe ops _ t (i+1) ops.length (by omega) (fun j h1 h2 a5=>by rw [h9 j,if_neg (by omega)]; exact later j t (by omega) h2 a5 hn)
     have e2:Zh ops (fun i=>listed'.getD i false) t (i+1)=some i:=by simp only [Zh]; rw [if_pos ⟨by rw [h9 i,if_pos rfl],c2⟩]
     rw [e1,e2,hd,H3b (Ek (pc.lt i o t h6 hd) h4.size),if_pos rfl]
     exact c1
    ·have e1:Zh ops (fun i=>listed'.getD i false) t ops.length=Zh ops (fun i=>listed.getD i false) t ops.length:=
      G9b ops _ _ t ops.length (fun j hj a5=>by
       rw [h9 j,if_neg (fun e=>hd (by subst e; rw [h6] at a5; exact a5))])
     have hv:=(h4.frame.tmp t).step a2
     rw [G47] at hv
     rw [e1]
     have e2:(a.put o.dst v).tmps.getD t undef=a.tmps.getD t undef:=by
      cases b5:o.dst with
      | none=>rfl
      | some d=>
       have c3:d < a.tmps.size:=Ek (pc.lt i o d h6 b5) h4.size
       rw [H3b c3,if_neg (fun e=>hd (by rw [b5,e]))]
     rw [e2]; exact hv
  unfold wpOpIn
  rw [ho]
  have fin:(∃ L',Hb0 tb (flagsOf (fun i=>listed'.getD i false) ws)=some L'∧G0d P N ops.toArray o (Zz (o.looksAt ops.toArray) (Y5 ops l0 val (fun _=>true) i)) L (val i) L') →
    if Region.wanted o (yielded ops.toArray a.tmps)=true then Oper.wpIn (FR ro) n P o a w (wpAnyIn (FR ro) n P .any ops.toArray (Q.out N w0 β0 L0) fuel listed') (Q.out N w0 β0 L0) else (∀ f,o.about P w a.eval=some f→(FR ro).fn f)∧wpAnyIn (FR ro) n P .any ops.toArray (Q.out N w0 β0 L0) fuel listed' (a.put o.dst undef) w:=by
   rintro⟨L',a8,hO⟩
   have:=hO a w β (wpAnyIn (FR ro) n P .any ops.toArray (Q.out N w0 β0 L0) fuel listed') (Q.out N w0 β0 L0) h4.sat b1 h4.size (fun v w' β' h1 h2 h3=>b2 L' v w' β' a8 h1 h2 h3)
   split
   ·rename_i hw; rw [if_pos hw] at this; exact G83 (b8 i o h6) this
   ·rename_i hw; rw [if_neg hw] at this; exact⟨fun _ _=>trivial,this⟩
  apply fin
  have c4:=pc.step i o h6
  simp only [List.all_eq_true,List.mem_range] at b4
  have b6:=b4 i a0
  have b7:flagsOf (fun i=>listed.getD i false) ws∈sts.getD i []:=by
   rw [eq_of_beq b6]
   refine Ks.2 ⟨?_,?_⟩
   ·have:=Hac (flagsOf (fun i=>listed.getD i false) ws)
    simpa [flagsOf] using this
   ·simp only [Q65,flagsOf,Gff,List.all_map,List.all_eq_true,Function.comp,Kk,Kt,Bool.not_eq_true']
    intro x hx
    refine⟨⟨⟨?_,?_⟩,?_⟩,?_⟩
    ·cases a9:listed.getD x false with
     | false=>exact .inl rfl
     | true=>
      refine .inr fun y hy=>?_
      cases hc:((G4c ops).getD x []).contains y with
      | false=>exact .inl rfl
      | true=>exact .inr (hs.closed.anc (anc hc) a9)
    ·cases hc:((G4c ops).getD i []).contains x with
     | false=>exact .inl rfl
     | true=>exact .inr (a1 x (anc hc))
    ·cases hc:x==i with
     | false=>exact .inl rfl
     | true=>rw [eq_of_beq hc]; exact .inr h5
    ·cases hc:((G4c ops).getD x []).contains i with
     | false=>exact .inl rfl
     | true=>
      right
      cases a9:listed.getD x false with
      | false=>rfl
      | true=>
       have:listed.getD i false=true:=hs.closed.anc (anc hc) a9
       rw [this] at h5; cases h5
  obtain⟨L1,L2,L',g1,g2,hO,hE⟩:=Haf c4 _ b7
  rw [hL] at g1; cases g1
  refine⟨L',?_,hO.locEq hE⟩
  rw [← g2]
  congr 1
  simp only [Hf9,flagsOf,Gff,List.map_map]
  refine List.map_congr_left fun x _=>?_
  simp only [Function.comp,h9 x]
  by_cases e:x=i
  ·subst e; simp
  ·simp [e]

theorem Qff {P:Program} {N:Cfg} {ops:List Oper} {id:Nat} {Q:Post} {l:Fr} {L L':Loc} (ws:List Nat) (sts:List (List (List Bool))) (tb:List (List Bool×Loc)) (hm:P.follows .mixedOrders=true) (chk:Hb5 ops ws sts=true) (h0:Hb0 tb (List.replicate ws.length false)=some L) (h1:Hb0 tb (List.replicate ws.length true)=some L')
  (h:G16 P N ops.toArray ws sts tb 0 ops l (fun l'=>Q.norm l' L')) (h2:ops.all Zu=true:=by rfl):JC P N (.region id ops.toArray true) Q l L:=by
 obtain⟨val,pc,hK⟩:=H87 ops ws sts tb l _ ops 0 (fun _=>.junk) (fun j=>by simp) (by simp) (fun j o hj=>by omega) h
 intro n w0 β0 L0 a w β hs
 refine wpIn_region_any hm ?_
 rw [List.size_toArray]
 refine J33 (ro:=N.ro) (n:=n) (fun i o hi=>List.all_eq_true.1 h2 o (K0 hi)) chk pc (fun L'' hL''=>by rw [h1] at hL''; cases hL''; exact hK) ops.length (Array.replicate ops.length false) a _ ?_ ⟨by simp,⟨fun i o e hi=>?_⟩,β,L,?_,?_⟩
 ·exact Nat.le_trans (Eo _ _) (by simp)
 ·simp only [Array.getD_eq_getD_getElem?,Array.getElem?_replicate] at hi
  split at hi <;> simp at hi
 ·have:flagsOf (fun i=>(Array.replicate ops.length false).getD i false) ws=List.replicate ws.length false:=by
   refine List.eq_replicate_iff.2 ⟨by simp [flagsOf],fun b hb=>?_⟩
   obtain⟨x,hx,rfl⟩:=Kp.1 hb
   simp only [Array.getD_eq_getD_getElem?,Array.getElem?_replicate]; split <;> rfl
  rw [this]; exact h0
 ·have this:Y5 ops l val (fun i=>(Array.replicate ops.length false).getD i false) ops.length=l:=by
   have hf:(fun i=>(Array.replicate ops.length false).getD i false)=fun _=>false:=by
    funext i
    simp only [Array.getD_eq_getD_getElem?,Array.getElem?_replicate]; split <;> rfl
   rw [hf]
   have:∀ n,Y5 ops l val (fun _=>false) n=l:=by
    intro n
    induction n with
    | zero=>rfl
    | succ n ih=>
     cases hd:(ops[n]?).bind (·.dst) with
     | none=>simp only [Y5,hd]; exact ih
     | some d=>simp only [Y5,hd,Bool.false_eq_true,if_false]; exact ih
   exact this _
  rw [this]; exact hs.drew
open Go.RowKit Go.Sort

def SortNone (P:Program) (F:FuncId):Prop:=
 ∀ (g:Nat) (cb:Array Value) (w:World),Calls P F #[.slice none 0 0,.func (.func g) #[] cb] w fun e w'=>e=.returned (.tuple #[])∧∃ n os,w'=grow (w.drewN n) os

theorem Q87 {w w':World} (h1:w'.os=w.os) (h2:w'.tape=w.tape) (h3:w'.output=w.output∧w.drawn≤w'.drawn) (h4:w.heap.size≤w'.heap.size) (h5:∀ b,b < w.heap.size→w'.heap[b]? = w.heap[b]?):∃ q os,w'=grow (w.drewN q) os:=by
 refine⟨w'.drawn - w.drawn,w'.heap.extract w.heap.size w'.heap.size,?_⟩
 obtain⟨hp,tp,dr,os_,out⟩:=w'
 simp only at h1 h2 h3 h4 h5
 subst h1 h2
 obtain⟨rfl,h3⟩:=h3
 unfold grow World.drewN
 simp only [World.mk.injEq,true_and,and_true]
 refine⟨?_,by omega⟩
 apply Array.ext_getElem?
 intro k
 rw [Array.getElem?_append]
 split
 ·rename_i hk; exact h5 k hk
 ·rename_i hk
  rw [Array.getElem?_extract]
  have e:w.heap.size+(k - w.heap.size)=k:=by omega
  split
  ·rw [e]
  ·rename_i h0
   exact Array.getElem?_eq_none (by omega)

theorem J1b {P:Program} {f:FuncId} {args:List AV} {u:AV} (hc:Pure P f args (·=u)) {w:World} {vs:Array Value} (hl:vs.size=args.length) (hv:∀ (j:Nat) a v,args[j]? = some a→vs[j]? = some v→D w (fun b _=>b < w.heap.size) a v) :
  Calls P f vs w fun e w'=>∃ v,e=.returned v∧D w' (fun b _=>b < w'.heap.size) u v∧∃ q os,w'=grow (w.drewN q) os:=by
 have h1:∀ b i:Nat,b < w.heap.size→J5 w ⟨fun _=>none,fun _ _=>False⟩ [] b i:=fun b i hs=>⟨hs,fun h=>h,fun id o h=>by simp [lk] at h⟩
 refine(hc w ⟨fun _=>none,fun _ _=>False⟩ vs ⟨fun b i h=>h.elim,fun id b h=>by simp [lk] at h,fun id b j h=>by simp [lk] at h,fun id id' b h=>by simp [lk] at h,fun id o h=>by simp [lk] at h⟩ hl
  (fun j u v hu h2=>.data ((hv j u v hu h2).mono fun b i hs=>⟨h1 b i hs,rfl⟩))).mono fun e w' h=>?_
 obtain⟨v,r,β',L',he,h4,h0,h3,rfl,rfl⟩:=h
 exact⟨v,he,h3.data_of_nil.mono fun b i hs=>⟨hs.lt,rfl⟩,Q87 h0.os h0.tape h0.output h0.size (fun b hb=>(h0.far b hb (fun id h=>by simp [lk] at h)).1)⟩

theorem D.inv_sc {w:World} {S:Nat→Nat→Prop} {v x:Value} (h:D w S (.sc v) x):x=v:=by cases h; rfl
set_option maxRecDepth 100000
open Go.RowKit Go.Shelf Go.Sort

section ops
variable {P:Program} {o:Oper} {l:Fr} {L L'':Loc}
end ops
set_option linter.unusedVariables false
open Go.RowKit Go.Sort Go.Shelf

def Q3b (x:Int):List Int→List Int
 | []=>[x]
 | y::r=>bif decide (x≤y) then x::y::r else y::Q3b x r
def G11:List Int→List Int
 | []=>[]
 | x::r=>Q3b x (G11 r)
theorem Hd2 (x:Int):∀ l,(Q3b x l).Perm (x::l)
 | []=>List.Perm.refl _
 | y::r=>by
  rw [Q3b]
  cases decide (x≤y) with
  | true=>exact List.Perm.refl _
  | false=>exact(List.Perm.cons y (Hd2 x r)).trans (List.Perm.swap x y r)
theorem G87:∀ l,(G11 l).Perm l
 | []=>List.Perm.refl _
 | x::r=>(Hd2 x _).trans ((G87 r).cons x)
theorem Hed {x:Int}:∀ {l:List Int},l.Pairwise (·≤·)→(Q3b x l).Pairwise (·≤·)
 | [],_=>by simp [Q3b]
 | y::r,h=>by
  rw [Q3b]
  rw [List.pairwise_cons] at h
  cases hb:decide (x≤y) with
  | true=>
   have h0:=Es hb
   rw [cond_true,List.pairwise_cons]
   refine⟨fun z hz=>?_,List.pairwise_cons.2 h⟩
   rcases Kr.1 hz with rfl | hz
   ·exact h0
   ·have:=h.1 z hz; omega
  | false=>
   have h0:=Eu hb
   rw [cond_false,List.pairwise_cons]
   refine⟨fun z hz=>?_,Hed h.2⟩
   rcases Kr.1 ((Hd2 x r).mem_iff.1 hz) with rfl | hz
   ·omega
   ·exact h.1 z hz
theorem H0b:∀ l,(G11 l).Pairwise (·≤·)
 | []=>List.Pairwise.nil
 | x::r=>Hed (H0b r)
theorem Jbc (xs:List Int):(xs.mergeSort fun x y=>decide (x≤y))=G11 xs:=by
 have h1:=List.mergeSort_perm xs (fun x y=>decide (x≤y))
 have h2:(xs.mergeSort fun x y=>decide (x≤y)).Pairwise (fun a b:Int=>decide (a≤b)=true):=List.pairwise_mergeSort (le:=fun x y:Int=>decide (x≤y)) (fun a b c h g=>by simp at *; omega) (fun a b=>by simp; omega) xs
 refine List.Perm.eq_of_pairwise (le:=fun a b:Int=>decide (a≤b)=true) (fun a b _ _ h0 h3=>by simp at *; omega) h2 ((H0b xs).imp fun h=>Ev h) (h1.trans (G87 xs).symm)
theorem Gb3 (xs:List Int):(G11 xs).length=xs.length:=(G87 xs).length_eq
def J13 (xs:List Int):Option (List Int):=bif decide (xs.length < 4611686018427387904) then some (G11 xs) else none
theorem Q25 {xs r:List Int} (h:J13 xs=some r):xs.length < 4611686018427387904∧r=G11 xs:=by
 unfold J13 at h
 cases hb:decide (xs.length < 4611686018427387904) with
 | true=>rw [hb] at h; exact⟨Es hb,(Ez h).symm⟩
 | false=>rw [hb] at h; cases h

def J3d (P:Program) (F:FuncId):Prop:=
 ∀ (blk off cap:Nat) (zs:List Int) (w:World),Holds (Value.int .i64) w blk off zs.toArray→blk < w.heap.size→zs.length < 4611686018427387904 →
  Calls P F #[.slice (some ⟨blk,off,none⟩) zs.length cap] w fun e w'=>e=.returned (.tuple #[])∧∃ n os,w'=grow (putRow (Value.int .i64) (Sort.ahead w n) blk off (zs.mergeSort fun x y=>decide (x≤y)).toArray) os
def Hd7 (P:Program) (F:FuncId):Prop:=
 ∀ (p:Option Addr) (cap:Nat) (w:World),Calls P F #[.slice p 0 cap] w fun e w'=>e=.returned (.tuple #[])∧w'=w

theorem H5b (xs:List Int):flat (xs.map I64)=xs.map I64:=by
 induction xs with
 | nil=>rfl
 | cons x r ih=>rw [List.map_cons,flat,ih]; rfl

theorem Jbd {P:Program} {F:FuncId} (hs:J3d P F) (h0:Hd7 P F) (i ver E:Nat) (xs:List Int) (a6:xs.length < 4611686018427387904) :
  Jz P F [.vec i ver 1 xs.length] [(i,.vec E 1 ver (xs.map I64))] (fun r L'=>r=.tup []∧L'=[(i,.vec E 1 ver ((G11 xs).map I64))]):=by
 intro w β vs h4 hl hv
 have hi:lk [(i,J3.vec E 1 ver (xs.map I64))] i=some (.vec E 1 ver (xs.map I64)):=by simp [lk]
 have a9:vs.size=1:=hl
 obtain⟨v0,rfl⟩:∃ v0,vs=#[v0]:=by
  refine⟨vs[0],?_⟩
  apply Array.ext
  ·simp [a9]
  ·intro j b9 h7
   have:j=0:=by omega
   subst this; rfl
 have b0:=hv 0 _ v0 rfl rfl
 obtain⟨-,c0,b1⟩:=G09 h4 hi b0
 have h5:=Gb3 xs
 have h8:∀ y∈(G11 xs).map I64,y.cells.length=1:=fun y hy=>by
  obtain⟨z,_,rfl⟩:=Kp.1 hy
  rfl
 have h2:∀ L:Loc,L=[(i,J3.vec E 1 ver ((G11 xs).map I64))]→G7b ((i,J3.vec E 1 ver ((G11 xs).map I64))::[(i,J3.vec E 1 ver (xs.map I64))]) L:=fun L hL id=>by
  subst hL
  rw [G9,G9,G9]
  by_cases e:i=id
  ·rw [if_pos e,if_pos e]
  ·rw [if_neg e,if_neg e,if_neg e]
 rcases b1 with ⟨rfl,b2,b3⟩ | ⟨b,cap,cur,rfl,hb,q1,q2,q3,q4,q5⟩
 ·refine(h0 none 0 w).mono fun e w' h=>?_
  obtain⟨rfl,rfl⟩:=h
  have hx:xs=[]:=by simpa using b2
  subst hx
  have a1:G11 ([]:List Int)=[]:=Em (by simpa using h5)
  obtain⟨st,sat⟩:=Q4 (w':=w') (t:=E) (k:=1) (ver1:=ver) (xs':=(G11 ([]:List Int)).map I64) (ob':=none) h4 (.inr ⟨ver,_,hi,Kb,fun _=>⟨by simp [a1],b3.symm,fun _ _=>rfl⟩⟩)
   rfl rfl ⟨rfl,Kb⟩ (Kb) (fun b hb _=>rfl) (.inl rfl)
  have s2:=sat ⟨h8,.inl ⟨rfl,by simp [a1]⟩⟩
  exact⟨_,_,_,_,rfl,s2.locEq (h2 _ rfl),st.locEq (h2 _ rfl),.tup rfl (fun j u v hu=>by simp at hu),rfl,rfl⟩
 ·have a2:b < w.heap.size:=(Ej q3).1
  have a3:(xs.map I64).length=xs.length:=by simp
  rw [a3] at q1
  have hH:Holds (Value.int .i64) w b 0 xs.toArray:=by
   intro j hj
   have h7:j < xs.length:=by simpa using hj
   have h6:j < cur.size:=by rw [q4]; omega
   have hu:(flat (xs.map I64))[j]? = some (.sc (Value.int .i64 xs[j])):=by
    rw [H5b,Kf,Ey h7]; rfl
   have hd:=q5 j _ cur[j] hu (by simp [h6])
   have he:cur[j]=Value.int .i64 xs[j]:=hd.inv_sc
   constructor
   ·simp [World.cell?,q3,h6,he,h7]
   ·simp [World.frozen?,q3]
  have a0:=hs b 0 cap xs w hH a2 a6
  rw [a3]
  refine a0.mono fun e w' h=>?_
  obtain⟨rfl,n,os,rfl⟩:=h
  rw [Jbc]
  obtain⟨d',h9⟩:∃ d':Array Int,d'=(G11 xs).toArray:=⟨_,rfl⟩
  have b4:d'.size=xs.length:=by rw [h9]; simp [Gb3]
  have b5:G11 xs=d'.toList:=by rw [h9]
  rw [← h9]
  have h3:(grow (putRow (Value.int .i64) (Sort.ahead w n) b 0 d') os).heap[b]? = some (.cells (putCells (Value.int .i64) 0 d' cur) E (0,0)):=by
   unfold grow putRow mapBlock
   simp only [Sort.ahead]
   rw [Array.getElem?_append_left (by simpa using a2),Array.getElem?_modify,if_pos rfl,q3]
   rfl
  have a4:(putCells (Value.int .i64) 0 d' cur).size=cur.size:=by simp [putCells]
  have a7:∀ j,j < xs.length→(putCells (Value.int .i64) 0 d' cur)[j]? = some (Value.int .i64 d'[j]!):=by
   intro j hj
   have h6:j < cur.size:=by rw [q4]; omega
   simp [putCells,h6,b4,hj]
  have f1:(grow (putRow (Value.int .i64) (Sort.ahead w n) b 0 d') os).os=w.os:=rfl
  have f2:(grow (putRow (Value.int .i64) (Sort.ahead w n) b 0 d') os).tape=w.tape:=rfl
  have f3:(grow (putRow (Value.int .i64) (Sort.ahead w n) b 0 d') os).output=w.output∧w.drawn≤(grow (putRow (Value.int .i64) (Sort.ahead w n) b 0 d') os).drawn:=⟨rfl,Nat.le_add_right _ _⟩
  have f4:w.heap.size≤(grow (putRow (Value.int .i64) (Sort.ahead w n) b 0 d') os).heap.size:=by
   rw [size_grow]
   simp only [putRow,mapBlock,Array.size_modify,Sort.ahead]; omega
  have f5:∀ b',b' < w.heap.size→b≠b'→(grow (putRow (Value.int .i64) (Sort.ahead w n) b 0 d') os).heap[b']? = w.heap[b']? := by
   intro b' h1 a8
   unfold grow putRow mapBlock
   simp only [Sort.ahead]
   rw [Array.getElem?_append_left (by simpa using h1),Array.getElem?_modify,if_neg a8]
  clear hH
  generalize grow (putRow (Value.int .i64) (Sort.ahead w n) b 0 d') os=W at h3 f1 f2 f3 f4 f5
  obtain⟨st,sat⟩:=Q4 (w':=W) (t:=E) (k:=1) (ver1:=ver) (xs':=(G11 xs).map I64) (ob':=β.at_ i) h4
   (.inr ⟨ver,_,hi,Kb,fun _=>⟨by rw [Kn,Kn,h5],rfl,fun b' h1=>by
    rw [hb] at h1; cases h1
    rw [World.shape?,h3,World.shape?,q3]; simp only [a4]⟩⟩) f1 f2 f3 f4
   (fun b' h1 b6=>f5 b' h1 (fun e=>b6 (by rw [inL,hi]; rfl) (by rw [hb,e])))
   (.inr (.inl ⟨by rw [inL,hi]; rfl,rfl⟩))
  have s2:=sat ⟨h8,.inr ⟨b,hb,_,h3,by rw [a4,q4,Kn,h5]; omega,fun j u v hu a5=>by
   rw [H5b] at hu
   have hj:=(Ex hu).1
   rw [Kn,h5] at hj
   rw [a7 j hj] at a5
   have b7:=Ez a5
   subst b7
   rw [b5,Kf,Array.getElem?_toList,Array.getElem?_eq_getElem (by omega),Option.map_some] at hu
   have b8:=Ez hu
   subst b8
   rw [getElem!_pos _ j (by omega)]
   exact .sc⟩⟩
  exact⟨_,_,_,_,rfl,s2.locEq (h2 _ rfl),st.locEq (h2 _ rfl),.tup rfl (fun j u v hu=>by simp at hu),rfl,rfl⟩

section ops
variable {P:Program} {o:Oper} {l:Fr} {L L'':Loc}
theorem Q83 {F:FuncId} {x:Operand} {ts:Array TypeId} {i ver E n:Nat} {xs r:List Int} (ho:o.op=.call { callee:=.value (.func F),args:=#[x],argTypes:=ts })
  (hs:J3d P F) (h0:Hd7 P F) (hB:Hp P F=true)
  (hx:ev l x=.vec i ver 1 n) (hi:lk L i=some (.vec E 1 ver (xs.map I64))) (hn:n=xs.length) (h:J13 xs=some r)
  (hL:(i,.vec E 1 ver (r.map I64))::Gd3 L [(i,.vec E 1 ver (xs.map I64))]=L''):Gn P o l L (Is (.tup []) L''):=by
 obtain⟨hl,rfl⟩:=Q25 h
 subst hn
 have h1:=Jbd (P:=P) (F:=F) hs h0 i ver E xs hl
 refine H63 (xs:=[x]) ho h1 hB ⟨.inl hx,?_,trivial⟩ ⟨hi,trivial⟩ ?_ ?_ hL
 ·simp [AV.refs,inL,lk]
 ·simp [closedIn,J3.refs]
 ·simp [G99,inL,lk]
end ops
open Go.RowKit Go.Sort Go.Shelf

def G71 (cf:Int→Int→Int) (xs:List Int):List Int:=xs.mergeSort fun x y=>!(ltOf cf) y x
theorem H81 (cf:Int→Int→Int) (xs:List Int):(G71 cf xs).Perm xs:=List.mergeSort_perm _ _
theorem J64 (cf:Int→Int→Int) (xs:List Int):(G71 cf xs).length=xs.length:=(H81 cf xs).length_eq
def Parts (cf:Int→Int→Int):Prop:=∀ x y,(ltOf cf) x y=false→(ltOf cf) y x=false→x=y
theorem J8f (cf:Int→Int→Int) (hO:SWO (ltOf cf)) (xs:List Int):(G71 cf xs).Pairwise (fun x y=>ltOf cf y x=false):=by
 have:=List.pairwise_mergeSort (le:=fun x y=>!(ltOf cf) y x) (fun a b c h1 h2=>by
  simp only [Bool.not_eq_true'] at h1 h2 ⊢
  exact hO.ntrans c b a h2 h1) (fun a b=>by
  cases h:ltOf cf b a with
  | false=>rfl
  | true=>
   cases h2:ltOf cf a b with
   | false=>rfl
   | true=>have:=hO.trans a b a h2 h; rw [hO.irrefl] at this; cases this) xs
 exact this.imp fun h=>by simpa using h
open Classical in
noncomputable def H32 (cmp:Int→Int→Option Int) (xs:List Int):Option (List Int):=
 if h:∃ cf:Int→Int→Int,(∀ x y,cmp x y=some (cf x y))∧SWO (ltOf cf)∧Parts cf∧xs.length < 4611686018427387904 then some (G71 h.choose xs) else none
theorem Q24 {cmp:Int→Int→Option Int} {xs r:List Int} (h:H32 cmp xs=some r):∃ cf:Int→Int→Int,(∀ x y,cmp x y=some (cf x y))∧SWO (ltOf cf)∧Parts cf∧xs.length < 4611686018427387904∧r=G71 cf xs:=by
 unfold H32 at h
 split at h
 ·next hh=>exact⟨hh.choose,hh.choose_spec.1,hh.choose_spec.2.1,hh.choose_spec.2.2.1,hh.choose_spec.2.2.2,(Ez h).symm⟩
 ·cases h
theorem Q91 {cmp:Int→Int→Option Int} (cf:Int→Int→Int) (hc:∀ x y,cmp x y=some (cf x y)) (hO:SWO (ltOf cf)) (hP:Parts cf) {xs:List Int} (hl:xs.length < 4611686018427387904):H32 cmp xs=some (G71 cf xs):=by
 have hh:∃ cf:Int→Int→Int,(∀ x y,cmp x y=some (cf x y))∧SWO (ltOf cf)∧Parts cf∧xs.length < 4611686018427387904:=⟨cf,hc,hO,hP,hl⟩
 unfold H32
 rw [dif_pos hh]
 have:hh.choose=cf:=by
  funext x y
  have h1:=hh.choose_spec.1 x y
  rw [hc x y] at h1
  exact(Ez h1).symm
 rw [this]

def J3c (P:Program) (F:FuncId):Prop:=
 ∀ (cf:Int→Int→Int),SWO (ltOf cf)→Parts cf→∀ (g:Nat) (cb:Array Value) (blk off cap:Nat) (zs:List Int) (w:World),
  (∀ args w,(callFunc g args).run P w=.ok (.enter g args) w)→CmpLays1 P g cb (Value.int .i64) cf blk off zs.toArray.size w→Holds (Value.int .i64) w blk off zs.toArray→blk < w.heap.size→zs.length < 4611686018427387904 →
  Calls P F #[.slice (some ⟨blk,off,none⟩) zs.length cap,.func (.func g) #[] cb] w fun e w'=>e=.returned (.tuple #[])∧∃ n os,w'=grow (putRow (Value.int .i64) (Sort.ahead w n) blk off (G71 cf zs).toArray) os

set_option maxHeartbeats 1000000 in
theorem Jb8 {P:Program} {F:FuncId} (hs:J3c P F) (h0:SortNone P F) (cf:Int→Int→Int) (hO:SWO (ltOf cf)) (hP:Parts cf) (g:FuncId) (hB:Hp P g=true) (caps:List AV) (b6:Yj (fun _=>false) caps=true) (h6:∀ x y,Pure P g ([I64 x,I64 y]++caps) (·=I64 (cf x y)))
  (i ver E:Nat) (xs:List Int) (b2:xs.length < 4611686018427387904) :
  Jz P F [.vec i ver 1 xs.length,.fn g caps] [(i,.vec E 1 ver (xs.map I64))] (fun r L'=>r=.tup []∧L'=[(i,.vec E 1 ver ((G71 cf xs).map I64))]):=by
 intro w β vs h7 hl hv
 have hi:lk [(i,J3.vec E 1 ver (xs.map I64))] i=some (.vec E 1 ver (xs.map I64)):=by simp [lk]
 have b7:vs.size=2:=hl
 obtain⟨v0,v1,rfl⟩:∃ v0 v1,vs=#[v0,v1]:=by
  refine⟨vs[0],vs[1],?_⟩
  apply Array.ext
  ·simp [b7]
  ·intro j c9 a0
   have:j=0∨j=1:=by omega
   rcases this with rfl | rfl <;> rfl
 have b8:=hv 0 _ v0 rfl rfl
 have b9:=hv 1 _ v1 rfl rfl
 obtain⟨cb,rfl,a6,c0⟩:=b9.inv_fn
 have b3:∀ (j:Nat) u v,caps[j]? = some u→cb[j]? = some v→D w (J5 w β [(i,J3.vec E 1 ver (xs.map I64))]) u v:=fun j u v hu h1=>(c0 j u v hu h1).toD (Yb b6 u (K0 hu))
 obtain⟨-,d0,c1⟩:=G09 h7 hi b8
 have h8:=J64 cf xs
 have a1:∀ y∈(G71 cf xs).map I64,y.cells.length=1:=fun y hy=>by
  obtain⟨z,_,rfl⟩:=Kp.1 hy
  rfl
 have h4:∀ L:Loc,L=[(i,J3.vec E 1 ver ((G71 cf xs).map I64))]→G7b ((i,J3.vec E 1 ver ((G71 cf xs).map I64))::[(i,J3.vec E 1 ver (xs.map I64))]) L:=fun L hL id=>by
  subst hL
  rw [G9,G9,G9]
  by_cases e:i=id
  ·rw [if_pos e,if_pos e]
  ·rw [if_neg e,if_neg e,if_neg e]
 rcases c1 with ⟨rfl,c2,a7⟩ | ⟨b,cap,cur,rfl,hb,q1,q2,q3,q4,q5⟩
 ·refine(h0 g cb w).mono fun e w' h=>?_
  obtain⟨rfl,n,os,rfl⟩:=h
  have hx:xs=[]:=by simpa using c2
  subst hx
  have a8:G71 cf ([]:List Int)=[]:=Em (by simpa using h8)
  obtain⟨st,sat⟩:=Q4 (w':=grow (w.drewN n) os) (t:=E) (k:=1) (ver1:=ver) (xs':=(G71 cf ([]:List Int)).map I64) (ob':=none) h7 (.inr ⟨ver,_,hi,Kb,fun _=>⟨by simp [a8],a7.symm,fun b hb=>by rw [a7] at hb; cases hb⟩⟩)
   rfl rfl ⟨rfl,by simp [grow,World.drewN]⟩ (by simp [grow,World.drewN]) (fun b hb _=>by simp [grow,World.drewN,Array.getElem?_append_left hb]) (.inl rfl)
  have s2:=sat ⟨a1,.inl ⟨rfl,by simp [a8]⟩⟩
  exact⟨_,_,_,_,rfl,s2.locEq (h4 _ rfl),st.locEq (h4 _ rfl),.tup rfl (fun j u v hu=>by simp at hu),rfl,rfl⟩
 ·have a9:b < w.heap.size:=(Ej q3).1
  have b0:(xs.map I64).length=xs.length:=by simp
  rw [b0] at q1
  have hH:Holds (Value.int .i64) w b 0 xs.toArray:=by
   intro j hj
   have a0:j < xs.length:=by simpa using hj
   have h9:j < cur.size:=by rw [q4]; omega
   have hu:(flat (xs.map I64))[j]? = some (.sc (Value.int .i64 xs[j])):=by
    rw [H5b,Kf,Ey a0]; rfl
   have hd:=q5 j _ cur[j] hu (by simp [h9])
   have he:cur[j]=Value.int .i64 xs[j]:=hd.inv_sc
   constructor
   ·simp [World.cell?,q3,h9,he,a0]
   ·simp [World.frozen?,q3]
  have eg:∀ args w,(callFunc g args).run P w=.ok (.enter g args) w:=fun args w=>Hp.out hB args w
  have hC:CmpLays1 P g cb (Value.int .i64) cf b 0 xs.toArray.size w:=by
   intro m os dk d1 x y
   have h2:∀ b' j,J5 w β [(i,J3.vec E 1 ver (xs.map I64))] b' j→Yv (sortWorld (Value.int .i64) w b 0 m dk os) b' j=Yv w b' j∧b' < (sortWorld (Value.int .i64) w b 0 m dk os).heap.size:=by
    intro b' j hs
    have a2:b'≠b:=fun e=>by
     have:=hs.kept i _ hi (by rw [e]; exact hb)
     exact this
    constructor
    ·refine J4 (w:=w) ?_
     unfold sortWorld
     simp only [grow]
     rw [Array.getElem?_append_left (by simp only [putRow,mapBlock,Array.size_modify,Sort.ahead]; exact hs.lt)]
     simp only [putRow,mapBlock,Sort.ahead,Array.getElem?_modify,if_neg (Ne.symm a2)]
    ·unfold sortWorld
     simp only [size_grow,putRow,mapBlock,Array.size_modify,Sort.ahead]
     have:=hs.lt; omega
   generalize sortWorld (Value.int .i64) w b 0 m dk os=W at h2 ⊢
   have a3:(#[Value.int .i64 x,Value.int .i64 y]++cb).size=([I64 x,I64 y]++caps).length:=by rw [Array.size_append,Ki,a6]; rfl
   have c3:=J1b (w:=W) (h6 x y) a3
   clear h6 hs a3 hH q5 a6
   refine(c3 (fun j a v ha h1=>?_)).mono fun e w' h=>?_
   ·rcases Ep j 2 with hj | hj
    ·rw [Kd (by simpa using hj)] at ha
     rw [Array.getElem?_append_left (by simpa using hj)] at h1
     have:j=0∨j=1:=by omega
     rcases this with rfl | rfl
     ·simp at ha h1; subst ha h1; exact .sc
     ·simp at ha h1; subst ha h1; exact .sc
    ·rw [Kc (by simpa using hj)] at ha
     rw [Array.getElem?_append_right (by simpa using hj)] at h1
     exact(b3 (j - 2) a v (by simpa using ha) (by simpa using h1)).mono fun b' j' hs=>⟨(h2 b' j' hs).2,(h2 b' j' hs).1⟩
   ·obtain⟨v,rfl,hd,q,os',rfl⟩:=h
    have c4:=hd.inv_sc
    subst c4
    exact⟨rfl,q,os',rfl⟩
  have a5:=hs cf hO hP g cb b 0 cap xs w eg hC hH a9 b2
  rw [b0]
  refine a5.mono fun e w' h=>?_
  obtain⟨rfl,n,os,rfl⟩:=h
  obtain⟨d',a4⟩:∃ d':Array Int,d'=(G71 cf xs).toArray:=⟨_,rfl⟩
  have c5:d'.size=xs.length:=by rw [a4]; simp [J64]
  have c6:G71 cf xs=d'.toList:=by rw [a4]
  rw [← a4]
  have h5:(grow (putRow (Value.int .i64) (Sort.ahead w n) b 0 d') os).heap[b]? = some (.cells (putCells (Value.int .i64) 0 d' cur) E (0,0)):=by
   unfold grow putRow mapBlock
   simp only [Sort.ahead]
   rw [Array.getElem?_append_left (by simpa using a9),Array.getElem?_modify,if_pos rfl,q3]
   rfl
  have b1:(putCells (Value.int .i64) 0 d' cur).size=cur.size:=by simp [putCells]
  have b4:∀ j,j < xs.length→(putCells (Value.int .i64) 0 d' cur)[j]? = some (Value.int .i64 d'[j]!):=by
   intro j hj
   have h9:j < cur.size:=by rw [q4]; omega
   simp [putCells,h9,c5,hj]
  have f1:(grow (putRow (Value.int .i64) (Sort.ahead w n) b 0 d') os).os=w.os:=rfl
  have f2:(grow (putRow (Value.int .i64) (Sort.ahead w n) b 0 d') os).tape=w.tape:=rfl
  have f3:(grow (putRow (Value.int .i64) (Sort.ahead w n) b 0 d') os).output=w.output∧w.drawn≤(grow (putRow (Value.int .i64) (Sort.ahead w n) b 0 d') os).drawn:=⟨rfl,Nat.le_add_right _ _⟩
  have f4:w.heap.size≤(grow (putRow (Value.int .i64) (Sort.ahead w n) b 0 d') os).heap.size:=by
   rw [size_grow]
   simp only [putRow,mapBlock,Array.size_modify,Sort.ahead]; omega
  have f5:∀ b',b' < w.heap.size→b≠b'→(grow (putRow (Value.int .i64) (Sort.ahead w n) b 0 d') os).heap[b']? = w.heap[b']? := by
   intro b' h3 b5
   unfold grow putRow mapBlock
   simp only [Sort.ahead]
   rw [Array.getElem?_append_left (by simpa using h3),Array.getElem?_modify,if_neg b5]
  clear hH hC h6
  generalize grow (putRow (Value.int .i64) (Sort.ahead w n) b 0 d') os=W at h5 f1 f2 f3 f4 f5
  obtain⟨st,sat⟩:=Q4 (w':=W) (t:=E) (k:=1) (ver1:=ver) (xs':=(G71 cf xs).map I64) (ob':=β.at_ i) h7
   (.inr ⟨ver,_,hi,Kb,fun _=>⟨by rw [Kn,Kn,h8],rfl,fun b' h3=>by
    rw [hb] at h3; cases h3
    rw [World.shape?,h5,World.shape?,q3]; simp only [b1]⟩⟩) f1 f2 f3 f4
   (fun b' h3 a2=>f5 b' h3 (fun e=>a2 (by rw [inL,hi]; rfl) (by rw [hb,e])))
   (.inr (.inl ⟨by rw [inL,hi]; rfl,rfl⟩))
  have s2:=sat ⟨a1,.inr ⟨b,hb,_,h5,by rw [b1,q4,Kn,h8]; omega,fun j u v hu h1=>by
   rw [H5b] at hu
   have hj:=(Ex hu).1
   rw [Kn,h8] at hj
   rw [b4 j hj] at h1
   have c7:=Ez h1
   subst c7
   rw [c6,Kf,Array.getElem?_toList,Array.getElem?_eq_getElem (by omega),Option.map_some] at hu
   have c8:=Ez hu
   subst c8
   rw [getElem!_pos _ j (by omega)]
   exact .sc⟩⟩
  exact⟨_,_,_,_,rfl,s2.locEq (h4 _ rfl),st.locEq (h4 _ rfl),.tup rfl (fun j u v hu=>by simp at hu),rfl,rfl⟩

section ops
variable {P:Program} {o:Oper} {l:Fr} {L L'':Loc}
theorem R42 {F:FuncId} {x y:Operand} {ts:Array TypeId} {i ver E n:Nat} {g:FuncId} {caps:List AV} {cmp:Int→Int→Option Int} {xs r:List Int} (ho:o.op=.call { callee:=.value (.func F),args:=#[x,y],argTypes:=ts })
  (hs:J3c P F) (h0:SortNone P F) (hB:Hp P F=true) (h4:Hp P g=true)
  (hx:ev l x=.vec i ver 1 n) (hy:ev l y=.fn g caps) (hi:lk L i=some (.vec E 1 ver (xs.map I64))) (hn:n=xs.length) (h2:Yj (fun _=>false) caps=true) (h:H32 cmp xs=some r)
  (h3:∀ x y q,cmp x y=some q→Pure P g ([I64 x,I64 y]++caps) (·=I64 q)) (hL:(i,.vec E 1 ver (r.map I64))::Gd3 L [(i,.vec E 1 ver (xs.map I64))]=L''):Gn P o l L (Is (.tup []) L''):=by
 obtain⟨cf,hc,hO,hP,hl,rfl⟩:=Q24 h
 subst hn
 have h1:=Jb8 (P:=P) (F:=F) hs h0 cf hO hP g h4 caps h2 (fun a b=>h3 a b _ (hc a b)) i ver E xs hl
 refine H63 (xs:=[x,y]) ho h1 hB ⟨.inl hx,?_,.inl hy,?_,trivial⟩ ⟨hi,trivial⟩ ?_ ?_ hL
 ·simp [AV.refs,inL,lk]
 ·exact G8a _ _ h2
 ·simp [closedIn,J3.refs]
 ·simp [G99,inL,lk]
end ops
end Go.Proofs.YtokjlondbjdlfaaGreat
