/-
 A statement whose order is open,in which more than one operation turns the local memory without an order between them (two variables that are made).
-/
import Derived.Test.YtbljcmgjmieffaaGreatMapM
set_option linter.unusedVariables false
set_option linter.unusedSimpArgs false
set_option linter.unnecessarySimpa false
namespace Go.Proofs.YtbljcmgjmieffaaGreat
open Go.RowKit

def Gc6 (L L':Loc):Prop:=∀ id,lk L id=lk L' id
theorem Sat.locEq {w:World} {β:Gy} {L L':Loc} (h:Sat w β L) (e:Gc6 L L'):Sat w β L':=by
 have hS:∀ b i,Jb w β L b i→Jb w β L' b i:=fun b i hs=>⟨hs.lt,hs.seen,fun id o ho=>hs.kept id o (by rw [e]; exact ho)⟩
 exact⟨h.hid,fun id b h1=>h.bnd id b (by rw [e]; exact h1),fun id b j h1=>h.apart id b j (by rw [e]; exact h1),fun id id' b h1 h2=>h.inj id id' b (by rw [e]; exact h1) (by rw [e]; exact h2),
  fun id o ho=>(h.obj id o (by rw [e]; exact ho)).up hS (fun id o ho=>⟨by rw [← e]; exact ho,rfl⟩)⟩
theorem Step.locEq {w w':World} {β β':Gy} {L L1 L':Loc} (h:Step w β L w' β' L1) (e:Gc6 L1 L'):Step w β L w' β' L' where
 os:=h.os
 tape:=h.tape
 output:=h.output
 size:=h.size
 hid:=h.hid
 stab:=fun b i hs=>by
  obtain⟨h1,h2⟩:=h.stab b i hs
  exact⟨⟨h1.lt,h1.seen,fun id o ho=>h1.kept id o (by rw [e]; exact ho)⟩,h2⟩
 far:=fun b hb hf=>by
  obtain⟨h1,h2⟩:=h.far b hb hf
  exact⟨h1,fun id hid=>h2 id (by rw [e]; exact hid)⟩
 box:=fun id t cs hi=>by obtain⟨h1,cs',h2⟩:=h.box id t cs hi; exact⟨h1,cs',by rw [← e]; exact h2⟩
 map:=fun id t cs hi=>by obtain⟨h1,cs',h2⟩:=h.map id t cs hi; exact⟨h1,cs',by rw [← e]; exact h2⟩
 iter:=fun id m n cs hi=>by obtain⟨h1,n',cs',h2⟩:=h.iter id m n cs hi; exact⟨h1,n',cs',by rw [← e]; exact h2⟩
 vec:=fun id t k ver xs hi=>by obtain⟨v,xs',h1,h2,h3⟩:=h.vec id t k ver xs hi; exact⟨v,xs',by rw [← e]; exact h1,h2,h3⟩
 spare:=fun id t k ver xs hi=>by obtain⟨v,xs',h1,h2,h3⟩:=h.spare id t k ver xs hi; exact⟨v,xs',by rw [← e]; exact h1,h2,h3⟩
theorem V.locEq {w:World} {β:Gy} {L L':Loc} {u:AV} {v:Value} (h:V w β L u v) (e:Gc6 L L'):V w β L' u v:=
 h.up (fun b i hs=>⟨hs.lt,hs.seen,fun id o ho=>hs.kept id o (by rw [e]; exact ho)⟩) (fun id o ho=>⟨by rw [← e]; exact ho,rfl⟩)
theorem G34.locEq {P:Program} {N:Zp} {ops:Array Oper} {o:Oper} {l:Fr} {L L1 L':Loc} {u:AV} (h:G34 P N ops o l L u L1) (e:Gc6 L1 L'):G34 P N ops o l L u L':=
 fun a w β K Q h1 h2 h3 h4=>h a w β K Q h1 h2 h3 (fun v w' β' k1 k2 k3=>h4 v w' β' (k1.locEq e) (k2.locEq e) (k3.locEq e))
def H6e (ks:List Nat):Loc→Bool
 | []=>true
 | (i,_)::r=>ks.contains i&&H6e ks r
def eqOn (L L':Loc):List Nat→Prop
 | []=>True
 | k::r=>lk L k=lk L' k∧eqOn L L' r
theorem H6d {ks:List Nat} {id:Nat} (h:id ∉ ks):∀ {L:Loc},H6e ks L=true→lk L id=none
 | [],_=>rfl
 | (i,o)::r,hk=>by
  simp only [H6e,Bool.and_eq_true] at hk
  rw [Ge,if_neg (fun e=>h (by subst e; simpa using hk.1))]
  exact H6d h hk.2
theorem Gc6.of {L L':Loc} (ks:List Nat) (h1:H6e ks L=true) (h2:H6e ks L'=true) (h3:eqOn L L' ks):Gc6 L L':=fun id=>by
 by_cases h:id∈ks
 ·clear h1 h2
  induction ks with
  | nil=>cases h
  | cons k r ih=>
   rcases List.mem_cons.1 h with e | h
   ·rw [e]; exact h3.1
   ·exact ih h3.2 h
 ·rw [H6d h h1,H6d h h2]

/-! ### The stages: which of the turning operations are done -/
def H2f:Nat→List (List Bool)
 | 0=>[[]]
 | n+1=>(H2f n).flatMap fun s=>[false::s,true::s]
theorem H8d:∀ (s:List Bool),s∈H2f s.length
 | []=>by simp [H2f]
 | b::s=>by
  simp only [List.length_cons,H2f,List.mem_flatMap]
  exact⟨s,H8d s,by cases b <;> simp⟩
def okFlags (tbl:List (List Nat)) (ws:List Nat) (i:Nat) (s:List Bool):Bool:=
 (ws.zip s).all fun p=>(!p.2||(ws.zip s).all fun q=>!(tbl.getD p.1 []).contains q.1||q.2)&&(!(tbl.getD i []).contains p.1||p.2)&&(!(p.1==i)||!p.2)&&(!(tbl.getD p.1 []).contains i||!p.2)
def stages2 (tbl:List (List Nat)) (ws:List Nat) (i:Nat):List (List Bool):=(H2f ws.length).filter (okFlags tbl ws i)
def flagsOf (Dn:Nat→Bool) (ws:List Nat):List Bool:=ws.map Dn
def Hf2 (ws:List Nat) (s:List Bool) (i:Nat):List Bool:=(ws.zip s).map fun p=>p.2||p.1==i
def Heb (tb:List (List Bool×Loc)) (s:List Bool):Option Loc:=(tb.find? fun p=>p.1==s).map (·.2)
theorem Gf6 {α:Type} (f:Nat→α):∀ ws:List Nat,ws.zip (ws.map f)=ws.map fun w=>(w,f w)
 | []=>rfl
 | w::r=>by simp [Gf6 f r]
def J44 (ops:List Oper) (ws:List Nat) (sts:List (List (List Bool))):Bool:=
 let tbl:=G3a ops
 H48 ops&&ordChk ops tbl&&ws.all (fun w=>decide (w < ops.length))&&(List.range ops.length).all fun i=>sts.getD i []==stages2 tbl ws i
def Gbc (p:List Bool→Prop):List (List Bool)→Prop
 | []=>True
 | s::r=>p s∧Gbc p r
theorem H8e {p:List Bool→Prop}:∀ {ss:List (List Bool)},Gbc p ss→∀ s∈ss,p s
 | x::r,h,s,hs=>by
  rcases List.mem_cons.1 hs with rfl | hs
  ·exact h.1
  ·exact H8e h.2 s hs

def Ga7 (P:Program) (N:Zp) (ops:Array Oper) (ws:List Nat) (tb:List (List Bool×Loc)) (i:Nat) (o:Oper) (l:Fr) (u:AV) (s:List Bool):Prop:=
 ∃ L L1 L',Heb tb s=some L∧Heb tb (Hf2 ws s i)=some L'∧G34 P N ops o l L u L1∧Gc6 L1 L'
theorem Ga7.ro {P:Program} {N:Zp} {ops:Array Oper} {ws:List Nat} {tb:List (List Bool×Loc)} {i:Nat} {o:Oper} {l:Fr} {u:AV} {s:List Bool} {L:Loc} (h1:Heb tb s=some L) (h2:Heb tb (Hf2 ws s i)=some L) (h:G34 P N ops o l L u L):Ga7 P N ops ws tb i o l u s:=⟨L,L,L,h1,h2,h,fun _=>rfl⟩
theorem Ga7.w {P:Program} {N:Zp} {ops:Array Oper} {ws:List Nat} {tb:List (List Bool×Loc)} {i:Nat} {o:Oper} {l:Fr} {u:AV} {s:List Bool} {L L1 L':Loc} (ks:List Nat) (h1:Heb tb s=some L) (h2:Heb tb (Hf2 ws s i)=some L') (h:G34 P N ops o l L u L1) (k1:H6e ks L1=true) (k2:H6e ks L'=true) (k3:eqOn L1 L' ks):Ga7 P N ops ws tb i o l u s:=⟨L,L1,L',h1,h2,h,Gc6.of ks k1 k2 k3⟩

def G6b (P:Program) (N:Zp) (ops:Array Oper) (ws:List Nat) (sts:List (List (List Bool))) (tb:List (List Bool×Loc)):Nat→List Oper→Fr→(Fr→Prop)→Prop
 | _,[],l,K=>K l
 | i,o::r,l,K=>∃ u,Gbc (Ga7 P N ops ws tb i o (Z8 (o.looksAt ops) l) u) (sts.getD i [])∧(match o.dst with
   | some d=>Nat.blt d N.n=true∧G6b P N ops ws sts tb (i+1) r ((d,u)::l) K
   | none=>G6b P N ops ws sts tb (i+1) r l K)
section pre
variable {P:Program} {N:Zp} {ops:Array Oper} {ws:List Nat} {sts:List (List (List Bool))} {tb:List (List Bool×Loc)} {i:Nat} {o:Oper} {r:List Oper} {l:Fr} {K:Fr→Prop} {u:AV}
theorem D2_nil (h:K l):G6b P N ops ws sts tb i [] l K:=h
theorem Gd7 {d:Nat} (hd:o.dst=some d) (h:Gbc (Ga7 P N ops ws tb i o (Z8 (o.looksAt ops) l) u) (sts.getD i [])) (hk:G6b P N ops ws sts tb (i+1) r ((d,u)::l) K) (hn:Nat.blt d N.n=true) :
  G6b P N ops ws sts tb i (o::r) l K:=⟨u,h,by rw [hd]; exact⟨hn,hk⟩⟩
theorem D2_go0 (hd:o.dst=none) (h:Gbc (Ga7 P N ops ws tb i o (Z8 (o.looksAt ops) l) u) (sts.getD i [])) (hk:G6b P N ops ws sts tb (i+1) r l K) :
  G6b P N ops ws sts tb i (o::r) l K:=⟨u,h,by rw [hd]; exact hk⟩
end pre

structure Pieces2 (P:Program) (N:Zp) (ops:List Oper) (ws:List Nat) (sts:List (List (List Bool))) (tb:List (List Bool×Loc)) (l0:Fr) (val:Nat→AV):Prop where
 step:∀ i o,ops[i]? = some o→Gbc (Ga7 P N ops.toArray ws tb i o (Z8 (o.looksAt ops.toArray) (Yc ops l0 val (fun _=>true) i)) (val i)) (sts.getD i [])
 lt:∀ (i:Nat) (o:Oper) (d:Tmp),ops[i]? = some o→o.dst=some d→d < N.n

theorem J33 {P:Program} {N:Zp} (ops:List Oper) (ws:List Nat) (sts:List (List (List Bool))) (tb:List (List Bool×Loc)) (l0:Fr) (K:Fr→Prop):∀ (r:List Oper) (i:Nat) (val:Nat→AV),(∀ j,r[j]? = ops[i+j]?)→i+r.length=ops.length →
  (∀ j o,j < i→ops[j]? = some o→Gbc (Ga7 P N ops.toArray ws tb j o (Z8 (o.looksAt ops.toArray) (Yc ops l0 val (fun _=>true) j)) (val j)) (sts.getD j [])∧∀ d,o.dst=some d→d < N.n) →
  G6b P N ops.toArray ws sts tb i r (Yc ops l0 val (fun _=>true) i) K→∃ val',Pieces2 P N ops ws sts tb l0 val'∧K (Yc ops l0 val' (fun _=>true) ops.length)
 | [],i,val,hr,hl,hd,h=>by
  simp at hl
  subst hl
  exact⟨val,⟨fun j o ho=>(hd j o (by have:=List.getElem?_eq_some_iff.1 ho; exact this.1) ho).1,fun j o d ho=>(hd j o (by have:=List.getElem?_eq_some_iff.1 ho; exact this.1) ho).2 d⟩,h⟩
 | o::r,i,val,hr,hl,hd,h=>by
  obtain⟨u,h1,h2⟩:=h
  have ho:ops[i]? = some o:=by have:=hr 0; simpa using this.symm
  -- the value of operation i is u
  let val':Nat→AV:=fun j=>if j=i then u else val j
  have hv:∀ j,j≤i→Yc ops l0 val' (fun _=>true) j=Yc ops l0 val (fun _=>true) j:=by
   intro j
   induction j with
   | zero=>intro _; rfl
   | succ j ih=>
    intro hj
    have hne:j≠i:=by omega
    simp only [Yc,ih (by omega),val',if_neg hne]
  have hvi:val' i=u:=by simp [val']
  refine J33 ops ws sts tb l0 K r (i+1) val' (fun j=>by have:=hr (j+1); simpa [Nat.add_assoc,Nat.add_comm 1 j] using this) (by simp at hl; omega) (fun j o' hj ho'=>?_) ?_
  ·by_cases e:j=i
   ·subst e
    rw [ho] at ho'; cases ho'
    refine⟨?_,fun d hd'=>?_⟩
    ·rw [hv j (Nat.le_refl _),hvi]; exact h1
    ·rw [hd'] at h2; simpa [Nat.blt_eq] using h2.1
   ·obtain⟨a1,a2⟩:=hd j o' (by omega) ho'
    refine⟨?_,a2⟩
    rw [hv j (by omega),show val' j=val j by simp [val',e]]; exact a1
  ·simp only [Yc,ho,Option.bind_some,if_true]
   cases hd':o.dst with
   | none=>rw [hd'] at h2; simpa [hv i (Nat.le_refl _)] using h2
   | some d=>rw [hd'] at h2; simpa [hv i (Nat.le_refl _),hvi] using h2.2

structure DState2 (P:Program) (N:Zp) (ops:List Oper) (ws:List Nat) (tb:List (List Bool×Loc)) (l0:Fr) (val:Nat→AV) (w0:World) (β0:Gy) (L0:Loc) (listed:Array Bool) (a:Act) (w:World):Prop where
 size:listed.size=ops.length
 closed:Closed ops.toArray (fun i=>listed.getD i false)
 st:∃ β L,Heb tb (flagsOf (fun i=>listed.getD i false) ws)=some L∧Qn N w0 β0 L0 a w β (Yc ops l0 val (fun i=>listed.getD i false) ops.length) L

theorem draw_step2 {P:Program} {N:Zp} {ops:List Oper} {ws:List Nat} {sts:List (List (List Bool))} {tb:List (List Bool×Loc)} {l0:Fr} {val:Nat→AV} {ro:Option Nat} {n:Nat} (hnd:∀ (i:Nat) o,ops[i]? = some o→G07 o=true) (G08:J44 ops ws sts=true) (pc:Pieces2 P N ops ws sts tb l0 val) {Q:Post} {w0:World} {β0:Gy} {L0:Loc}
  (hQ:∀ L,Heb tb (List.replicate ws.length true)=some L→Q.norm (Yc ops l0 val (fun _=>true) ops.length) L) :
  ∀ (fuel:Nat) (listed:Array Bool) (a:Act) (w:World),unl ops.length listed≤fuel→DState2 P N ops ws tb l0 val w0 β0 L0 listed a w→wpAnyIn (FR ro) n P .any ops.toArray (Q.out N w0 β0 L0) fuel listed a w:=by
 simp only [J44,Bool.and_eq_true] at G08
 obtain⟨⟨⟨hdown,hord⟩,hwlt⟩,hst⟩:=G08
 have hwlt':∀ x∈ws,x < ops.length:=fun x hx=>by
  simp only [List.all_eq_true,decide_eq_true_eq] at hwlt; exact hwlt x hx
 have anc:∀ {i z:Nat},((G3a ops).getD i []).contains z=true→J5d ops.toArray i z:=fun h=>ancTbl_ok (by simpa using h)
 have down:∀ i o e,ops[i]? = some o→e∈o.after→Region.binds .any e=true→e.on < i:=by
  intro i o e ho he hb
  have hi:i < ops.length:=(List.getElem?_eq_some_iff.1 ho).1
  simp only [H48,List.all_eq_true,List.mem_range] at hdown
  have:=hdown i hi
  rw [ho] at this
  simp only [List.all_eq_true,decide_eq_true_eq] at this
  exact this e.on (List.mem_map.2 ⟨e,List.mem_filter.2 ⟨Array.mem_toList_iff.2 he,hb⟩,rfl⟩)
 -- when nothing is ready, all is done
 have finish:∀ (listed:Array Bool) (a:Act) (w:World),DState2 P N ops ws tb l0 val w0 β0 L0 listed a w→(∀ i,i < ops.length→listed.getD i false=true)→Q.out N w0 β0 L0 .normal a w:=by
  intro listed a w hs hall
  obtain⟨β,L,hL,hok⟩:=hs.st
  have e1:flagsOf (fun i=>listed.getD i false) ws=List.replicate ws.length true:=by
   refine List.eq_replicate_iff.2 ⟨by simp [flagsOf],fun b hb=>?_⟩
   obtain⟨x,hx,rfl⟩:=List.mem_map.1 hb
   exact hall x (hwlt' x hx)
  rw [e1] at hL
  rw [H93 ops l0 val _ ops.length (fun j hj=>hall j hj)] at hok
  exact⟨β,_,L,hok,hQ L hL⟩
 have stuck:∀ (listed:Array Bool),listed.size=ops.length→Region.ready .any ops.toArray listed=[]→∀ i,i < ops.length→listed.getD i false=true:=by
  intro listed hsz hr i
  induction i using Nat.strongRecOn with
  | _ i ih=>
   intro hi
   cases hd:listed.getD i false with
   | true=>rfl
   | false=>
    exfalso
    have:i∈Region.ready .any ops.toArray listed:=mem_ready.2 ⟨by rw [Yi (by omega)]; exact hd,ops[i],by simp [hi],fun e he hb=>by
     have:=down i ops[i] e (by simp [hi]) he hb
     exact ih e.on this (by omega)⟩
    rw [hr] at this; cases this
 intro fuel
 induction fuel with
 | zero=>
  intro listed a w hu hs
  have hall:∀ i,i < ops.length→listed.getD i false=true:=by
   intro i hi
   cases hd:listed.getD i false with
   | true=>rfl
   | false=>
    have:i∈(List.range ops.length).filter fun i=>!listed.getD i false:=List.mem_filter.2 ⟨List.mem_range.2 hi,by rw [hd]; rfl⟩
    have h0:(List.range ops.length).filter (fun i=>!listed.getD i false)=[]:=List.eq_nil_of_length_eq_zero (by unfold unl at hu; omega)
    rw [h0] at this; cases this
  refine⟨?_,finish listed a w hs hall⟩
  cases hr:Region.ready .any ops.toArray listed with
  | nil=>rfl
  | cons i r=>
   have hm:i∈Region.ready .any ops.toArray listed:=by rw [hr]; simp
   obtain⟨h1,o,ho,_⟩:=mem_ready.1 hm
   have hi:i < ops.length:=by have:=(Array.getElem?_eq_some_iff.1 ho).1; simpa using this
   rw [Yi (by rw [hs.size]; exact hi),hall i hi] at h1
   cases h1
 | succ fuel ih=>
  intro listed a w hu hs
  refine⟨fun hr=>finish listed a w hs (stuck listed hs.size hr),fun i hi=>?_⟩
  obtain⟨h1,o,ho,hedge⟩:=mem_ready.1 hi
  have ho':ops[i]? = some o:=by simpa using ho
  have hil:i < ops.length:=(List.getElem?_eq_some_iff.1 ho').1
  have hnot:listed.getD i false=false:=by rw [← Yi (by rw [hs.size]; exact hil)]; exact h1
  obtain⟨β,L,hL,hok⟩:=hs.st
  have hready:∀ j,J5d ops.toArray i j→listed.getD j false=true:=fun j hj=>hj.ready hs.closed (fun o' e ho2 he hb=>by
   rw [ho] at ho2; cases ho2; exact hedge e he hb)
  -- what a slot that operation i names has to do with the others
  have names:∀ j t,j < ops.length→j≠i→(ops[j]?).bind (·.dst)=some t→t∈G29 ops.toArray o→(j < i∧J5d ops.toArray i j)∨(i < j∧J5d ops.toArray j i):=by
   intro j t hj hne hd ht
   simp only [ordChk,List.all_eq_true,List.mem_range] at hord
   have:=hord j hj
   rw [hd] at this
   simp only [List.all_eq_true,List.mem_range] at this
   have:=this i hil
   rw [ho'] at this
   have hc:(G29 ops.toArray o).contains t=true:=by simpa using ht
   simp only [hc,Bool.not_true,Bool.false_or,Bool.or_eq_true,beq_iff_eq,Ne.symm hne,false_or,ordered] at this
   rcases Nat.lt_or_ge i j with h | h
   ·rw [if_pos h] at this; exact .inr ⟨h,anc this⟩
   ·rw [if_neg (by omega)] at this; exact .inl ⟨by omega,anc this⟩
  have later:∀ j t,i < j→j < ops.length→(ops[j]?).bind (·.dst)=some t→t∈G29 ops.toArray o→listed.getD j false=false:=by
   intro j t hij hj hd ht
   rcases names j t hj (by omega) hd ht with h | h
   ·omega
   ·cases hl:listed.getD j false with
    | false=>rfl
    | true=>
     have:listed.getD i false=true:=hs.closed.anc h.2 hl
     rw [this] at hnot; cases hnot
  have earlier:∀ j t,j < i→(ops[j]?).bind (·.dst)=some t→t∈G29 ops.toArray o→listed.getD j false=true:=by
   intro j t hij hd ht
   rcases names j t (by omega) (by omega) hd ht with h | h
   ·exact hready j h.2
   ·omega
  -- the frame that operation i sees
  have hseen:Jd a w β L (Z8 (o.looksAt ops.toArray) (Yc ops l0 val (fun _=>true) i)):=by
   refine⟨fun t=>?_⟩
   rw [H6c]
   split
   ·rename_i ht
    have hn:t∈G29 ops.toArray o:=List.mem_append_right _ ht
    have hv:=hok.frame.tmp t
    rw [G2a] at hv ⊢
    have e1:Ys ops (fun i=>listed.getD i false) t ops.length=Ys ops (fun i=>listed.getD i false) t i:=
     Gbd ops _ t i ops.length (by omega) (fun j h1 h2 hd=>by
      rcases Nat.lt_or_ge i j with h | h
      ·exact later j t h h2 hd hn
      ·have:j=i:=by omega
       subst this; exact hnot)
    have e2:Ys ops (fun i=>listed.getD i false) t i=Ys ops (fun _=>true) t i:=G8b ops _ _ t i (fun j hj hd=>earlier j t hj hd hn)
    rw [e1,e2] at hv
    exact hv
   ·exact .junk
  -- behind it
  let listed':=listed.setIfInBounds i true
  have hD':∀ j,listed'.getD j false=if j=i then true else listed.getD j false:=by
   intro j
   simp only [listed',Array.getD_eq_getD_getElem?,Array.getElem?_setIfInBounds]
   by_cases e:i=j
   ·subst e; simp [hs.size,hil]
   ·simp [e,Ne.symm e]
  have hnext:∀ (L':Loc) (v:Value) (w':World) (β':Gy),Heb tb (flagsOf (fun i=>listed'.getD i false) ws)=some L'→Sat w' β' L'→Step w β L w' β' L'→V w' β' L' (val i) v →
    wpAnyIn (FR ro) n P .any ops.toArray (Q.out N w0 β0 L0) fuel listed' (a.put o.dst v) w':=by
   intro L' v w' β' hL' hsat' hst' hv'
   refine ih listed' _ w' ?_ ⟨by simp [listed',hs.size],⟨fun k o2 e hk ho2 he hb=>?_⟩,β',L',hL',hsat',hok.step.trans hst',⟨fun t=>?_⟩,by rw [Act.put_size]; exact hok.size,hok.base,by rw [Act.put_defers']; exact hok.defers.step hst'⟩
   ·-- one fewer is left
    have hsub:((List.range ops.length).filter fun j=>!listed'.getD j false).length < ((List.range ops.length).filter fun j=>!listed.getD j false).length:=by
     have:(List.range ops.length).filter (fun j=>!listed'.getD j false)=((List.range ops.length).filter fun j=>!listed.getD j false).filter (fun j=>j != i):=by
      rw [List.filter_filter]
      congr 1
      funext j
      rw [hD' j]
      by_cases e:j=i <;> simp [e]
     rw [this]
     refine Nat.lt_of_le_of_ne (List.length_filter_le _ _) (fun e=>?_)
     have:=List.length_filter_eq_length_iff.1 e i (List.mem_filter.2 ⟨List.mem_range.2 hil,by rw [hnot]; rfl⟩)
     simp at this
    unfold unl at hu ⊢; omega
   ·rw [hD'] at hk ⊢
    by_cases e':e.on=i
    ·rw [if_pos e']
    ·rw [if_neg e']
     by_cases e2:k=i
     ·subst e2
      rw [ho] at ho2; cases ho2
      exact hedge e he hb
     ·rw [if_neg e2] at hk
      exact hs.closed.edge k o2 e hk ho2 he hb
   ·rw [G2a]
    by_cases hd:o.dst=some t
    ·have hn:t∈G29 ops.toArray o:=List.mem_append_left _ (by simp [hd])
     have hdi:(ops[i]?).bind (·.dst)=some t:=by rw [ho']; exact hd
     have e1:Ys ops (fun i=>listed'.getD i false) t ops.length=Ys ops (fun i=>listed'.getD i false) t (i+1):=
      Gbd ops _ t (i+1) ops.length (by omega) (fun j h1 h2 hdj=>by rw [hD' j,if_neg (by omega)]; exact later j t (by omega) h2 hdj hn)
     have e2:Ys ops (fun i=>listed'.getD i false) t (i+1)=some i:=by simp only [Ys]; rw [if_pos ⟨by rw [hD' i,if_pos rfl],hdi⟩]
     rw [e1,e2,hd,H28 (Nat.lt_of_lt_of_le (pc.lt i o t ho' hd) hok.size),if_pos rfl]
     exact hv'
    ·have e1:Ys ops (fun i=>listed'.getD i false) t ops.length=Ys ops (fun i=>listed.getD i false) t ops.length:=
      G8b ops _ _ t ops.length (fun j hj hdj=>by
       rw [hD' j,if_neg (fun e=>hd (by subst e; rw [ho'] at hdj; exact hdj))])
     have hv:=(hok.frame.tmp t).step hst'
     rw [G2a] at hv
     rw [e1]
     have e2:(a.put o.dst v).tmps.getD t undef=a.tmps.getD t undef:=by
      cases hdd:o.dst with
      | none=>rfl
      | some d=>
       have hlt:d < a.tmps.size:=Nat.lt_of_lt_of_le (pc.lt i o d ho' hdd) hok.size
       rw [H28 hlt,if_neg (fun e=>hd (by rw [hdd,e]))]
     rw [e2]; exact hv
  unfold wpOpIn
  rw [ho]
  have fin:(∃ L',Heb tb (flagsOf (fun i=>listed'.getD i false) ws)=some L'∧G34 P N ops.toArray o (Z8 (o.looksAt ops.toArray) (Yc ops l0 val (fun _=>true) i)) L (val i) L') →
    if Region.wanted o (yielded ops.toArray a.tmps)=true then Oper.wpIn (FR ro) n P o a w (wpAnyIn (FR ro) n P .any ops.toArray (Q.out N w0 β0 L0) fuel listed') (Q.out N w0 β0 L0) else (∀ f,o.about P w a.eval=some f→(FR ro).fn f)∧wpAnyIn (FR ro) n P .any ops.toArray (Q.out N w0 β0 L0) fuel listed' (a.put o.dst undef) w:=by
   rintro⟨L',hL',hO⟩
   have:=hO a w β (wpAnyIn (FR ro) n P .any ops.toArray (Q.out N w0 β0 L0) fuel listed') (Q.out N w0 β0 L0) hok.sat hseen hok.size (fun v w' β' h1 h2 h3=>hnext L' v w' β' hL' h1 h2 h3)
   split
   ·rename_i hw; rw [if_pos hw] at this; exact Gf8 (hnd i o ho') this
   ·rename_i hw; rw [if_neg hw] at this; exact⟨fun _ _=>trivial,this⟩
  apply fin
  have hpc:=pc.step i o ho'
  simp only [List.all_eq_true,List.mem_range] at hst
  have hsti:=hst i hil
  have hmem:flagsOf (fun i=>listed.getD i false) ws∈sts.getD i []:=by
   rw [eq_of_beq hsti]
   refine List.mem_filter.2 ⟨?_,?_⟩
   ·have:=H8d (flagsOf (fun i=>listed.getD i false) ws)
    simpa [flagsOf] using this
   ·simp only [okFlags,flagsOf,Gf6,List.all_map,List.all_eq_true,Function.comp,Bool.and_eq_true,Bool.or_eq_true,Bool.not_eq_true']
    intro x hx
    refine⟨⟨⟨?_,?_⟩,?_⟩,?_⟩
    ·cases hx1:listed.getD x false with
     | false=>exact .inl rfl
     | true=>
      refine .inr fun y hy=>?_
      cases hc:((G3a ops).getD x []).contains y with
      | false=>exact .inl rfl
      | true=>exact .inr (hs.closed.anc (anc hc) hx1)
    ·cases hc:((G3a ops).getD i []).contains x with
     | false=>exact .inl rfl
     | true=>exact .inr (hready x (anc hc))
    ·cases hc:x==i with
     | false=>exact .inl rfl
     | true=>rw [eq_of_beq hc]; exact .inr hnot
    ·cases hc:((G3a ops).getD x []).contains i with
     | false=>exact .inl rfl
     | true=>
      right
      cases hx1:listed.getD x false with
      | false=>rfl
      | true=>
       have:listed.getD i false=true:=hs.closed.anc (anc hc) hx1
       rw [this] at hnot; cases hnot
  obtain⟨L1,L2,L',g1,g2,hO,hE⟩:=H8e hpc _ hmem
  rw [hL] at g1; cases g1
  refine⟨L',?_,hO.locEq hE⟩
  rw [← g2]
  congr 1
  simp only [Hf2,flagsOf,Gf6,List.map_map]
  refine List.map_congr_left fun x _=>?_
  simp only [Function.comp,hD' x]
  by_cases e:x=i
  ·subst e; simp
  ·simp [e]

theorem JC_draw2 {P:Program} {N:Zp} {ops:List Oper} {id:Nat} {Q:Post} {l:Fr} {L L':Loc} (ws:List Nat) (sts:List (List (List Bool))) (tb:List (List Bool×Loc)) (hm:P.follows .mixedOrders=true) (G08:J44 ops ws sts=true) (h0:Heb tb (List.replicate ws.length false)=some L) (h1:Heb tb (List.replicate ws.length true)=some L')
  (h:G6b P N ops.toArray ws sts tb 0 ops l (fun l'=>Q.norm l' L')) (hnd:ops.all G07=true:=by rfl):JC P N (.region id ops.toArray true) Q l L:=by
 obtain⟨val,pc,hK⟩:=J33 ops ws sts tb l _ ops 0 (fun _=>.junk) (fun j=>by simp) (by simp) (fun j o hj=>by omega) h
 intro n w0 β0 L0 a w β hs
 refine wpIn_region_any hm ?_
 rw [List.size_toArray]
 refine draw_step2 (ro:=N.ro) (n:=n) (fun i o hi=>List.all_eq_true.1 hnd o (List.mem_of_getElem? hi)) G08 pc (fun L'' hL''=>by rw [h1] at hL''; cases hL''; exact hK) ops.length (Array.replicate ops.length false) a _ ?_ ⟨by simp,⟨fun i o e hi=>?_⟩,β,L,?_,?_⟩
 ·exact Nat.le_trans (List.length_filter_le _ _) (by simp)
 ·simp only [Array.getD_eq_getD_getElem?,Array.getElem?_replicate] at hi
  split at hi <;> simp at hi
 ·have:flagsOf (fun i=>(Array.replicate ops.length false).getD i false) ws=List.replicate ws.length false:=by
   refine List.eq_replicate_iff.2 ⟨by simp [flagsOf],fun b hb=>?_⟩
   obtain⟨x,hx,rfl⟩:=List.mem_map.1 hb
   simp only [Array.getD_eq_getD_getElem?,Array.getElem?_replicate]; split <;> rfl
  rw [this]; exact h0
 ·have this:Yc ops l val (fun i=>(Array.replicate ops.length false).getD i false) ops.length=l:=by
   have hf:(fun i=>(Array.replicate ops.length false).getD i false)=fun _=>false:=by
    funext i
    simp only [Array.getD_eq_getD_getElem?,Array.getElem?_replicate]; split <;> rfl
   rw [hf]
   have:∀ n,Yc ops l val (fun _=>false) n=l:=by
    intro n
    induction n with
    | zero=>rfl
    | succ n ih=>
     cases hd:(ops[n]?).bind (·.dst) with
     | none=>simp only [Yc,hd]; exact ih
     | some d=>simp only [Yc,hd,Bool.false_eq_true,if_false]; exact ih
   exact this _
  rw [this]; exact hs.drew
end Go.Proofs.YtbljcmgjmieffaaGreat
