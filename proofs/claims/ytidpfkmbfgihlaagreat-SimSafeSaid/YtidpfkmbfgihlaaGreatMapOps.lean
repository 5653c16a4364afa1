/-
 A statement whose operations may be carried out in more than Maps of the call's own:
-/
import Derived.Test.YtidpfkmbfgihlaaGreatLits
import Derived.Orders
import Derived.DeepKeys5
import Derived.Laws.StructEq
namespace Go.Proofs.YtidpfkmbfgihlaaGreat
open Go.RowKit

def Gc5 (P:Program) (N:Cfg) (ops:Array Oper) (o:Oper) (l:Fr) (L:Loc) (u:AV) (L':Loc):Prop:=
 ∀ (a:Act) (w:World) (β:H5) (K:Act→World→Prop) (Q:Exit→Act→World→Prop),Sat w β L→Q8 a w β L l→N.n≤a.tmps.size →
  (∀ v w' β',Sat w' β' L'→Step w β L w' β' L'→V w' β' L' u v→K (a.put o.dst v) w') →
  (if Region.wanted o (yielded ops a.tmps) then o.wp P a w K Q else K (a.put o.dst undef) w)

section osteps
variable {P:Program} {N:Cfg} {ops:Array Oper} {o:Oper} {l:Fr} {L L':Loc} {u:AV}

theorem Ge (h:H2 P o l L (Is u L')) (hg:o.guard=none:=by rfl):Gc5 P N ops o l L u L':=by
 intro a w β K Q h0 hf hn hK
 have hw:Region.wanted o (yielded ops a.tmps)=true:=by simp [Region.wanted,hg]
 rw [if_pos hw]
 exact h a w β K Q h0 hf (fun u' L'' v w' β' hr=>by obtain⟨rfl,rfl⟩:=hr; exact hK v w' β')

theorem H6 {j dj:Nat} {want c:Bool} {gv:AV} (us:Fr) (hg:o.guard=some (j,want)) (hj:(ops[j]?).bind (·.dst)=some dj) (h1:look l dj=gv) (h2:J07 gv want c) (h3:J68 c l us) (h:c=true→H2 P o (us++l) L (Is u L)) (h4:Nat.blt dj N.n=true:=by rfl) :
  Gc5 P N ops o l L (.opt c u) L:=by
 subst h1
 intro a w β K Q h0 hf hn hK
 have hw:=h2.wanted (ops:=ops) hf (Kt (by simpa [Nat.blt_eq] using h4) hn) hg hj
 rw [hw]
 cases c with
 | true=>
  rw [if_pos rfl]
  refine h rfl a w β K Q h0 (hf.un h3) ?_
  intro u' L'' v w' β' hr h5 h6 hv
  obtain⟨rfl,rfl⟩:=hr
  exact hK v w' β' h5 h6 (.opt (fun _=>hv) (fun e=>by cases e))
 | false=>
  rw [if_neg (by simp)]
  exact hK undef w β h0 (Step.refl _ _ _) (.opt (fun e=>by cases e) (fun _=>rfl))
end osteps

/-! ### Who comes bf whom -/
inductive Anc (ops:Array Oper):Nat→Nat→Prop
 | edge {i:Nat} {o:Oper} {e:Edge} (ho:ops[i]? = some o) (he:e∈o.after) (hb:Region.binds .any e=true):Anc ops i e.on
 | trans {i j k:Nat} (h:Anc ops i j) (h':Anc ops j k):Anc ops i k

def R38 (o:Oper):List Nat:=(o.after.toList.filter (Region.binds .any)).map (·.on)
def Qab (xs:List Nat):List Nat→List Nat
 | []=>xs
 | y::r=>Qab (if xs.contains y then xs else y::xs) r
def Y3a:List Oper→List (List Nat)→List (List Nat)
 | [],acc=>acc
 | o::r,acc=>Y3a r (acc++[(R38 o).foldl (fun s k=>Qab s (k::acc.getD k [])) []])
def Gbf (ops:List Oper):List (List Nat):=Y3a ops []

theorem Q8f {z:Nat}:∀ {ys xs:List Nat},z∈Qab xs ys→z∈xs∨z∈ys
 | [],xs,h=>.inl h
 | y::r,xs,h=>by
  simp only [Qab] at h
  rcases Q8f h with h | h
  ·split at h
   ·exact .inl h
   ·rcases Mo.1 h with rfl | h
    ·exact .inr (by simp)
    ·exact .inl h
  ·exact .inr (by simp [h])

theorem R9b (all:List Oper):∀ (r:List Oper) (acc:List (List Nat)) (k:Nat),acc.length=k→(∀ j,r[j]? = all[k+j]?)→(∀ i z,z∈acc.getD i []→Anc all.toArray i z) →
  ∀ i z,z∈(Y3a r acc).getD i []→Anc all.toArray i z
 | [],acc,k,_,_,h=>h
 | o::r,acc,k,hk,hr,h=>by
  simp only [Y3a]
  refine R9b all r _ (k+1) (by simp [hk]) (fun j=>by have:=hr (j+1); simpa [Nat.add_assoc,Nat.add_comm 1 j] using this) ?_
  intro i z hz
  rcases Kx i acc.length with hi | hi
  ·refine h i z ?_
   simpa [List.getD,Ma hi] using hz
  ·simp only [List.getD,M9 hi] at hz
   by_cases e:i=acc.length
   ·subst e
    simp only [Nat.sub_self,List.getElem?_cons_zero,Option.getD_some] at hz
    have ho:all[acc.length]? = some o:=by have:=hr 0; simpa [hk] using this.symm
    have key:∀ (es:List Nat) (s:List Nat),(∀ y∈es,Anc all.toArray acc.length y)→(∀ y∈s,Anc all.toArray acc.length y) →
      ∀ y∈es.foldl (fun s k=>Qab s (k::acc.getD k [])) s,Anc all.toArray acc.length y:=by
     intro es
     induction es with
     | nil=>intro s _ hs; exact hs
     | cons x es ih=>
      intro s he hs
      simp only [List.foldl_cons]
      refine ih _ (fun y hy=>he y (by simp [hy])) (fun y hy=>?_)
      rcases Q8f hy with hy | hy
      ·exact hs y hy
      ·rcases Mo.1 hy with rfl | hy
       ·exact he _ (by simp)
       ·exact .trans (he x (by simp)) (h x y hy)
    refine key _ [] (fun y hy=>?_) (by simp) z hz
    simp only [R38,Mm,Mp] at hy
    obtain⟨e,⟨he,hb⟩,rfl⟩:=hy
    exact .edge (o:=o) (by simpa using ho) (Array.mem_toList_iff.1 he) hb
   ·rw [List.getElem?_eq_none (by simp; omega)] at hz
    simp at hz

theorem R13 {ops:List Oper} {i z:Nat} (h:z∈(Gbf ops).getD i []):Anc ops.toArray i z:=
 R9b ops ops [] 0 rfl (fun j=>by simp) (fun i z h=>by simp [List.getD] at h) i z h

/-! ### The check, asked of the kernel -/
def Y1e (tbl:List (List Nat)) (ws:List Nat) (i:Nat):Nat:=(ws.filter fun w=>(tbl.getD i []).contains w).length
def Y1f (tbl:List (List Nat)) (ws:List Nat) (i:Nat):Nat:=(ws.filter fun w=>!(tbl.getD w []).contains i).length
def ordered (tbl:List (List Nat)) (i j:Nat):Bool:=if i < j then (tbl.getD j []).contains i else (tbl.getD i []).contains j
def Gae (ops:Array Oper) (o:Oper):List Tmp:=o.dst.toList++o.looksAt ops
def R2f (ops:List Oper) (tbl:List (List Nat)):Bool:=
 (List.range ops.length).all fun j=>match (ops[j]?).bind (·.dst) with
  | none=>true
  | some t=>(List.range ops.length).all fun i=>i==j||(match ops[i]? with
   | some o=>!(Gae ops.toArray o).contains t||ordered tbl i j
   | none=>true)
def Jb5 (tbl:List (List Nat)):List Nat→Bool
 | []=>true
 | [_]=>true
 | x::y::r=>(tbl.getD y []).contains x&&decide (x < y)&&Jb5 tbl (y::r)
def J49 (ops:List Oper):Bool:=(List.range ops.length).all fun i=>match ops[i]? with
 | some o=>(R38 o).all fun j=>decide (j < i)
 | none=>true
def J4a (ops:List Oper) (ws:List Nat) (los his:List Nat):Bool:=
 let tbl:=Gbf ops
 J49 ops&&R2f ops tbl&&Jb5 tbl ws&&ws.all (fun w=>decide (w < ops.length)) &&
 (List.range ops.length).all fun i=>ws.contains i||(los.getD i 0==Y1e tbl ws i&&his.getD i 0==Y1f tbl ws i)

def J43 (p:Loc→Prop):List Loc→Prop
 | []=>True
 | L::r=>p L∧J43 p r
theorem Q21 {p:Loc→Prop}:∀ {Ls:List Loc},J43 p Ls→∀ {i:Nat} {L:Loc},Ls[i]? = some L→p L
 | L::r,h,i,L',e=>by
  cases i with
  | zero=>simp at e; subst e; exact h.1
  | succ i=>simp at e; exact Q21 h.2 e

def G37 (ts:List Tmp) (l:Fr):Fr:=ts.map fun t=>(t,look l t)
theorem J7d (l:Fr) (t:Tmp):∀ (ts:List Tmp),look (G37 ts l) t=if t∈ts then look l t else .junk
 | []=>by simp [G37,look]
 | s::r=>by
  have ih:=J7d l t r
  simp only [G37,List.map_cons] at ih ⊢
  by_cases e:s=t
  ·subst e; simp [look]
  ·have hb:Nat.beq s t=false:=by
    cases hb:Nat.beq s t with
    | false=>rfl
    | true=>exact absurd (Kv hb) e
   simp only [look,hb,cond_false,ih,Mo,Ne.symm e,false_or]

def J1b (Ls:List Loc) (lo hi:Nat):List Loc:=(Ls.drop lo).take (hi+1 - lo)

def G88 (P:Program) (N:Cfg) (ops:Array Oper) (ws los his:List Nat) (Ls:List Loc):Nat→List Oper→Fr→(Fr→Prop)→Prop
 | _,[],l,K=>K l
 | i,o::r,l,K=>∃ u,(match ws.idxOf? i with
   | some m=>∃ L L',Ls[m]? = some L∧Ls[m+1]? = some L'∧Gc5 P N ops o (G37 (o.looksAt ops) l) L u L'
   | none=>J43 (fun L=>Gc5 P N ops o (G37 (o.looksAt ops) l) L u L) (J1b Ls (los.getD i 0) (his.getD i 0)))∧(match o.dst with
   | some d=>Nat.blt d N.n=true∧G88 P N ops ws los his Ls (i+1) r ((d,u)::l) K
   | none=>G88 P N ops ws los his Ls (i+1) r l K)

section pre
variable {P:Program} {N:Cfg} {ops:Array Oper} {ws los his:List Nat} {Ls:List Loc} {i:Nat} {o:Oper} {r:List Oper} {l:Fr} {K:Fr→Prop} {u:AV}
theorem Qw (h:K l):G88 P N ops ws los his Ls i [] l K:=h
theorem Gd {d:Nat} (hd:o.dst=some d) (hi:ws.idxOf? i=none) (h:J43 (fun L=>Gc5 P N ops o (G37 (o.looksAt ops) l) L u L) (J1b Ls (los.getD i 0) (his.getD i 0))) (hk:G88 P N ops ws los his Ls (i+1) r ((d,u)::l) K) (hn:Nat.blt d N.n=true:=by rfl) :
  G88 P N ops ws los his Ls i (o::r) l K:=by
 refine⟨u,?_,?_⟩
 ·rw [hi]; exact h
 ·rw [hd]; exact⟨hn,hk⟩
theorem D_w {m d:Nat} {L L':Loc} (hd:o.dst=some d) (hi:ws.idxOf? i=some m) (hL:Ls[m]? = some L) (h0:Ls[m+1]? = some L') (h:Gc5 P N ops o (G37 (o.looksAt ops) l) L u L') (hk:G88 P N ops ws los his Ls (i+1) r ((d,u)::l) K) (hn:Nat.blt d N.n=true:=by rfl) :
  G88 P N ops ws los his Ls i (o::r) l K:=by
 refine⟨u,?_,?_⟩
 ·rw [hi]; exact⟨L,L',hL,h0,h⟩
 ·rw [hd]; exact⟨hn,hk⟩
theorem H8d {m:Nat} {L L':Loc} (hd:o.dst=none) (hi:ws.idxOf? i=some m) (hL:Ls[m]? = some L) (h0:Ls[m+1]? = some L') (h:Gc5 P N ops o (G37 (o.looksAt ops) l) L u L') (hk:G88 P N ops ws los his Ls (i+1) r l K) :
  G88 P N ops ws los his Ls i (o::r) l K:=by
 refine⟨u,?_,?_⟩
 ·rw [hi]; exact⟨L,L',hL,h0,h⟩
 ·rw [hd]; exact hk
end pre

/-! ### Why the order is of no account -/
def G0c (ops:List Oper) (l0:Fr) (val:Nat→AV) (Dn:Nat→Bool):Nat→Fr
 | 0=>l0
 | i+1=>match (ops[i]?).bind (·.dst) with
  | some d=>if Dn i then (d,val i)::G0c ops l0 val Dn i else G0c ops l0 val Dn i
  | none=>G0c ops l0 val Dn i

def G23 (ops:List Oper) (Dn:Nat→Bool) (t:Nat):Nat→Option Nat
 | 0=>none
 | i+1=>if Dn i=true∧(ops[i]?).bind (·.dst)=some t then some i else G23 ops Dn t i

theorem R01 (d t:Nat) (u:AV) (l:Fr):look ((d,u)::l) t=if d=t then u else look l t:=by
 by_cases e:d=t
 ·subst e; simp [look]
 ·have hb:Nat.beq d t=false:=by
   cases hb:Nat.beq d t with
   | false=>rfl
   | true=>exact absurd (Kv hb) e
  simp [look,hb,e]

theorem Gaf (ops:List Oper) (l0:Fr) (val:Nat→AV) (Dn:Nat→Bool) (t:Nat):∀ i,look (G0c ops l0 val Dn i) t=match G23 ops Dn t i with
  | some j=>val j
  | none=>look l0 t
 | 0=>rfl
 | i+1=>by
  simp only [G0c,G23]
  cases hd:(ops[i]?).bind (·.dst) with
  | none=>simpa using Gaf ops l0 val Dn t i
  | some d=>
   by_cases hD:Dn i=true
   ·by_cases e:d=t
    ·subst e; simp [hD,R01]
    ·simp only [hD,if_true,R01,true_and,Option.some.injEq,e,if_false]
     exact Gaf ops l0 val Dn t i
   ·simp only [hD,false_and,if_false,Bool.false_eq_true]
    exact Gaf ops l0 val Dn t i

theorem H2d (ops:List Oper) (D D':Nat→Bool) (t:Nat):∀ i,(∀ j,j < i→(ops[j]?).bind (·.dst)=some t→D j=D' j)→G23 ops D t i=G23 ops D' t i
 | 0,_=>rfl
 | i+1,h=>by
  have ih:=H2d ops D D' t i (fun j hj=>h j (by omega))
  simp only [G23]
  by_cases e:(ops[i]?).bind (·.dst)=some t
  ·rw [h i (by omega) e,ih]
  ·simp only [e,and_false,if_false]; exact ih

theorem H79 (ops:List Oper) (D:Nat→Bool) (t i:Nat):∀ n,i≤n→(∀ j,i≤j→j < n→(ops[j]?).bind (·.dst)=some t→D j=false)→G23 ops D t n=G23 ops D t i
 | 0,h,_=>by
  have:i=0:=by omega
  subst this; rfl
 | n+1,h,hh=>by
  by_cases e:i=n+1
  ·subst e; rfl
  ·simp only [G23]
   have ih:=H79 ops D t i n (by omega) (fun j h1 h2=>hh j h1 (by omega))
   by_cases e':(ops[n]?).bind (·.dst)=some t
   ·have:=hh n (by omega) (by omega) e'
    simp only [this,Bool.false_eq_true,false_and,if_false]; exact ih
   ·simp only [e',and_false,if_false]; exact ih

structure Closed (ops:Array Oper) (Dn:Nat→Bool):Prop where
 edge:∀ i o e,Dn i=true→ops[i]? = some o→e∈o.after→Region.binds .any e=true→Dn e.on=true

theorem Closed.anc {ops:Array Oper} {Dn:Nat→Bool} (h:Closed ops Dn) {i j:Nat} (ha:Anc ops i j):Dn i=true→Dn j=true:=by
 induction ha with
 | edge ho he hb=>exact fun hi=>h.edge _ _ _ hi ho he hb
 | trans _ _ ih1 ih2=>exact fun hi=>ih2 (ih1 hi)

theorem Anc.ready {ops:Array Oper} {Dn:Nat→Bool} (h:Closed ops Dn) {i j:Nat} (ha:Anc ops i j):(∀ o e,ops[i]? = some o→e∈o.after→Region.binds .any e=true→Dn e.on=true)→Dn j=true:=by
 induction ha with
 | edge ho he hb=>exact fun hr=>hr _ _ ho he hb
 | trans _ h2 ih1 _=>exact fun hr=>h.anc h2 (ih1 hr)

structure Yb4 (P:Program) (N:Cfg) (ops:List Oper) (ws los his:List Nat) (Ls:List Loc) (l0:Fr) (val:Nat→AV) (p:Nat):Prop where
 step:∀ i o,i < p→ops[i]? = some o→(match ws.idxOf? i with
   | some m=>∃ L L',Ls[m]? = some L∧Ls[m+1]? = some L'∧Gc5 P N ops.toArray o (G37 (o.looksAt ops.toArray) (G0c ops l0 val (fun _=>true) i)) L (val i) L'
   | none=>J43 (fun L=>Gc5 P N ops.toArray o (G37 (o.looksAt ops.toArray) (G0c ops l0 val (fun _=>true) i)) L (val i) L) (J1b Ls (los.getD i 0) (his.getD i 0)))
 lt:∀ (i:Nat) (o:Oper) (d:Tmp),ops[i]? = some o→o.dst=some d→d < N.n

theorem Jdf {P:Program} {N:Cfg} (ops:List Oper) (ws los his:List Nat) (Ls:List Loc) (l0:Fr) (K:Fr→Prop) (p:Nat) (hp:p≤ops.length) (h4:∀ j o d,p≤j→ops[j]? = some o→o.dst=some d→d < N.n):∀ (r:List Oper) (i:Nat) (val:Nat→AV),(∀ j,j < r.length→r[j]? = ops[i+j]?)→i+r.length=p →
  (∀ j o,j < i→ops[j]? = some o→(match ws.idxOf? j with
   | some m=>∃ L L',Ls[m]? = some L∧Ls[m+1]? = some L'∧Gc5 P N ops.toArray o (G37 (o.looksAt ops.toArray) (G0c ops l0 val (fun _=>true) j)) L (val j) L'
   | none=>J43 (fun L=>Gc5 P N ops.toArray o (G37 (o.looksAt ops.toArray) (G0c ops l0 val (fun _=>true) j)) L (val j) L) (J1b Ls (los.getD j 0) (his.getD j 0)))∧∀ d,o.dst=some d→d < N.n) →
  G88 P N ops.toArray ws los his Ls i r (G0c ops l0 val (fun _=>true) i) K→∃ val',Yb4 P N ops ws los his Ls l0 val' p∧K (G0c ops l0 val' (fun _=>true) p)
 | [],i,val,hr,hl,hd,h=>by
  simp at hl
  subst hl
  exact⟨val,⟨fun j o hj ho=>(hd j o hj ho).1,fun j o d ho h5=>by
   have:=(M3 ho).1
   rcases Kx j i with e | e
   ·exact(hd j o e ho).2 d h5
   ·exact h4 j o d e ho h5⟩,h⟩
 | o::r,i,val,hr,hl,hd,h=>by
  obtain⟨u,h1,h2⟩:=h
  have ho:ops[i]? = some o:=by have:=hr 0 (by simp); simpa using this.symm
  -- the value of operation i is u
  let val':Nat→AV:=fun j=>if j=i then u else val j
  have hv:∀ j,j≤i→G0c ops l0 val' (fun _=>true) j=G0c ops l0 val (fun _=>true) j:=by
   intro j
   induction j with
   | zero=>intro _; rfl
   | succ j ih=>
    intro hj
    have h7:j≠i:=by omega
    simp only [G0c,ih (by omega),val',if_neg h7]
  have h6:val' i=u:=by simp [val']
  refine Jdf ops ws los his Ls l0 K p hp h4 r (i+1) val' (fun j hj=>by have:=hr (j+1) (by simpa using hj); simpa [Nat.add_assoc,Nat.add_comm 1 j] using this) (by simp at hl; omega) (fun j o' hj h3=>?_) ?_
  ·by_cases e:j=i
   ·subst e
    rw [ho] at h3; cases h3
    refine⟨?_,fun d h0=>?_⟩
    ·rw [hv j (M8),h6]; exact h1
    ·rw [h0] at h2; simpa [Nat.blt_eq] using h2.1
   ·obtain⟨a1,a2⟩:=hd j o' (by omega) h3
    refine⟨?_,a2⟩
    rw [hv j (by omega),show val' j=val j by simp [val',e]]; exact a1
  ·simp only [G0c,ho,Option.bind_some,if_true]
   cases h0:o.dst with
   | none=>rw [h0] at h2; simpa [hv i (M8)] using h2
   | some d=>rw [h0] at h2; simpa [hv i (M8),h6] using h2.2

theorem Jb3 (ops:List Oper) (l0:Fr) (val:Nat→AV) (D:Nat→Bool):∀ i,(∀ j,j < i→D j=true)→G0c ops l0 val D i=G0c ops l0 val (fun _=>true) i
 | 0,_=>rfl
 | i+1,h=>by
  simp only [G0c,Jb3 ops l0 val D i (fun j hj=>h j (by omega)),h i (by omega)]

section sound
variable {P:Program} {N:Cfg} {ops:List Oper} {ws los his:List Nat} {Ls:List Loc} {l0:Fr} {val:Nat→AV}

theorem J2a {tbl:List (List Nat)}:∀ {ws:List Nat},Jb5 tbl ws=true→∀ (m:Nat) x y,ws[m]? = some x→ws[m+1]? = some y→(tbl.getD y []).contains x=true∧x < y
 | [],_,m,x,y,h,_=>by simp at h
 | [_],_,m,x,y,_,h=>by simp at h
 | a::b::r,hc,m,x,y,h1,h2=>by
  simp only [Jb5,Mh,Mi] at hc
  cases m with
  | zero=>simp at h1 h2; subst h1; subst h2; exact hc.1
  | succ m=>exact J2a hc.2 m x y (by simpa using h1) (by simpa using h2)

def cnt (Dn:Nat→Bool) (ws:List Nat):Nat:=(ws.filter Dn).length

theorem H16 {Dn:Nat→Bool}:∀ {ws:List Nat},(∀ (m:Nat) x y,ws[m]? = some x→ws[m+1]? = some y→Dn y=true→Dn x=true)→∀ (m:Nat) x,ws[m]? = some x→(Dn x=true ↔ m < cnt Dn ws)
 | [],_,m,x,h=>by simp at h
 | a::r,hc,m,x,h=>by
  have hr:∀ (m:Nat) x y,r[m]? = some x→r[m+1]? = some y→Dn y=true→Dn x=true:=fun m x y h1 h2=>hc (m+1) x y (by simpa using h1) (by simpa using h2)
  by_cases ha:Dn a=true
  ·have e:cnt Dn (a::r)=cnt Dn r+1:=by simp [cnt,ha]
   cases m with
   | zero=>simp at h; subst h; rw [e]; simp [ha]
   | succ m=>
    have:=H16 hr m x (by simpa using h)
    rw [e,this]; omega
  ·have all:∀ (m:Nat) x,r[m]? = some x→Dn x=false:=by
    intro m
    induction m with
    | zero=>
     intro x hx
     cases hd:Dn x with
     | false=>rfl
     | true=>exact absurd (hc 0 a x (by simp) (by simpa using hx) hd) ha
    | succ m ih=>
     intro x hx
     cases hd:Dn x with
     | false=>rfl
     | true=>
      have h0:m < r.length:=by
       have:=(M3 hx).1; omega
      have:=hr m r[m] x (by simp [h0]) hx hd
      rw [ih r[m] (by simp [h0])] at this; cases this
   have e:cnt Dn (a::r)=0:=by
    have:r.filter Dn=[]:=List.filter_eq_nil_iff.2 fun y hy=>by
     obtain⟨m,hm,e⟩:=List.mem_iff_getElem.1 hy
     have:=all m y (by simp [hm,e])
     simp [this]
    simp [cnt,ha,this]
   rw [e]
   cases m with
   | zero=>simp at h; subst h; simp [ha]
   | succ m=>simp [all m x (by simpa using h)]

structure Ybd (P:Program) (N:Cfg) (ops:List Oper) (ws:List Nat) (Ls:List Loc) (l0:Fr) (val:Nat→AV) (w0:World) (β0:H5) (L0:Loc) (listed:Array Bool) (a:Act) (w:World):Prop where
 size:listed.size=ops.length
 closed:Closed ops.toArray (fun i=>listed.getD i false)
 st:∃ β L,Ls[cnt (fun i=>listed.getD i false) ws]? = some L∧Rk N w0 β0 L0 a w β (G0c ops l0 val (fun i=>listed.getD i false) ops.length) L

def unl (n:Nat) (listed:Array Bool):Nat:=((List.range n).filter fun i=>!listed.getD i false).length

theorem G13 {listed:Array Bool} {i:Nat} (h:i < listed.size):listed.getD i true=listed.getD i false:=by simp [h]

theorem R0c {ro:Option Nat} {n p:Nat} (d8:∀ (i:Nat) o,ops[i]? = some o→G54 o=true) (chk:J4a ops ws los his=true) (pc:Yb4 P N ops ws los his Ls l0 val p) {Q:Post} {w0:World} {β0:H5} {L0:Loc}
  (hT:(ops.length=p∧∀ L,Ls[ws.length]? = some L→Q.norm (G0c ops l0 val (fun _=>true) p) L)∨(ops.length=p+1∧∃ last,ops[p]? = some last∧(List.range p).all (fun j=>((Gbf ops).getD p []).contains j)=true∧ws.contains p=false ∧
   ∀ a w β L,Ls[ws.length]? = some L→Rk N w0 β0 L0 a w β (G0c ops l0 val (fun _=>true) p) L→wpListIn (FR ro) n P ops.toArray (Q.out N w0 β0 L0) [last] a w)) :
  ∀ (fuel:Nat) (listed:Array Bool) (a:Act) (w:World),unl ops.length listed≤fuel→listed.getD p false=false→Ybd P N ops ws Ls l0 val w0 β0 L0 listed a w→wpAnyIn (FR ro) n P .any ops.toArray (Q.out N w0 β0 L0) fuel listed a w:=by
 simp only [J4a,Mh] at chk
 obtain⟨⟨⟨⟨b2,b8⟩,h9⟩,b9⟩,d2⟩:=chk
 have b3:∀ x∈ws,x < ops.length:=fun x hx=>by
  simp only [List.all_eq_true,Mi] at b9; exact b9 x hx
 have anc:∀ {i z:Nat},((Gbf ops).getD i []).contains z=true→Anc ops.toArray i z:=fun h=>R13 (by simpa using h)
 have down:∀ i o e,ops[i]? = some o→e∈o.after→Region.binds .any e=true→e.on < i:=by
  intro i o e ho he hb
  have hi:i < ops.length:=(M3 ho).1
  simp only [J49,List.all_eq_true,List.mem_range] at b2
  have:=b2 i hi
  rw [ho] at this
  simp only [List.all_eq_true,Mi] at this
  exact this e.on (Mm.2 ⟨e,Mp.2 ⟨Array.mem_toList_iff.2 he,hb⟩,rfl⟩)
 -- when nothing is ready, all is done
 have finish:∀ (listed:Array Bool) (a:Act) (w:World),listed.getD p false=false→Ybd P N ops ws Ls l0 val w0 β0 L0 listed a w→(∀ i,i < ops.length→listed.getD i false=true)→Q.out N w0 β0 L0 .normal a w:=by
  intro listed a w h1 hs h5
  rcases hT with ⟨hp,hQ⟩ | ⟨hp,_⟩
  ·obtain⟨β,L,hL,h4⟩:=hs.st
   have e1:cnt (fun i=>listed.getD i false) ws=ws.length:=by
    unfold cnt
    rw [List.filter_eq_self.2 fun x hx=>h5 x (b3 x hx)]
   rw [e1] at hL
   rw [Jb3 ops l0 val _ ops.length (fun j hj=>h5 j hj),hp] at h4
   exact⟨β,_,L,h4,hQ L hL⟩
  ·rw [h5 p (by omega)] at h1; cases h1
 have stuck:∀ (listed:Array Bool),listed.size=ops.length→Region.ready .any ops.toArray listed=[]→∀ i,i < ops.length→listed.getD i false=true:=by
  intro listed f3 hr i
  induction i using Nat.strongRecOn with
  | _ i ih=>
   intro hi
   cases hd:listed.getD i false with
   | true=>rfl
   | false=>
    exfalso
    have:i∈Region.ready .any ops.toArray listed:=mem_ready.2 ⟨by rw [G13 (by omega)]; exact hd,ops[i],by simp [hi],fun e he hb=>by
     have:=down i ops[i] e (by simp [hi]) he hb
     exact ih e.on this (by omega)⟩
    rw [hr] at this; cases this
 intro fuel
 induction fuel with
 | zero=>
  intro listed a w hu b4 hs
  have h5:∀ i,i < ops.length→listed.getD i false=true:=by
   intro i hi
   cases hd:listed.getD i false with
   | true=>rfl
   | false=>
    have:i∈(List.range ops.length).filter fun i=>!listed.getD i false:=Mp.2 ⟨List.mem_range.2 hi,by rw [hd]; rfl⟩
    have h0:(List.range ops.length).filter (fun i=>!listed.getD i false)=[]:=Ku (by unfold unl at hu; omega)
    rw [h0] at this; cases this
  refine⟨?_,finish listed a w b4 hs h5⟩
  cases hr:Region.ready .any ops.toArray listed with
  | nil=>rfl
  | cons i r=>
   have hm:i∈Region.ready .any ops.toArray listed:=by rw [hr]; simp
   obtain⟨h1,o,ho,_⟩:=mem_ready.1 hm
   have hi:i < ops.length:=by have:=(Ks ho).1; simpa using this
   rw [G13 (by rw [hs.size]; exact hi),h5 i hi] at h1
   cases h1
 | succ fuel ih=>
  intro listed a w hu b4 hs
  refine⟨fun hr=>finish listed a w b4 hs (stuck listed hs.size hr),fun i hi=>?_⟩
  obtain⟨h1,o,ho,b5⟩:=mem_ready.1 hi
  have a0:ops[i]? = some o:=by simpa using ho
  have a7:i < ops.length:=(M3 a0).1
  have h6:listed.getD i false=false:=by rw [← G13 (by rw [hs.size]; exact a7)]; exact h1
  obtain⟨β,L,hL,h4⟩:=hs.st
  have h7:∀ j,Anc ops.toArray i j→listed.getD j false=true:=fun j hj=>hj.ready hs.closed (fun o' e a3 he hb=>by
   rw [ho] at a3; cases a3; exact b5 e he hb)
  have a6:∀ (m:Nat) x y,ws[m]? = some x→ws[m+1]? = some y→listed.getD y false=true→listed.getD x false=true:=fun m x y h1 h2 hy=>hs.closed.anc (anc (J2a h9 m x y h1 h2).1) hy
  -- what a slot that operation i names has to do with the others
  have names:∀ j t,j < ops.length→j≠i→(ops[j]?).bind (·.dst)=some t→t∈Gae ops.toArray o→(j < i∧Anc ops.toArray i j)∨(i < j∧Anc ops.toArray j i):=by
   intro j t hj c0 hd ht
   simp only [R2f,List.all_eq_true,List.mem_range] at b8
   have:=b8 j hj
   rw [hd] at this
   simp only [List.all_eq_true,List.mem_range] at this
   have:=this i a7
   rw [a0] at this
   have hc:(Gae ops.toArray o).contains t=true:=by simpa using ht
   simp only [hc,Bool.not_true,Bool.false_or,Mq,beq_iff_eq,Ne.symm c0,false_or,ordered] at this
   rcases Kx i j with h | h
   ·rw [if_pos h] at this; exact .inr ⟨h,anc this⟩
   ·rw [if_neg (by omega)] at this; exact .inl ⟨by omega,anc this⟩
  have later:∀ j t,i < j→j < ops.length→(ops[j]?).bind (·.dst)=some t→t∈Gae ops.toArray o→listed.getD j false=false:=by
   intro j t d9 hj hd ht
   rcases names j t hj (by omega) hd ht with h | h
   ·omega
   ·cases hl:listed.getD j false with
    | false=>rfl
    | true=>
     have:listed.getD i false=true:=hs.closed.anc h.2 hl
     rw [this] at h6; cases h6
  have earlier:∀ j t,j < i→(ops[j]?).bind (·.dst)=some t→t∈Gae ops.toArray o→listed.getD j false=true:=by
   intro j t d9 hd ht
   rcases names j t (by omega) (by omega) hd ht with h | h
   ·exact h7 j h.2
   ·omega
  -- the frame that operation i sees
  have c7:Q8 a w β L (G37 (o.looksAt ops.toArray) (G0c ops l0 val (fun _=>true) i)):=by
   refine⟨fun t=>?_⟩
   rw [J7d]
   split
   ·rename_i ht
    have hn:t∈Gae ops.toArray o:=List.mem_append_right _ ht
    have hv:=h4.frame.tmp t
    rw [Gaf] at hv ⊢
    have e1:G23 ops (fun i=>listed.getD i false) t ops.length=G23 ops (fun i=>listed.getD i false) t i:=
     H79 ops _ t i ops.length (by omega) (fun j h1 h2 hd=>by
      rcases Kx i j with h | h
      ·exact later j t h h2 hd hn
      ·have:j=i:=by omega
       subst this; exact h6)
    have e2:G23 ops (fun i=>listed.getD i false) t i=G23 ops (fun _=>true) t i:=H2d ops _ _ t i (fun j hj hd=>earlier j t hj hd hn)
    rw [e1,e2] at hv
    exact hv
   ·exact .junk
  -- behind it
  let listed':=listed.setIfInBounds i true
  have h8:∀ j,listed'.getD j false=if j=i then true else listed.getD j false:=by
   intro j
   simp only [listed',Array.getD_eq_getD_getElem?,Array.getElem?_setIfInBounds]
   by_cases e:i=j
   ·subst e; simp [hs.size,a7]
   ·simp [e,Ne.symm e]
  by_cases d3:i=p
  ·subst d3
   rcases hT with ⟨hp,_⟩ | ⟨hp,last,b6,c1,d4,hQ⟩
   ·omega
   have h5:∀ j,j < i→listed.getD j false=true:=fun j hj=>by
    simp only [List.all_eq_true,List.mem_range] at c1
    exact h7 j (anc (c1 j hj))
   have e1:cnt (fun i=>listed.getD i false) ws=ws.length:=by
    unfold cnt
    rw [List.filter_eq_self.2 fun x hx=>h5 x (by
     have h1:=b3 x hx
     have h2:x≠i:=fun e=>by subst e; simp at d4; exact d4 hx
     omega)]
   rw [e1] at hL
   have e2:G0c ops l0 val (fun i=>listed.getD i false) ops.length=G0c ops l0 val (fun _=>true) i:=by
    rw [hp]
    have:G0c ops l0 val (fun i=>listed.getD i false) (i+1)=G0c ops l0 val (fun i=>listed.getD i false) i:=by
     simp only [G0c,h6]
     cases (ops[i]?).bind (·.dst) <;> simp
    rw [this]
    exact Jb3 ops l0 val _ i (fun j hj=>h5 j hj)
   rw [e2] at h4
   have a2:=hQ a w β L hL h4
   have hr:Region.ready .any ops.toArray listed'=[]:=by
    cases hr:Region.ready .any ops.toArray listed' with
    | nil=>rfl
    | cons j r=>
     have hm:j∈Region.ready .any ops.toArray listed':=by rw [hr]; simp
     obtain⟨h1,o2,a3,_⟩:=mem_ready.1 hm
     have hj:j < ops.length:=by have:=(Ks a3).1; simpa using this
     rw [G13 (by simp [listed',hs.size]; exact hj),h8 j] at h1
     by_cases e:j=i
     ·rw [if_pos e] at h1; cases h1
     ·rw [if_neg e,h5 j (by omega)] at h1; cases h1
   have c2:∀ a w,Q.out N w0 β0 L0 .normal a w→wpAnyIn (FR ro) n P .any ops.toArray (Q.out N w0 β0 L0) fuel listed' a w:=fun a w h=>by
    cases fuel with
    | zero=>exact⟨hr,h⟩
    | succ f=>exact⟨fun _=>h,fun j hj=>by rw [hr] at hj; cases hj⟩
   rw [a0] at b6; cases b6
   unfold wpOpIn
   rw [ho]
   simp only [wpListIn] at a2
   show if _ then _ else _
   split
   ·rename_i hw; rw [if_pos hw] at a2; exact Oper.wpIn_mono c2 a2
   ·rename_i hw; rw [if_neg hw] at a2; exact⟨a2.1,c2 _ _ a2.2⟩
  have c8:∀ (L':Loc) (v:Value) (w':World) (β':H5),Ls[cnt (fun i=>listed'.getD i false) ws]? = some L'→Sat w' β' L'→Step w β L w' β' L'→V w' β' L' (val i) v →
    wpAnyIn (FR ro) n P .any ops.toArray (Q.out N w0 β0 L0) fuel listed' (a.put o.dst v) w':=by
   intro L' v w' β' c3 c9 b0 e0
   refine ih listed' _ w' ?_ (by rw [h8 p,if_neg (fun e=>d3 e.symm)]; exact b4) ⟨by simp [listed',hs.size],⟨fun k o2 e hk a3 he hb=>?_⟩,β',L',c3,c9,h4.step.trans b0,⟨fun t=>?_⟩,by rw [Act.put_size]; exact h4.size,h4.base,by rw [Act.put_defers']; exact h4.defers.step b0⟩
   ·-- one fewer is left
    have f1:((List.range ops.length).filter fun j=>!listed'.getD j false).length < ((List.range ops.length).filter fun j=>!listed.getD j false).length:=by
     have:(List.range ops.length).filter (fun j=>!listed'.getD j false)=((List.range ops.length).filter fun j=>!listed.getD j false).filter (fun j=>j != i):=by
      rw [List.filter_filter]
      congr 1
      funext j
      rw [h8 j]
      by_cases e:j=i <;> simp [e]
     rw [this]
     refine Nat.lt_of_le_of_ne (Kw _ _) (fun e=>?_)
     have:=List.length_filter_eq_length_iff.1 e i (Mp.2 ⟨List.mem_range.2 a7,by rw [h6]; rfl⟩)
     simp at this
    unfold unl at hu ⊢; omega
   ·rw [h8] at hk ⊢
    by_cases e':e.on=i
    ·rw [if_pos e']
    ·rw [if_neg e']
     by_cases e2:k=i
     ·subst e2
      rw [ho] at a3; cases a3
      exact b5 e he hb
     ·rw [if_neg e2] at hk
      exact hs.closed.edge k o2 e hk a3 he hb
   ·rw [Gaf]
    by_cases hd:o.dst=some t
    ·have hn:t∈Gae ops.toArray o:=List.mem_append_left _ (by simp [hd])
     have e3:(ops[i]?).bind (·.dst)=some t:=by rw [a0]; exact hd
     have e1:G23 ops (fun i=>listed'.getD i false) t ops.length=G23 ops (fun i=>listed'.getD i false) t (i+1):=
      H79 ops _ t (i+1) ops.length (by omega) (fun j h1 h2 b7=>by rw [h8 j,if_neg (by omega)]; exact later j t (by omega) h2 b7 hn)
     have e2:G23 ops (fun i=>listed'.getD i false) t (i+1)=some i:=by simp only [G23]; rw [if_pos ⟨by rw [h8 i,if_pos rfl],e3⟩]
     rw [e1,e2,hd,J25 (Kt (pc.lt i o t a0 hd) h4.size),if_pos rfl]
     exact e0
    ·have e1:G23 ops (fun i=>listed'.getD i false) t ops.length=G23 ops (fun i=>listed.getD i false) t ops.length:=
      H2d ops _ _ t ops.length (fun j hj b7=>by
       rw [h8 j,if_neg (fun e=>hd (by subst e; rw [a0] at b7; exact b7))])
     have hv:=(h4.frame.tmp t).step b0
     rw [Gaf] at hv
     rw [e1]
     have e2:(a.put o.dst v).tmps.getD t undef=a.tmps.getD t undef:=by
      cases d5:o.dst with
      | none=>rfl
      | some d=>
       have c4:d < a.tmps.size:=Kt (pc.lt i o d a0 d5) h4.size
       rw [J25 c4,if_neg (fun e=>hd (by rw [d5,e]))]
     rw [e2]; exact hv
  unfold wpOpIn
  rw [ho]
  have fin:(∃ L',Ls[cnt (fun i=>listed'.getD i false) ws]? = some L'∧Gc5 P N ops.toArray o (G37 (o.looksAt ops.toArray) (G0c ops l0 val (fun _=>true) i)) L (val i) L') →
    if Region.wanted o (yielded ops.toArray a.tmps)=true then Oper.wpIn (FR ro) n P o a w (wpAnyIn (FR ro) n P .any ops.toArray (Q.out N w0 β0 L0) fuel listed') (Q.out N w0 β0 L0) else (∀ f,o.about P w a.eval=some f→(FR ro).fn f)∧wpAnyIn (FR ro) n P .any ops.toArray (Q.out N w0 β0 L0) fuel listed' (a.put o.dst undef) w:=by
   rintro⟨L',c3,hO⟩
   have:=hO a w β (wpAnyIn (FR ro) n P .any ops.toArray (Q.out N w0 β0 L0) fuel listed') (Q.out N w0 β0 L0) h4.sat c7 h4.size (fun v w' β' h1 h2 h3=>c8 L' v w' β' c3 h1 h2 h3)
   split
   ·rename_i hw; rw [if_pos hw] at this; exact H68 (d8 i o a0) this
   ·rename_i hw; rw [if_neg hw] at this; exact⟨fun _ _=>trivial,this⟩
  apply fin
  have a5:=pc.step i o (by rcases hT with ⟨hp,_⟩ | ⟨hp,_⟩ <;> omega) a0
  have d7:∀ (hw:ws.idxOf? i=none),cnt (fun i=>listed'.getD i false) ws=cnt (fun i=>listed.getD i false) ws:=by
   intro hw
   unfold cnt
   congr 1
   refine List.filter_congr fun x hx=>?_
   rw [h8 x,if_neg (fun e=>by subst e; exact absurd (List.idxOf?_eq_none_iff.1 hw) (by simpa using hx))]
  cases a8:ws.idxOf? i with
  | none=>
   rw [a8] at a5
   simp only at a5
   refine⟨L,by rw [d7 a8]; exact hL,?_⟩
   -- the stage lies between lo and hi
   simp only [List.all_eq_true,List.mem_range] at d2
   have b1:=d2 i a7
   have e4:ws.contains i=false:=by
    cases hc:ws.contains i with
    | false=>rfl
    | true=>exact absurd (List.idxOf?_eq_none_iff.1 a8) (by simpa using hc)
   rw [e4] at b1
   simp only [Bool.false_or,Mh,beq_iff_eq] at b1
   obtain⟨e5,e6⟩:=b1
   have h1:los.getD i 0≤cnt (fun i=>listed.getD i false) ws:=by
    rw [e5]; unfold Y1e cnt
    have:ws.filter (fun w=>((Gbf ops).getD i []).contains w)=(ws.filter fun w=>listed.getD w false).filter (fun w=>((Gbf ops).getD i []).contains w):=by
     rw [List.filter_filter]
     refine List.filter_congr fun x _=>?_
     cases hc:((Gbf ops).getD i []).contains x with
     | false=>simp
     | true=>simp [h7 x (anc hc)]
    rw [this]; exact Kw _ _
   have h2:cnt (fun i=>listed.getD i false) ws≤his.getD i 0:=by
    rw [e6]; unfold Y1f cnt
    have:ws.filter (fun w=>listed.getD w false)=(ws.filter fun w=>!((Gbf ops).getD w []).contains i).filter (fun w=>listed.getD w false):=by
     rw [List.filter_filter]
     refine List.filter_congr fun x _=>?_
     cases hc:listed.getD x false with
     | false=>simp
     | true=>
      cases e7:((Gbf ops).getD x []).contains i with
      | false=>simp
      | true=>
       have:listed.getD i false=true:=hs.closed.anc (anc e7) hc
       rw [this] at h6; cases h6
    rw [this]; exact Kw _ _
   refine Q21 a5 (i:=cnt (fun i=>listed.getD i false) ws - los.getD i 0) ?_
   unfold J1b
   rw [Md,if_pos (by omega),Me]
   rw [show los.getD i 0+(cnt (fun i=>listed.getD i false) ws - los.getD i 0)=cnt (fun i=>listed.getD i false) ws by omega]
   exact hL
  | some m=>
   rw [a8] at a5
   simp only at a5
   obtain⟨L1,L2,e8,e9,hO⟩:=a5
   have a9:ws[m]? = some i:=by
    have:=List.idxOf?_eq_some_iff.1 a8
    obtain⟨h,e,_⟩:=this
    simp [h,e]
   -- the stage is m
   have c5:cnt (fun i=>listed.getD i false) ws=m:=by
    have f4:¬ m < cnt (fun i=>listed.getD i false) ws:=fun h=>by
     have:=(H16 (Dn:=fun i=>listed.getD i false) a6 m i a9).2 h
     simp only [h6] at this; cases this
    rcases Kx (cnt (fun i=>listed.getD i false) ws) m with h | h
    ·exfalso
     -- the one bf i is done
     have f0:m - 1 < ws.length:=by have:=(M3 a9).1; omega
     have d6:ws[m - 1]? = some ws[m - 1]:=by simp [f0]
     have:=J2a h9 (m - 1) ws[m - 1] i d6 (by rw [show m - 1+1=m by omega]; exact a9)
     have d0:=h7 _ (anc this.1)
     have:=(H16 (Dn:=fun i=>listed.getD i false) a6 (m - 1) _ d6).1 d0
     omega
    ·omega
   have a4:∀ (k:Nat) x y,ws[k]? = some x→ws[k+1]? = some y→listed'.getD y false=true→listed'.getD x false=true:=by
    intro k x y hx hy c6
    rw [h8] at c6 ⊢
    by_cases e:x=i
    ·rw [if_pos e]
    ·rw [if_neg e]
     by_cases e2:y=i
     ·subst e2; exact h7 _ (anc (J2a h9 k x y hx hy).1)
     ·rw [if_neg e2] at c6; exact a6 k x y hx hy c6
   have d1:cnt (fun i=>listed'.getD i false) ws=m+1:=by
    have a1:=(H16 (Dn:=fun i=>listed'.getD i false) a4 m i a9).1 (by simp only [h8,if_pos])
    rcases Kx (m+1) (cnt (fun i=>listed'.getD i false) ws) with h | h
    ·exfalso
     have f2:cnt (fun i=>listed'.getD i false) ws≤ws.length:=Kw _ _
     have c4:m+1 < ws.length:=by omega
     have hx:ws[m+1]? = some ws[m+1]:=by simp [c4]
     have hd:=(H16 (Dn:=fun i=>listed'.getD i false) a4 (m+1) _ hx).2 h
     have c0:ws[m+1]≠i:=fun e=>by
      have:=(J2a h9 m i ws[m+1] a9 hx).2
      omega
     simp only [h8,if_neg c0] at hd
     have:=(H16 (Dn:=fun i=>listed.getD i false) a6 (m+1) _ hx).1 hd
     omega
    ·omega
   rw [c5] at hL
   rw [e8] at hL; cases hL
   exact⟨L2,by rw [d1]; exact e9,hO⟩

theorem Rk.drew {N:Cfg} {w0 w:World} {β0 β:H5} {L0 L:Loc} {a:Act} {l:Fr} (h:Rk N w0 β0 L0 a w β l L):Rk N w0 β0 L0 a w.drew β l L:=by
 have st:Step w β L w.drew β L:=⟨rfl,rfl,⟨rfl,Nat.le_succ _⟩,M8,fun _ _ _=>Iff.rfl,fun _ _ h=>⟨⟨h.lt,h.seen,h.kept⟩,rfl⟩,fun _ _ h=>⟨rfl,h⟩,fun _ _ cs h=>⟨rfl,cs,h⟩,fun _ _ es h=>⟨rfl,es,h⟩,fun _ _ n es h=>⟨rfl,n,es,h⟩,fun _ _ _ ver xs h=>⟨ver,xs,h,M8,fun _=>⟨rfl,rfl,fun _ _=>rfl⟩⟩,fun _ _ _ ver hw h=>⟨ver,hw,h,M8,fun _=>⟨rfl,rfl,fun _ _=>rfl⟩⟩⟩
 exact⟨⟨h.sat.hid,h.sat.bnd,h.sat.apart,h.sat.inj,fun id o ho=>(h.sat.obj id o ho).step st (fun _ _=>rfl)⟩,h.step.trans st,h.frame.step st,h.size,h.base,h.defers.step st⟩

theorem J5 {id:Nat} {Q:Post} {l:Fr} {L L':Loc} (ws los his:List Nat) (Ls:List Loc) (hm:P.follows .mixedOrders=true) (chk:J4a ops ws los his=true) (h0:Ls[0]? = some L) (h1:Ls[ws.length]? = some L')
  (h:G88 P N ops.toArray ws los his Ls 0 ops l (fun l'=>Q.norm l' L')) (h2:ops.all G54=true:=by rfl):JC P N (.region id ops.toArray true) Q l L:=by
 obtain⟨val,pc,hK⟩:=Jdf ops ws los his Ls l _ ops.length (M8) (fun j o d hj ho _=>by have:=(M3 ho).1; omega) ops 0 (fun _=>.junk) (fun j _=>by simp) (by simp) (fun j o hj=>by omega) h
 intro n w0 β0 L0 a w β hs
 refine wpIn_region_any hm ?_
 rw [List.size_toArray]
 refine R0c (ro:=N.ro) (n:=n) (fun i o hi=>List.all_eq_true.1 h2 o (M6 hi)) chk pc (.inl ⟨rfl,fun L'' hL''=>by rw [h1] at hL''; cases hL''; exact hK⟩) ops.length (Array.replicate ops.length false) a _ ?_ (by simp only [Array.getD_eq_getD_getElem?,Array.getElem?_replicate]; split <;> rfl) ⟨by simp,⟨fun i o e hi=>?_⟩,β,L,?_,?_⟩
 ·exact Nat.le_trans (Kw _ _) (by simp)
 ·simp only [Array.getD_eq_getD_getElem?,Array.getElem?_replicate] at hi
  split at hi <;> simp at hi
 ·have:cnt (fun i=>(Array.replicate ops.length false).getD i false) ws=0:=by
   unfold cnt
   have hf:∀ i,(Array.replicate ops.length false).getD i false=false:=fun i=>by
    simp only [Array.getD_eq_getD_getElem?,Array.getElem?_replicate]; split <;> rfl
   simp [hf]
  rw [this]; exact h0
 ·have this:G0c ops l val (fun i=>(Array.replicate ops.length false).getD i false) ops.length=l:=by
   have hf:(fun i=>(Array.replicate ops.length false).getD i false)=fun _=>false:=by
    funext i
    simp only [Array.getD_eq_getD_getElem?,Array.getElem?_replicate]; split <;> rfl
   rw [hf]
   have:∀ n,G0c ops l val (fun _=>false) n=l:=by
    intro n
    induction n with
    | zero=>rfl
    | succ n ih=>
     cases hd:(ops[n]?).bind (·.dst) with
     | none=>simp only [G0c,hd]; exact ih
     | some d=>simp only [G0c,hd,Bool.false_eq_true,if_false]; exact ih
   exact this _
  rw [this]; exact hs.drew
end sound

/-! ### Open orders in which nothing turns the local memory: without stages -/
section plain
variable {P:Program} {N:Cfg} {ops:Array Oper} {o:Oper} {r:List Oper} {l:Fr} {L:Loc} {K:Fr→Prop}
def H19 (P:Program) (N:Cfg) (ops:Array Oper) (L:Loc):List Oper→Fr→(Fr→Prop)→Prop
 | [],l,K=>K l
 | o::r,l,K=>∃ u,Gc5 P N ops o (G37 (o.looksAt ops) l) L u L∧(match o.dst with
   | some d=>Nat.blt d N.n=true∧H19 P N ops L r ((d,u)::l) K
   | none=>H19 P N ops L r l K)
theorem H19.pre {zs:List Nat} (hz:∀ i,zs.getD i 0=0):∀ {r:List Oper} {i:Nat} {l:Fr},H19 P N ops L r l K→G88 P N ops [] zs zs [L] i r l K
 | [],_,_,h=>h
 | o::r,i,l,h=>by
  obtain⟨u,h1,h2⟩:=h
  refine⟨u,?_,?_⟩
  ·rw [hz i]; exact⟨h1,trivial⟩
  ·cases hd:o.dst with
   | some d=>rw [hd] at h2; exact⟨h2.1,h2.2.pre hz⟩
   | none=>rw [hd] at h2; exact H19.pre hz h2
theorem JC_d0 {ops:List Oper} {id:Nat} {Q:Post} (hm:P.follows .mixedOrders=true) (chk:J4a ops [] (List.replicate ops.length 0) (List.replicate ops.length 0)=true) (h:H19 P N ops.toArray L ops l (fun l'=>Q.norm l' L)) (h0:ops.all G54=true:=by rfl):JC P N (.region id ops.toArray true) Q l L:=
 J5 [] _ _ [L] hm chk rfl rfl (h.pre (fun i=>by simp only [List.getD_eq_getElem?_getD,List.getElem?_replicate]; split <;> rfl)) h0
theorem Dq (v:AV) {d:Nat} (h:H2 P o (G37 (o.looksAt ops) l) L (Is v L)) (hd:o.dst=some d) (hk:H19 P N ops L r ((d,v)::l) K) (hg:o.guard=none:=by rfl) (hn:Nat.blt d N.n=true:=by rfl):H19 P N ops L (o::r) l K:=
 ⟨v,Ge h hg,by rw [hd]; exact⟨hn,hk⟩⟩
theorem Do (v:AV) (ts:List Nat) {d:Nat} {want c:Bool} {gv:AV} (hg:grd ops (G37 (o.looksAt ops) l) o=some (want,gv)) (h0:J07 gv want c) (h5:J68 c (G37 (o.looksAt ops) l) (Jd4 (G37 (o.looksAt ops) l) ts))
  (h:c=true→H2 P o (Jd4 (G37 (o.looksAt ops) l) ts++G37 (o.looksAt ops) l) L (Is v L)) (hd:o.dst=some d) (hk:H19 P N ops L r ((d,.opt c v)::l) K) (h6:Ye2 ops N.n o=true:=by rfl) (hn:Nat.blt d N.n=true:=by rfl):H19 P N ops L (o::r) l K:=by
 obtain⟨j,dj,h1,h2,h3,h4⟩:=Y33 hg h6
 exact⟨.opt c v,H6 _ h1 h2 h3 h0 h5 h h4,by rw [hd]; exact⟨hn,hk⟩⟩
theorem Dg (v:AV) {d:Nat} (h:Gc5 P N ops o (G37 (o.looksAt ops) l) L v L) (hd:o.dst=some d) (hk:H19 P N ops L r ((d,v)::l) K) (hn:Nat.blt d N.n=true:=by rfl):H19 P N ops L (o::r) l K:=
 ⟨v,h,by rw [hd]; exact⟨hn,hk⟩⟩
theorem Dnil (h:K l):H19 P N ops L [] l K:=h
end plain

structure Gd7 (P:Program) (k:TypeId) {κ:Type} (kv:κ→Value):Prop where
 inj:∀ a b,kv a=kv b→a=b
 check:∀ (w:World) (em:Bool) a,(Instr.checkKey em 10000 k (kv a)).run P w=.ok () w
 find:∀ (w:World) a (es:List MapEntry),(∀ e∈es,∃ b,e.key=kv b) →
  ((Instr.findKey k (kv a) es).run P w=.ok none w∧∀ e∈es,e.key≠kv a)∨∃ j e,(Instr.findKey k (kv a) es).run P w=.ok (some (j,e.val)) w∧es[j]? = some e∧e.key=kv a
 stays:∀ (w:World) a,(Instr.keyThatStays (kv a) (kv a)).run P w=.ok (kv a) w

theorem Gd7.of_int {P:Program} {k:TypeId} {kd:IntKind} (h:Jb1 P k kd=true):Gd7 P k (fun n:Int=>Value.int kd n) where
 inj:=fun a b e=>by cases e; rfl
 check:=fun w em a=>by
  show (Instr.checkKey em (9999+1) k (.int kd a)).run P w=.ok () w
  generalize 9999=n
  simp only [Instr.checkKey,underlying,run_program,Sem.run_bind,Result.andThen_ok,Jb1.out h,Sem.run_pure]
 find:=fun w a es he=>by
  have key:∀ (es:List MapEntry) (i:Nat),(∀ e∈es,∃ b,e.key=Value.int kd b) →
    (Instr.findNow (.int kd) (.int kd a) es i=some none∧∀ e∈es,e.key≠.int kd a)∨∃ j e,Instr.findNow (.int kd) (.int kd a) es i=some (some (i+j,e.val))∧es[j]? = some e∧e.key=.int kd a:=by
   intro es
   induction es with
   | nil=>intro i _; exact .inl ⟨rfl,by simp⟩
   | cons x r ih=>
    intro i he
    obtain⟨b,hb⟩:=he x (by simp)
    by_cases e:a=b
    ·subst e
     exact .inr ⟨0,x,by simp [Instr.findNow,Instr.sameNow,hb],rfl,hb⟩
    ·have hs:Instr.findNow (.int kd) (.int kd a) (x::r) i=Instr.findNow (.int kd) (.int kd a) r (i+1):=by
      have e':(a==b)=false:=by simp [e]
      simp [Instr.findNow,Instr.sameNow,hb,e']
     rcases ih (i+1) (fun y hy=>he y (by simp [hy])) with ⟨h1,h2⟩ | ⟨j,y,h1,h2,h3⟩
     ·refine .inl ⟨by rw [hs]; exact h1,fun y hy=>?_⟩
      rcases Mo.1 hy with rfl | hy
      ·rw [hb]; intro e'; cases e'; exact e rfl
      ·exact h2 y hy
     ·exact .inr ⟨j+1,y,by rw [hs,h1]; congr 3; omega,by simpa using h2,h3⟩
  rcases key es 0 he with ⟨h1,h2⟩ | ⟨j,e,h1,h2,h3⟩
  ·exact .inl ⟨by simp [Instr.findKey,underlying,Jb1.out h,h1],h2⟩
  ·exact .inr ⟨j,e,by simp [Instr.findKey,underlying,Jb1.out h,h1],h2,h3⟩
 stays:=fun w a=>by simp [Instr.keyThatStays,Instr.sameBits]

/-! ### A map aQ a list of keys and elements -/
section plain
variable {κ ν:Type} [DecidableEq κ]
def G31 (l:List (κ×ν)) (a:κ):Option ν:=(l.find? fun p=>p.1=a).map (·.2)
def G38 (l:List (κ×ν)) (a:κ):Nat:=l.findIdx fun p=>p.1=a
def G39 (l:List (κ×ν)) (a:κ):Bool:=l.any fun p=>p.1=a
def H02 (l:List (κ×ν)) (a:κ) (v:ν):List (κ×ν):=if G39 l a then l.map fun p=>if p.1=a then (a,v) else p else l++[(a,v)]
def H2c (l:List (κ×ν)) (a:κ) (z:ν):List (κ×ν):=if G39 l a then l else l++[(a,z)]
end plain
def mapOf {κ ν:Type} (kv:κ→Value) (av:ν→AV) (l:List (κ×ν)):List (Value×AV):=l.map fun p=>(kv p.1,av p.2)

section plain
variable {κ ν:Type} [DecidableEq κ]
theorem Qfe {l:List (κ×ν)} {a:κ} (h:∀ p∈l,p.1≠a):G31 l a=none:=by
 unfold G31
 rw [List.find?_eq_none.2 fun p hp=>by simpa using h p hp]; rfl
theorem Heb {l:List (κ×ν)} {a:κ} (h:∀ p∈l,p.1≠a):G39 l a=false:=by
 unfold G39
 rw [List.any_eq_false]; intro p hp; simpa using h p hp
theorem H11 {l:List (κ×ν)} {a:κ} {p:κ×ν} (hp:p∈l) (h:p.1=a):G39 l a=true:=by
 unfold G39
 rw [List.any_eq_true]; exact⟨p,hp,by simpa using h⟩
theorem Hec:∀ {l:List (κ×ν)},(l.map (·.1)).Nodup→∀ {j:Nat} {a:κ} {v:ν},l[j]? = some (a,v)→G31 l a=some v∧G38 l a=j
 | [],_,j,a,v,h=>by simp at h
 | (b,u)::r,hn,j,a,v,h=>by
  simp only [List.map_cons,List.nodup_cons] at hn
  cases j with
  | zero=>simp at h; obtain⟨rfl,rfl⟩:=h; simp [G31,G38,List.findIdx_cons]
  | succ j=>
   simp at h
   have h0:b≠a:=fun e=>hn.1 (by subst e; exact Mm.2 ⟨(b,v),M6 h,rfl⟩)
   obtain⟨h1,h2⟩:=Hec hn.2 h
   simp only [G31,G38] at h1 h2 ⊢
   simp [List.findIdx_cons,h0,h1,h2]
theorem J40:∀ {l:List (κ×ν)} {a:κ},(∀ p∈l,p.1≠a)→G38 l a=l.length
 | [],_,_=>rfl
 | (b,u)::r,a,h=>by
  have hb:b≠a:=h (b,u) (by simp)
  have:=J40 (l:=r) (a:=a) (fun p hp=>h p (by simp [hp]))
  simp only [G38] at this ⊢
  simp [List.findIdx_cons,hb,this]
end plain

/-! ### One object of the call's own is changed -/
def Ji.alike:Ji→Ji→Prop
 | .map t _,.map t' _=>t=t'
 | .iter m _ _,.iter m' _ _=>m=m'
 | _,_=>False

theorem Step.change {w w':World} {β:H5} {L:Loc} {i b:Nat} {o o':Ji} (h7:Sat w β L) (hi:lk L i=some o) (hb:β i=some b) (ha:o.alike o')
  (h1:w'.os=w.os) (h2:w'.tape=w.tape) (h3:w'.output=w.output∧w.drawn≤w'.drawn) (h4:w'.heap.size=w.heap.size) (h5:∀ k,k≠b→w'.heap[k]? = w.heap[k]?):Step w β L w' β ((i,o')::L) where
 os:=h1
 tape:=h2
 output:=h3
 size:=by omega
 hid:=fun _ _ _=>Iff.rfl
 stab:=fun b' j hs=>by
  have h0:b'≠b:=fun e=>by subst e; have:=hs.kept i _ hi hb; cases o <;> cases o' <;> simp [Ji.alike] at ha <;> exact this
  refine⟨⟨by rw [h4]; exact hs.lt,hs.seen,fun id o2 hid h6=>?_⟩,Q2 (w:=w) (h5 b' h0)⟩
  rw [Gi] at hid
  by_cases e:i=id
  ·subst e; rw [hb] at h6; exact absurd (M5 h6) (Ne.symm h0)
  ·rw [if_neg e] at hid; exact hs.kept id o2 hid h6
 far:=fun b' h9 hf=>by
  have h0:b'≠b:=fun e=>by subst e; exact hf i (by rw [hi]; rfl) hb
  refine⟨h5 b' h0,fun id hid=>?_⟩
  rw [Gi] at hid
  by_cases e:i=id
  ·subst e; rw [hb]; exact fun e=>h0 (M5 e).symm
  ·rw [if_neg e] at hid; exact hf id hid
 box:=fun id t' cs hid=>by
  refine⟨rfl,cs,?_⟩
  rw [Gi,if_neg (fun e=>by subst e; rw [hi] at hid; cases hid; cases o' <;> simp [Ji.alike] at ha)]; exact hid
 map:=fun id t' es hid=>by
  refine⟨rfl,?_⟩
  rw [Gi]
  by_cases e:i=id
  ·subst e; rw [hi] at hid; cases hid
   cases o' <;> simp [Ji.alike] at ha
   subst ha; exact⟨_,if_pos rfl⟩
  ·exact⟨es,by rw [if_neg e]; exact hid⟩
 iter:=fun id m n es hid=>by
  refine⟨rfl,?_⟩
  rw [Gi]
  by_cases e:i=id
  ·subst e; rw [hi] at hid; cases hid
   cases o' <;> simp [Ji.alike] at ha
   subst ha; exact⟨_,_,if_pos rfl⟩
  ·exact⟨n,es,by rw [if_neg e]; exact hid⟩
 vec:=fun id t' k ver xs hid=>by
  have e:i≠id:=fun e=>by subst e; rw [hi] at hid; cases hid; cases o' <;> simp [Ji.alike] at ha
  refine⟨ver,xs,by rw [Gi,if_neg e]; exact hid,M8,fun _=>⟨rfl,rfl,fun b' h8=>G18 (h5 b' (fun e'=>?_))⟩⟩
  subst e'
  exact e (h7.inj i id b' (by rw [hi]; rfl) (by rw [hid]; rfl) hb h8)
 spare:=fun id t' k ver hw hid=>by
  have e:i≠id:=fun e=>by subst e; rw [hi] at hid; cases hid; cases o' <;> simp [Ji.alike] at ha
  refine⟨ver,hw,by rw [Gi,if_neg e]; exact hid,M8,fun _=>⟨rfl,rfl,fun b' h8=>h5 b' (fun e'=>?_)⟩⟩
  subst e'
  exact e (h7.inj i id b' (by rw [hi]; rfl) (by rw [hid]; rfl) hb h8)

theorem Sat.change {w w':World} {β:H5} {L:Loc} {i b:Nat} {o o':Ji} (h0:Sat w β L) (hi:lk L i=some o) (hb:β i=some b) (st:Step w β L w' β ((i,o')::L)) (h4:w'.heap.size=w.heap.size) (h5:∀ k,k≠b→w'.heap[k]? = w.heap[k]?)
  (ho:Ge1 w' β ((i,o')::L) (some b) o'):Sat w' β ((i,o')::L):=by
 have h3:∀ id,(lk ((i,o')::L) id).isSome=true→(lk L id).isSome=true:=fun id h=>by
  rw [Gi] at h
  by_cases e:i=id
  ·subst e; rw [hi]; rfl
  ·rwa [if_neg e] at h
 refine⟨fun b i h=>by rw [h4]; exact h0.hid b i h,fun id b' hid h6=>by rw [h4]; exact h0.bnd id b' (h3 id hid) h6,fun id b' j hid h6=>h0.apart id b' j (h3 id hid) h6,fun id id' b' h1 h2=>h0.inj id id' b' (h3 id h1) (h3 id' h2),fun id ob hid=>?_⟩
 rw [Gi] at hid
 by_cases e:i=id
 ·subst e
  simp at hid; subst hid
  rw [hb]; exact ho
 ·rw [if_neg e] at hid
  refine(h0.obj id ob hid).step st (fun b' h6=>h5 b' (fun e'=>?_))
  subst e'
  exact e (h0.inj i id b' (by rw [hi]; rfl) (by rw [hid]; rfl) hb h6)

/-! ### The operations -/
def Zo (P:Program) (T K E:Nat):Bool:=match P.underlying T with | some (.map k e)=>k==K&&e==E&&Nat.blt T 1000000 | _=>false
theorem Zo.both {P:Program} {T K E:Nat} (h:Zo P T K E=true):P.underlying T=some (.map K E)∧Nat.blt T 1000000=true:=by
 unfold Zo at h; split at h
 ·simp only [Mh,beq_iff_eq] at h; obtain⟨⟨rfl,rfl⟩,h⟩:=h; exact⟨by assumption,h⟩
 ·cases h
theorem Zo.out {P:Program} {T K E:Nat} (h:Zo P T K E=true):P.underlying T=some (.map K E):=(Zo.both h).1

def Rv:Value→AV
 | .agg vs=>.agg (vs.toList.map .sc)
 | v=>.sc v
theorem H28 {w:World} {S:Nat→Nat→Prop} (v:Value):D w S (Rv v) v:=by
 cases v with
 | agg vs=>
  refine .agg (by simp) fun j u v hu hv=>?_
  simp only [Mc,Option.map_eq_some_iff] at hu
  obtain⟨x,hx,rfl⟩:=hu
  rw [Array.getElem?_toList] at hx
  rw [hx] at hv; cases hv; exact .sc
 | _=>exact .sc

section mops
variable {P:Program} {o:Oper} {l:Fr} {L:Loc} {u:AV}

theorem Y7d (i:Nat) {T:Nat} (ho:o.op=.makeMap T none) (hi:lk L i=none) (h1:Nat.blt T 1000000=true:=by rfl):H2 P o l L (Is (.mp i) ((i,.map T [])::L)):=by
 intro a w β K Q h0 hf hK
 have hr:(execOp a.eval o).run P w=.ok (.value (.map (some w.heap.size))) (w.alloc (.map #[] 0)):=by
  simp [execOp,ho,Instr.makeMap]
 unfold Oper.wp
 rw [hr]
 exact hK _ _ _ _ (upP β i (some w.heap.size)) ⟨rfl,rfl⟩ (h0.alloc hi _ (fun hs=>⟨_,rfl,.inl ⟨h1,#[],heap_alloc_new w _,rfl,fun i e k u he=>by simp at he⟩⟩)) (Step.alloc hi h0.bnd _) (.mp (t:=T) (es:=[]) (by simp [Gi]) (by simp [upP]))

theorem J22 {w:World} {β:H5} {i b:Nat} {t:TypeId} {es:List (Value×AV)} (h1:Sat w β L) (hi:lk L i=some (.map t es)) (hb:β i=some b) (h2:Nat.blt t 1000000=true):MapAt w (Ju w β L) b es:=by
 obtain⟨b',h0,h⟩:=h1.obj i _ hi
 rw [hb] at h0; cases h0
 rcases h with ⟨_,h⟩ | ⟨h,_⟩
 ·exact h
 ·rw [h2] at h; cases h

section typed
variable {κ ν:Type} [DecidableEq κ] {kv:κ→Value} {av:ν→AV}

theorem Q9c {w:World} {S:Nat→Nat→Prop} {K:Nat} {lst:List (κ×ν)} (hk:Gd7 P K kv) (hn:(lst.map (·.1)).Nodup) {Hf:Array MapEntry} (a0:Hf.size=(mapOf kv av lst).length)
  (he:∀ (i:Nat) e k u,Hf[i]? = some e→(mapOf kv av lst)[i]? = some (k,u)→e.key=k∧D w S u e.val∧e.born=i) (a:κ) :
  ((Instr.findKey K (kv a) Hf.toList).run P w=.ok none w∧(∀ p∈lst,p.1≠a)∧G31 lst a=none∧G39 lst a=false∧G38 lst a=Hf.size) ∨
  ∃ e v,(Instr.findKey K (kv a) Hf.toList).run P w=.ok (some (G38 lst a,e.val)) w∧Hf[G38 lst a]? = some e∧e.key=kv a∧G31 lst a=some v∧G39 lst a=true∧D w S (av v) e.val∧lst[G38 lst a]? = some (a,v)∧e.born=G38 lst a:=by
 have h5:Hf.size=lst.length:=by simpa [mapOf] using a0
 have h9:∀ e∈Hf.toList,∃ b,e.key=kv b:=by
  intro e hm
  obtain⟨j,hj,e1⟩:=List.mem_iff_getElem.1 hm
  have h0:j < lst.length:=by simpa [h5] using hj
  refine⟨lst[j].1,(he j e (kv lst[j].1) (av lst[j].2) ?_ ?_).1⟩
  ·rw [← e1]; simp at hj; simp [hj]
  ·simp [mapOf,h0]
 rcases hk.find w a Hf.toList h9 with ⟨h1,h2⟩ | ⟨j,e,h1,h2,h3⟩
 ·have h4:∀ p∈lst,p.1≠a:=by
   intro p hp e
   obtain⟨j,hj,e1⟩:=List.mem_iff_getElem.1 hp
   have h0:j < Hf.size:=by omega
   have:=(he j Hf[j] (kv lst[j].1) (av lst[j].2) (by simp [h0]) (by simp [mapOf,hj])).1
   refine h2 Hf[j] (Array.getElem_mem_toList h0) ?_
   rw [this,e1,e]
  exact .inl ⟨h1,h4,Qfe h4,Heb h4,by rw [J40 h4,h5]⟩
 ·have hj:j < lst.length:=by
   have:=(M3 h2).1
   simp at this; omega
  have h6:Hf[j]? = some e:=by simpa using h2
  obtain⟨k1,k2,k3⟩:=he j e (kv lst[j].1) (av lst[j].2) h6 (by simp [mapOf,hj])
  have h7:lst[j].1=a:=hk.inj _ _ (k1.symm.trans h3)
  have h8:lst[j]? = some (a,lst[j].2):=by rw [M4 hj,← h7]
  obtain⟨g1,g2⟩:=Hec hn h8
  exact .inr ⟨e,lst[j].2,by rw [g2]; exact h1,by rw [g2]; exact h6,h3,g1,H11 (List.getElem_mem hj) h7,k2,by rw [g2]; exact h8,by rw [g2]; exact k3⟩

theorem Ja0 {E:Nat} {zv:Value} (hz:(P.info? E).bind (·.zero)=some zv) (w:World):(zeroValue E).run P w=.ok zv w:=by
 cases h1:P.info? E with
 | none=>rw [h1] at hz; cases hz
 | some i=>rw [h1] at hz; simp at hz; simp [zeroValue,typeInfo,h1,hz]

theorem Qce {m x:Operand} {T K E i:Nat} {ok:Bool} {lst:List (κ×ν)} {a:κ} (z0:ν) (zv:Value) (ho:o.op=.lookup T m x ok) (hm:ev l m=.mp i) (hi:lk L i=some (.map T (mapOf kv av lst))) (hn:(lst.map (·.1)).Nodup)
  (hx:ev l x=Rv (kv a)) (hk:Gd7 P K kv) (hT:Zo P T K E=true) (hz:(P.info? E).bind (·.zero)=some zv) (h9:av z0=Rv zv) :
  H2 P o l L (Is (bif ok then .tup [av ((G31 lst a).getD z0),BL (G39 lst a)] else av ((G31 lst a).getD z0)) L):=
 Hj fun A w β h8 hf=>by
  have hv:=hf.ev m
  rw [hm] at hv
  obtain⟨b,hb,h4⟩:=hv.inv_mp
  obtain⟨Hf,h1,h2,h3⟩:=J22 h8 hi hb (Zo.both hT).2
  have h5:A.eval x=kv a:=by
   have h:=hf.ev x
   rw [hx] at h
   cases h6:kv a with
   | agg vs=>
    rw [h6] at h
    obtain⟨ws,hw,hl,hc⟩:=h.inv_agg
    rw [hw]
    congr 1
    apply Array.ext
    ·rw [hl]; simp
    ·intro j a0 a1
     have:=hc j (.sc vs[j]) ws[j] (by simp [a1]) (by simp [a0])
     exact this.inv_sc
   | _=>rw [h6] at h; exact h.inv_sc
  have h0:(getObj b).run P w=.ok (.map Hf Hf.size) w:=by simp [getObj,Sem.run,h1]
  rcases Q9c (P:=P) hk hn h2 h3 a with ⟨f1,f2,f3,f4,_⟩ | ⟨e,v,f1,f2,f3,f4,f5,f6,_⟩
  ·refine⟨if ok then .tuple #[zv,.bool false] else zv,?_,?_⟩
   ·simp only [execOp,ho,Instr.lookup,underlying,h4,h5,Sem.run_bind,run_program,Result.andThen_ok,Zo.out hT,Sem.run_pure,h0,hk.check,f1,Ja0 hz]
   ·rw [f3,f4]
    have h7:V w β L (av z0) zv:=by rw [h9]; exact .data (H28 zv)
    cases ok
    ·exact h7
    ·refine .tup rfl fun j u v hu hv=>?_
     match j with
     | 0=>simp at hu hv; subst hu; subst hv; exact h7
     | 1=>simp at hu hv; subst hu; subst hv; exact .sc
     | j+2=>simp at hu
  ·refine⟨if ok then .tuple #[e.val,.bool true] else e.val,?_,?_⟩
   ·simp only [execOp,ho,Instr.lookup,underlying,h4,h5,Sem.run_bind,run_program,Result.andThen_ok,Zo.out hT,Sem.run_pure,h0,hk.check,f1]
   ·rw [f4,f5]
    cases ok
    ·exact .data f6
    ·refine .tup rfl fun j u v' hu hv=>?_
     match j with
     | 0=>simp at hu hv; subst hu; subst hv; exact .data f6
     | 1=>simp at hu hv; subst hu; subst hv; exact .sc
     | j+2=>simp at hu

theorem J45 {A:Act} {w:World} {β:H5} {x:Operand} {k:Value} (hf:Q8 A w β L l) (hx:ev l x=Rv k):A.eval x=k:=by
 have h:=hf.ev x
 rw [hx] at h
 cases k with
 | agg vs=>
  obtain⟨ws,hw,hl,hc⟩:=h.inv_agg
  rw [hw]
  congr 1
  apply Array.ext
  ·rw [hl]; simp
  ·intro j h0 h1
   have:=hc j (.sc vs[j]) ws[j] (by simp [h1]) (by simp [h0])
   exact this.inv_sc
 | _=>exact h.inv_sc

theorem Qq {w:World} {b:Nat} {Hf:Array MapEntry} {c:Nat} (h:w.heap[b]? = some (.map Hf c)):(getObj b).run P w=.ok (.map Hf c) w:=by simp [getObj,Sem.run,h]
theorem G12 {w:World} {b:Nat} {Hf ents':Array MapEntry} {c c':Nat} (h:w.heap[b]? = some (.map Hf c)):(setObj b (.map ents' c')).run P w=.ok () { w with heap:=w.heap.setIfInBounds b (.map ents' c') }:=by simp [setObj,Sem.run,h]

theorem J9f (w:World) (b:Nat) (o:Obj):({ w with heap:=w.heap.setIfInBounds b o }:World).heap.size=w.heap.size:=by simp
theorem J39 (w:World) (b k:Nat) (o:Obj) (h:k≠b):({ w with heap:=w.heap.setIfInBounds b o }:World).heap[k]? = w.heap[k]? := by
 simp [Array.getElem?_setIfInBounds_ne (Ne.symm h)]
theorem R7b (w:World) (b:Nat) (o:Obj) (h:b < w.heap.size):({ w with heap:=w.heap.setIfInBounds b o }:World).heap[b]? = some o:=by
 simp [h]

theorem H76 {w:World} {β:H5} {i b T:Nat} {es es':List (Value×AV)} {ents':Array MapEntry} (h3:Nat.blt T 1000000=true) (h0:Sat w β L) (hi:lk L i=some (.map T es)) (hb:β i=some b)
  (h4:ents'.size=es'.length) (he:∀ (i:Nat) e k u,ents'[i]? = some e→es'[i]? = some (k,u)→e.key=k∧D w (Ju w β L) u e.val∧e.born=i) :
  let w':World:={ w with heap:=w.heap.setIfInBounds b (.map ents' ents'.size) }
  Sat w' β ((i,.map T es')::L)∧Step w β L w' β ((i,.map T es')::L):=by
 intro w'
 have h5:b < w.heap.size:=h0.bnd i b (by rw [hi]; rfl) hb
 have st:Step w β L w' β ((i,.map T es')::L):=Step.change h0 hi hb rfl rfl rfl ⟨rfl,M8⟩ (J9f w b _) (fun k hk=>J39 w b k _ hk)
 exact⟨Sat.change h0 hi hb st (J9f w b _) (fun k hk=>J39 w b k _ hk) ⟨b,rfl,.inl ⟨h3,ents',R7b w b _ h5,h4,fun j e k u h1 h2=>⟨(he j e k u h1 h2).1,(he j e k u h1 h2).2.1.mono st.stab,(he j e k u h1 h2).2.2⟩⟩⟩,st⟩

theorem He9 {lst:List (κ×ν)} (h:(lst.map (·.1)).Nodup) (a:κ) (v:ν):((H02 lst a v).map (·.1)).Nodup:=by
 unfold H02
 by_cases hh:G39 lst a=true
 ·rw [if_pos hh]
  have:(lst.map fun p=>if p.1=a then (a,v) else p).map (·.1)=lst.map (·.1):=by
   rw [List.map_map]
   refine List.map_congr_left fun p _=>?_
   simp only [Function.comp]
   by_cases e:p.1=a <;> simp [e]
  rw [this]; exact h
 ·rw [if_neg hh]
  rw [List.map_append,List.nodup_append]
  refine⟨h,by simp,fun x hx y hy=>?_⟩
  simp at hy; subst hy
  intro e; subst e
  obtain⟨p,hp,e⟩:=Mm.1 hx
  exact hh (H11 hp e)
theorem Rfb {lst:List (κ×ν)} (h:(lst.map (·.1)).Nodup) (a:κ) (z:ν):((H2c lst a z).map (·.1)).Nodup:=by
 unfold H2c
 by_cases hh:G39 lst a=true
 ·rw [if_pos hh]; exact h
 ·rw [if_neg hh]
  rw [List.map_append,List.nodup_append]
  refine⟨h,by simp,fun x hx y hy=>?_⟩
  simp at hy; subst hy
  intro e; subst e
  obtain⟨p,hp,e⟩:=Mm.1 hx
  exact hh (H11 hp e)

theorem Y2a {lst:List (κ×ν)} (h:(lst.map (·.1)).Nodup) {a:κ} {j:Nat} {v0 v:ν} (hj:lst[j]? = some (a,v0)):H02 lst a v=lst.set j (a,v):=by
 have hm:G39 lst a=true:=H11 (M6 hj) rfl
 unfold H02
 rw [if_pos hm]
 apply List.ext_getElem?
 intro i
 rw [Mc,List.getElem?_set]
 by_cases e:j=i
 ·subst e
  have h0:j < lst.length:=(M3 hj).1
  rw [if_pos rfl,if_pos h0,hj]
  simp
 ·rw [if_neg e]
  cases hi:lst[i]? with
  | none=>rfl
  | some p=>
   obtain⟨b,u⟩:=p
   by_cases e2:b=a
   ·subst e2
    have h1:=(Hec h hi).2
    have h2:=(Hec h hj).2
    omega
   ·simp [e2]

theorem Y16 {m x:Operand} {T K E i:Nat} {lst:List (κ×ν)} {a:κ} (z0:ν) (zv:Value) (ho:o.op=.mapEntry T m x) (hm:ev l m=.mp i) (hi:lk L i=some (.map T (mapOf kv av lst))) (hn:(lst.map (·.1)).Nodup)
  (hx:ev l x=Rv (kv a)) (hk:Gd7 P K kv) (hT:Zo P T K E=true) (hz:(P.info? E).bind (·.zero)=some zv) (h8:av z0=Rv zv) :
  H2 P o l L (Is (.tup [.junk,I64 (G38 lst a)]) ((i,.map T (mapOf kv av (H2c lst a z0)))::L)):=by
 intro A w β KK Q h4 hf hK
 have hv:=hf.ev m
 rw [hm] at hv
 obtain⟨b,hb,h6⟩:=hv.inv_mp
 obtain⟨Hf,h1,h2,h3⟩:=J22 h4 hi hb (Zo.both hT).2
 have h7:A.eval x=kv a:=J45 hf hx
 have h5:Hf.size=lst.length:=by simpa [mapOf] using h2
 have tupV:∀ {w':World} {L':Loc} (v1:Value) (n:Int),V w' β L' (.tup [.junk,I64 n]) (.tuple #[v1,.int .i64 n]):=fun v1 n=>.tup rfl fun j u v' hu hv=>by
  match j with
  | 0=>simp at hu hv; subst hu; exact .junk
  | 1=>simp at hu hv; subst hu; subst hv; exact .sc
  | j+2=>simp at hu
 rcases Q9c (P:=P) (w:=w) hk hn h2 h3 a with ⟨f1,f2,f3,f4,f5⟩ | ⟨e,v0,f1,f2,f3,f4,f5,f6,f7,f8⟩
 ·have hr:(execOp A.eval o).run P w=.ok (.value (.tuple #[zv,.int .i64 Hf.size])) { w with heap:=w.heap.setIfInBounds b (.map (Hf.push { key:=kv a,val:=zv,born:=Hf.size }) (Hf.push { key:=kv a,val:=zv,born:=Hf.size }).size) }:=by
   simp only [execOp,ho,Instr.mapEntry,underlying,h6,h7,Sem.run_bind,run_program,Result.andThen_ok,Zo.out hT,Sem.run_pure,Qq h1,hk.check,f1,G12 h1,Array.size_push,Ja0 hz,goInt]
  unfold Oper.wp
  rw [hr]
  have h0:H2c lst a z0=lst++[(a,z0)]:=by simp [H2c,f4]
  obtain⟨s1,s2⟩:=H76 (Zo.both hT).2 h4 hi hb (es':=mapOf kv av (H2c lst a z0)) (ents':=Hf.push { key:=kv a,val:=zv,born:=Hf.size }) (by rw [h0]; simp [mapOf,h5]) (fun j e k u he hu=>by
   rw [h0] at hu
   simp only [mapOf,List.map_append,List.map_cons,List.map_nil] at hu
   rcases Kx j Hf.size with hj | hj
   ·rw [Array.getElem?_push,if_neg (by omega)] at he
    rw [Ma (by simp; omega)] at hu
    exact h3 j e k u he hu
   ·have:j=Hf.size:=by
     have:=(Ks he).1; simp at this; omega
    subst this
    rw [Array.getElem?_push,if_pos rfl] at he
    cases he
    rw [M9 (by simp; omega)] at hu
    simp [h5] at hu
    obtain⟨rfl,rfl⟩:=hu
    exact⟨rfl,by rw [h8]; exact H28 zv,rfl⟩)
  refine hK _ _ _ _ β ⟨rfl,rfl⟩ s1 s2 ?_
  rw [f5]; exact tupV _ _
 ·have h9:=hk.stays w a
  have a2:G38 lst a < Hf.size:=(Ks f2).1
  have hr:(execOp A.eval o).run P w=.ok (.value (.tuple #[e.val,.int .i64 (G38 lst a)])) { w with heap:=w.heap.setIfInBounds b (.map (Hf.modify (G38 lst a) fun e=>{ e with key:=kv a }) (Hf.modify (G38 lst a) fun e=>{ e with key:=kv a }).size) }:=by
   have a0:((Hf[G38 lst a]?).map (·.key)).getD (kv a)=kv a:=by rw [f2]; exact f3
   have a1:(Option.map (fun x=>(x.born:Int)) Hf[G38 lst a]?).getD 0=(G38 lst a:Int):=by rw [f2]; simp [f8]
   simp only [execOp,ho,Instr.mapEntry,underlying,h6,h7,Sem.run_bind,run_program,Result.andThen_ok,Zo.out hT,Sem.run_pure,Qq h1,hk.check,f1,a0,h9,G12 h1,Array.size_modify,a1,goInt]
  unfold Oper.wp
  rw [hr]
  have h0:H2c lst a z0=lst:=by simp [H2c,f5]
  obtain⟨s1,s2⟩:=H76 (Zo.both hT).2 h4 hi hb (es':=mapOf kv av (H2c lst a z0)) (ents':=Hf.modify (G38 lst a) fun e=>{ e with key:=kv a }) (by rw [h0]; simp [mapOf,h5]) (fun j e' k u he hu=>by
   rw [h0] at hu
   rw [Array.getElem?_modify] at he
   by_cases ej:G38 lst a=j
   ·subst ej
    rw [if_pos rfl,f2] at he
    simp at he
    subst he
    have:=h3 _ e k u f2 hu
    exact⟨f3.symm.trans this.1,this.2⟩
   ·rw [if_neg ej] at he
    exact h3 j e' k u he hu)
  exact hK _ _ _ _ β ⟨rfl,rfl⟩ s1 s2 (tupV _ _)

theorem Y2b {lst:List (κ×ν)} (hn:(lst.map (·.1)).Nodup) (a:κ) (z:ν):∃ v0,(H2c lst a z)[G38 lst a]? = some (a,v0):=by
 unfold H2c
 by_cases h:G39 lst a=true
 ·rw [if_pos h]
  unfold G39 at h
  obtain⟨p,hp,e⟩:=List.any_eq_true.1 h
  obtain⟨j,hj,e2⟩:=List.mem_iff_getElem.1 hp
  have h0:lst[j]? = some (a,p.2):=by
   rw [M4 hj,e2]
   have:p.1=a:=by simpa using e
   rw [← this]
  rw [(Hec hn h0).2]; exact⟨_,h0⟩
 ·rw [if_neg h]
  have h1:∀ p∈lst,p.1≠a:=fun p hp e=>h (H11 hp e)
  rw [J40 h1]; exact⟨z,by simp⟩

theorem Qfc {lst:List (κ×ν)} (hn:(lst.map (·.1)).Nodup) (a:κ) (z v:ν):(H2c lst a z).set (G38 lst a) (a,v)=H02 lst a v:=by
 by_cases h:G39 lst a=true
 ·obtain⟨v0,h0⟩:=Y2b hn a z
  have:H2c lst a z=lst:=by simp [H2c,h]
  rw [this] at h0 ⊢
  exact(Y2a hn h0).symm
 ·have h1:∀ p∈lst,p.1≠a:=fun p hp e=>h (H11 hp e)
  have h':G39 lst a=false:=by simpa using h
  simp [H2c,H02,h',J40 h1]

theorem R49 {m s y:Operand} {T i:Nat} {lst:List (κ×ν)} {a:κ} {v:ν} (z0:ν) (ho:o.op=.entryStore T m s y) (hm:ev l m=.mp i) (hi:lk L i=some (.map T (mapOf kv av (H2c lst a z0)))) (hn:(lst.map (·.1)).Nodup)
  (hs:ev l s=I64 (G38 lst a)) (hy:(ev l y).plain=av v) (a2:(av v).isData=true) (h8:Nat.blt T 1000000=true:=by rfl) :
  H2 P o l L (Is .junk ((i,.map T (mapOf kv av (H02 lst a v)))::L)):=by
 intro A w β KK Q h5 hf hK
 have hv:=hf.ev m
 rw [hm] at hv
 obtain⟨b,hb,a3⟩:=hv.inv_mp
 obtain⟨Hf,h1,h2,h3⟩:=J22 h5 hi hb h8
 have h9:=hf.ev s
 rw [hs] at h9
 have a0:=(hf.ev y).plain
 rw [hy] at a0
 have a4:=a0.toD a2
 have h6:Hf.size=(H2c lst a z0).length:=by simpa [mapOf] using h2
 obtain⟨v0,a1⟩:=Y2b hn a z0
 have h0:G38 lst a < Hf.size:=by rw [h6]; exact(M3 a1).1
 have h4:∀ (j:Nat) (hj:j < Hf.size),Hf[j].born=j:=fun j hj=>by
  have a5:j < (H2c lst a z0).length:=by omega
  exact(h3 j Hf[j] (kv (H2c lst a z0)[j].1) (av (H2c lst a z0)[j].2) (by simp [hj]) (by simp [mapOf,a5])).2.2
 have h7:Hf.findIdx? (fun e=>(e.born:Int)==(G38 lst a:Int))=some (G38 lst a):=by
  rw [Array.findIdx?_eq_some_iff_getElem]
  refine⟨h0,by rw [h4 _ h0]; simp,fun j hj=>?_⟩
  rw [h4 j (by omega)]
  simp; omega
 have hr:(execOp A.eval o).run P w=.ok .skip { w with heap:=w.heap.setIfInBounds b (.map (Hf.modify (G38 lst a) fun e=>{ e with val:=A.eval y }) (Hf.modify (G38 lst a) fun e=>{ e with val:=A.eval y }).size) }:=by
  simp only [execOp,ho,Instr.entryStore,a3,h9.inv_sc,asInt,asIntOf,Sem.run_bind,Result.andThen_ok,Sem.run_pure,Qq h1,h7,G12 h1,Array.size_modify]
 unfold Oper.wp
 rw [hr]
 obtain⟨s1,s2⟩:=H76 h8 h5 hi hb (es':=mapOf kv av (H02 lst a v)) (ents':=Hf.modify (G38 lst a) fun e=>{ e with val:=A.eval y }) (by rw [← Qfc hn a z0 v]; simp [mapOf,h6]) (fun j e' k u he hu=>by
  rw [← Qfc hn a z0 v] at hu
  simp only [mapOf,List.map_set] at hu
  rw [Array.getElem?_modify] at he
  rw [List.getElem?_set] at hu
  by_cases ej:G38 lst a=j
  ·subst ej
   rw [if_pos rfl,Array.getElem?_eq_getElem h0] at he
   rw [if_pos rfl,if_pos (by simp; omega)] at hu
   simp at he hu
   obtain⟨rfl,rfl⟩:=hu
   subst he
   have:=(h3 (G38 lst a) Hf[G38 lst a] (kv a) (av v0) (by simp [h0]) (by simp [mapOf,a1]))
   exact⟨this.1,a4,this.2.2⟩
  ·rw [if_neg ej] at he hu
   exact h3 j e' k u he hu)
 exact hK _ _ _ _ β ⟨rfl,rfl⟩ s1 s2 .junk
end typed

/-! ### Ranging over a map -/
theorem Yf9 (i:Nat) {x:Operand} {T K E m t:Nat} {es:List (Value×AV)} (ho:o.op=.range T x) (hx:ev l x=.mp m) (hm:lk L m=some (.map t es)) (hi:lk L i=none) (hT:Zo P T K E=true) (h5:Nat.blt t 1000000=true:=by rfl) :
  H2 P o l L (Is (.it i) ((i,.iter (.mp m) es.length [])::L)):=by
 intro a w β KK Q h0 hf hK
 have hv:=hf.ev x
 rw [hx] at hv
 obtain⟨b,hb,h6⟩:=hv.inv_mp
 obtain⟨Hf,h1,h2,h3⟩:=J22 h0 hm hb h5
 have hr:(execOp a.eval o).run P w=.ok (.value (.pointer (some ⟨w.heap.size,0,none⟩))) (w.alloc (.mapIter (some b) es.length #[] es.length)):=by
  simp only [execOp,ho,Instr.range,underlying,Zo.out hT,Sem.run_bind,Sem.run_pure,run_program,Result.andThen_ok,h6,Qq h1,run_newObj,h2]
  rfl
 unfold Oper.wp
 rw [hr]
 have h4:i≠m:=fun e=>by subst e; rw [hi] at hm; cases hm
 exact hK _ _ _ _ (upP β i (some w.heap.size)) ⟨rfl,rfl⟩ (h0.alloc hi _ (fun hs=>⟨_,rfl,b,.mp (by rw [Gi,if_neg h4]; exact hm) (by simp [upP,Ne.symm h4,hb]),heap_alloc_new w _⟩)) (Step.alloc hi h0.bnd _)
  (.it (m:=.mp m) (n:=es.length) (seen:=[]) (by simp [Gi]) (by simp [upP]))

def Z51 (i m:Nat) (L:Loc) (es:List (Value×AV)) (seen:List Nat):AV→Loc→Prop:=fun u L'=>
 (∃ j k v,es[j]? = some (k,v)∧j ∉ seen∧u=.tup [BL true,Rv k,v]∧L'=(i,.iter (.mp m) es.length (seen++[j]))::L) ∨
 ((∀ j,j < es.length→j∈seen)∧u=.tup [BL false]∧L'=L)

theorem Z34 {x:Operand} {i m t:Nat} {es:List (Value×AV)} {seen:List Nat} (ho:o.op=.next x false) (hx:ev l x=.it i) (hi:lk L i=some (.iter (.mp m) es.length seen)) (hm:lk L m=some (.map t es)) (b8:Nat.blt t 1000000=true:=by rfl):H2 P o l L (Z51 i m L es seen):=by
 intro a w β KK Q h8 hf hK
 have hv:=hf.ev x
 rw [hx] at hv
 have b9:∃ b,β i=some b∧a.eval x=.pointer (some ⟨b,0,none⟩):=by
  generalize a.eval x=v at hv
  cases hv with
  | data h=>cases h
  | it _ h=>exact⟨_,h,rfl⟩
 obtain⟨b,hb,a9⟩:=b9
 obtain⟨b',b0,bm,c0,b1⟩:=h8.obj i _ hi
 rw [hb] at b0; cases b0
 obtain⟨bm',b2,ebm⟩:=c0.inv_mp
 cases ebm
 obtain⟨Hf,h1,h2,h3⟩:=J22 h8 hm b2 b8
 have h6:∀ (j:Nat) (hj:j < Hf.size),Hf[j].born=j:=fun j hj=>by
  have h9:j < es.length:=by omega
  exact(h3 j Hf[j] es[j].1 es[j].2 (by simp [hj]) (by simp [h9])).2.2
 -- what is left
 let left:Array MapEntry:=Hf.filter fun e=>!seen.toArray.contains e.born
 have a2:∀ e∈left,∃ (j:Nat) (hj:j < Hf.size),Hf[j]=e∧j ∉ seen:=by
  intro e he
  simp only [left,Array.mem_filter] at he
  obtain⟨j,hj,e1⟩:=Array.mem_iff_getElem.1 he.1
  refine⟨j,hj,e1,?_⟩
  have:=he.2
  rw [← e1,h6 j hj] at this
  simpa using this
 have hold:left.filter (fun e=>decide (e.born < es.length))=left:=by
  rw [Array.filter_eq_self]
  intro e he
  obtain⟨j,hj,e1,_⟩:=a2 e he
  rw [← e1,h6 j hj]; simp; omega
 have b4:left.filter (fun e=>decide (e.born ≥ es.length))=#[]:=by
  rw [Array.filter_eq_empty_iff]
  intro e he
  obtain⟨j,hj,e1,_⟩:=a2 e he
  rw [← e1,h6 j hj]; simp; omega
 have a0:(!seen.toArray.isEmpty&&!Hf.isEmpty&&Hf.all (fun e=>decide (e.born ≥ es.length)))=false:=by
  by_cases h0:Hf.size=0
  ·have:Hf.isEmpty=true:=by simp [Array.isEmpty,h0]
   simp [this]
  ·have:Hf.all (fun e=>decide (e.born ≥ es.length))=false:=by
    rw [Bool.eq_false_iff]
    intro a3
    rw [Array.all_eq_true] at a3
    have:=a3 0 (by omega)
    rw [h6 0 (by omega)] at this
    have:=Kz this
    omega
   simp [this]
 have a1:(getObj b).run P w=.ok (.mapIter (some bm) es.length seen.toArray es.length) w:=by simp [getObj,Sem.run,b1]
 have c1:b < w.heap.size:=h8.bnd i b (by rw [hi]; rfl) hb
 by_cases h7:left=#[]
 ·-- nothing is left
  have hr:(execOp a.eval o).run P w=.ok (.value (.tuple #[.bool false])) w:=by
   simp only [execOp,ho,Instr.next,a9,Sem.run_bind,Sem.run_pure,Result.andThen_ok,a1,Qq h1,a0,Bool.false_eq_true,if_false]
   have e1:(Hf.filter fun e=>!seen.toArray.contains e.born)=#[]:=h7
   simp only [e1,Array.filter_empty,Array.isEmpty_empty,if_true,Array.append_empty,Array.map_empty,run_choose]
   rfl
  unfold Oper.wp
  rw [hr]
  refine hK _ _ _ w β (.inr ⟨fun j hj=>?_,rfl,rfl⟩) h8 (Step.refl _ _ _) (.tup rfl fun j u v hu hv=>?_)
  ·by_cases hs:j∈seen
   ·exact hs
   ·exfalso
    have h9:j < Hf.size:=by omega
    have:Hf[j]∈left:=by
     simp only [left,Array.mem_filter]
     refine⟨Array.getElem_mem h9,?_⟩
     rw [h6 j h9]; simpa using hs
    rw [h7] at this; simp at this
  ·match j with
   | 0=>simp at hu hv; subst hu; subst hv; exact .sc
   | j+1=>simp at hu
 ·-- one of those that are left
  have a4:0 < left.size:=Array.size_pos_iff.2 h7
  have a6:((if (left.filter fun e=>decide (e.born < es.length)).isEmpty then #[none] else #[])++((left.filter fun e=>decide (e.born < es.length))++(left.filter fun e=>decide (e.born ≥ es.length))).map some)=left.map some:=by
   rw [hold,b4]
   have:left.isEmpty=false:=by rw [Array.isEmpty_eq_false_iff]; exact h7
   rw [this]
   apply Array.ext'
   simp
  have a7:∀ (c:Nat),c < left.size→∃ (j:Nat) (hj:j < Hf.size),j ∉ seen∧(left.map some)[c]? = some (some Hf[j]):=by
   intro c hc
   obtain⟨j,hj,e1,a5⟩:=a2 left[c] (Array.getElem_mem hc)
   exact⟨j,hj,a5,by simp [hc,e1]⟩
  have c2:∃ (c:Nat) (w1:World),(choose (.mapNext (left.map some).size)).run P w=.ok c w1∧c < left.size∧w1.heap=w.heap∧w1.os=w.os∧w1.tape=w.tape∧(w1.output=w.output∧w.drawn≤w1.drawn):=by
   rw [run_choose]
   by_cases b3:(Question.mapNext (left.map some).size).forced=true
   ·exact⟨0,w,by rw [if_pos b3],a4,rfl,rfl,rfl,rfl,M8⟩
   ·refine⟨_,{ w with drawn:=w.drawn+1 },by rw [if_neg b3],?_,rfl,rfl,rfl,rfl,Nat.le_succ _⟩
    simp only [Question.cut,Array.size_map]
    exact Nat.mod_lt _ a4
  obtain⟨c,w1,c3,c4,hh,c5,c6,b5⟩:=c2
  obtain⟨j,hj,a5,c7⟩:=a7 c c4
  have h9:j < es.length:=by omega
  have b6:w1.heap[b]? = some (.mapIter (some bm) es.length seen.toArray es.length):=by rw [hh]; exact b1
  have b7:(setObj b (.mapIter (some bm) es.length (seen.toArray.push Hf[j].born) Hf.size)).run P w1=.ok () { w1 with heap:=w1.heap.setIfInBounds b (.mapIter (some bm) es.length (seen.toArray.push Hf[j].born) Hf.size) }:=by
   simp [setObj,Sem.run,b6]
  have hr:(execOp a.eval o).run P w=.ok (.value (.tuple #[.bool true,Hf[j].key,Hf[j].val])) { w1 with heap:=w1.heap.setIfInBounds b (.mapIter (some bm) es.length (seen.toArray.push Hf[j].born) Hf.size) }:=by
   simp only [execOp,ho,Instr.next,a9,Sem.run_bind,Sem.run_pure,Result.andThen_ok,a1,Qq h1,a0,Bool.false_eq_true,if_false]
   have e1:(Hf.filter fun e=>!seen.toArray.contains e.born)=left:=rfl
   rw [e1,a6,c3]
   simp only [Result.andThen_ok,c7,Sem.run_bind,b7,Sem.run_pure]
  unfold Oper.wp
  rw [hr]
  obtain⟨k1,k2,k3⟩:=h3 j Hf[j] es[j].1 es[j].2 (by simp [hj]) (by simp [h9])
  have a8:seen.toArray.push Hf[j].born=(seen++[j]).toArray:=by rw [h6 j hj]; simp
  have h4:({ w1 with heap:=w1.heap.setIfInBounds b (.mapIter (some bm) es.length (seen.toArray.push Hf[j].born) Hf.size) }:World).heap.size=w.heap.size:=by simp [hh]
  have h5:∀ k,k≠b→({ w1 with heap:=w1.heap.setIfInBounds b (.mapIter (some bm) es.length (seen.toArray.push Hf[j].born) Hf.size) }:World).heap[k]? = w.heap[k]? := fun k hk=>by
   simp [Array.getElem?_setIfInBounds_ne (Ne.symm hk),hh]
  have st:Step w β L { w1 with heap:=w1.heap.setIfInBounds b (.mapIter (some bm) es.length (seen.toArray.push Hf[j].born) Hf.size) } β ((i,.iter (.mp m) es.length (seen++[j]))::L):=
   Step.change h8 hi hb rfl c5 c6 b5 h4 h5
  have c8:i≠m:=fun e=>by subst e; rw [hi] at hm; cases hm
  refine hK _ _ _ _ β (.inl ⟨j,es[j].1,es[j].2,by simp [h9],a5,rfl,rfl⟩) (Sat.change h8 hi hb st h4 h5 ⟨b,rfl,bm,.mp (by rw [Gi,if_neg c8]; exact hm) b2,?_⟩) st (.tup rfl fun q u v hu hv=>?_)
  ·rw [a8]
   simp [hh,c1,h2]
  ·match q with
   | 0=>simp at hu hv; subst hu; subst hv; exact .sc
   | 1=>simp at hu hv; subst hu; subst hv; rw [← k1]; exact .data (H28 _)
   | 2=>simp at hu hv; subst hu; subst hv; exact .data (k2.mono st.stab)
   | q+3=>simp at hu

theorem Z00 {x:Operand} {i m t j:Nat} {es:List (Value×AV)} {seen:List Nat} {k:Value} {v:AV} (ho:o.op=.entry x) (hx:ev l x=.it i) (hi:lk L i=some (.iter (.mp m) es.length (seen++[j]))) (hm:lk L m=some (.map t es)) (hj:es[j]? = some (k,v)) (a0:Nat.blt t 1000000=true:=by rfl) :
  H2 P o l L (Is (.tup [Rv k,v]) L):=
 Hj fun a w β h5 hf=>by
  have hv:=hf.ev x
  rw [hx] at hv
  have a1:∃ b,β i=some b∧a.eval x=.pointer (some ⟨b,0,none⟩):=by
   generalize a.eval x=v at hv
   cases hv with
   | data h=>cases h
   | it _ h=>exact⟨_,h,rfl⟩
  obtain⟨b,hb,a2⟩:=a1
  obtain⟨b',h9,bm,a3,a4⟩:=h5.obj i _ hi
  rw [hb] at h9; cases h9
  obtain⟨bm',a5,ebm⟩:=a3.inv_mp
  cases ebm
  obtain⟨Hf,h1,h2,h3⟩:=J22 h5 hm a5 a0
  have a7:j < es.length:=(M3 hj).1
  have h0:j < Hf.size:=by omega
  have h4:∀ (j:Nat) (hj:j < Hf.size),Hf[j].born=j:=fun j hj=>by
   have h0:j < es.length:=by omega
   exact(h3 j Hf[j] es[j].1 es[j].2 (by simp [hj]) (by simp [h0])).2.2
  obtain⟨k1,k2,_⟩:=h3 j Hf[j] k v (by simp [h0]) hj
  have h6:(getObj b).run P w=.ok (.mapIter (some bm) es.length (seen++[j]).toArray es.length) w:=by simp [getObj,Sem.run,a4]
  have h7:(seen++[j]).toArray.back? = some j:=by simp
  have h8:Hf.find? (fun e=>e.born==j)=some Hf[j]:=by
   rw [Array.find?_eq_some_iff_getElem]
   refine⟨by rw [h4 j h0]; simp,j,h0,rfl,fun q hq=>?_⟩
   rw [h4 q (by omega)]
   simp; omega
  have a6:(Hf.size != es.length)=false:=by simp [h2]
  refine⟨.tuple #[Hf[j].key,Hf[j].val],?_,.tup rfl fun q u v hu hv=>?_⟩
  ·simp only [execOp,ho,Instr.entry,a2,Sem.run_bind,Sem.run_pure,Result.andThen_ok,h6,h7,Qq h1,a6,Bool.false_eq_true,if_false,h8]
  ·match q with
   | 0=>simp at hu hv; subst hu; subst hv; rw [← k1]; exact .data (H28 _)
   | 1=>simp at hu hv; subst hu; subst hv; exact .data k2
   | q+2=>simp at hu
end mops
end Go.Proofs.YtidpfkmbfgihlaaGreat
