/-
 A statement whose operations may be carried out in more than one order: if each of them does the same wherever it may come,the order is of no account.
-/
import Derived.Test.YtidpfkmbfgihlaaGreatLits
import Derived.Orders
namespace Go.Proofs.YtidpfkmbfgihlaaGreat
open Go.RowKit

def Gc0 (P:Program) (N:Cfg) (ops:Array Oper) (o:Oper) (l:Fr) (L:Loc) (u:AV) (L':Loc):Prop:=
 ∀ (a:Act) (w:World) (β:H4) (K:Act→World→Prop) (Q:Exit→Act→World→Prop),Sat w β L→Q8 a w β L l→N.n≤a.tmps.size →
  (∀ v w' β',Sat w' β' L'→Step w β L w' β' L'→V w' β' L' u v→K (a.put o.dst v) w') →
  (if Region.wanted o (yielded ops a.tmps) then o.wp P a w K Q else K (a.put o.dst undef) w)

section osteps
variable {P:Program} {N:Cfg} {ops:Array Oper} {o:Oper} {l:Fr} {L L':Loc} {u:AV}

theorem Ge (h:H0 P o l L (Is u L')) (hg:o.guard=none:=by rfl):Gc0 P N ops o l L u L':=by
 intro a w β K Q hsat hf hn hK
 have hw:Region.wanted o (yielded ops a.tmps)=true:=by simp [Region.wanted,hg]
 rw [if_pos hw]
 exact h a w β K Q hsat hf (fun u' L'' v w' β' hr=>by obtain⟨rfl,rfl⟩:=hr; exact hK v w' β')

theorem H6 {j dj:Nat} {want c:Bool} {gv:AV} (us:Fr) (hg:o.guard=some (j,want)) (hj:(ops[j]?).bind (·.dst)=some dj) (hgv:look l dj=gv) (hgd:J02 gv want c) (hus:J60 c l us) (h:c=true→H0 P o (us++l) L (Is u L)) (hjn:Nat.blt dj N.n=true:=by rfl) :
  Gc0 P N ops o l L (.opt c u) L:=by
 subst hgv
 intro a w β K Q hsat hf hn hK
 have hw:=hgd.wanted (ops:=ops) hf (Nat.lt_of_lt_of_le (by simpa [Nat.blt_eq] using hjn) hn) hg hj
 rw [hw]
 cases c with
 | true=>
  rw [if_pos rfl]
  refine h rfl a w β K Q hsat (hf.un hus) ?_
  intro u' L'' v w' β' hr hs' hst hv
  obtain⟨rfl,rfl⟩:=hr
  exact hK v w' β' hs' hst (.opt (fun _=>hv) (fun e=>by cases e))
 | false=>
  rw [if_neg (by simp)]
  exact hK undef w β hsat (Step.refl _ _ _) (.opt (fun e=>by cases e) (fun _=>rfl))
end osteps

/-! ### Who comes before whom -/
inductive Anc (ops:Array Oper):Nat→Nat→Prop
 | edge {i:Nat} {o:Oper} {e:Edge} (ho:ops[i]? = some o) (he:e∈o.after) (hb:Region.binds .any e=true):Anc ops i e.on
 | trans {i j k:Nat} (h:Anc ops i j) (h':Anc ops j k):Anc ops i k

def R2a (o:Oper):List Nat:=(o.after.toList.filter (Region.binds .any)).map (·.on)
def Q9f (xs:List Nat):List Nat→List Nat
 | []=>xs
 | y::r=>Q9f (if xs.contains y then xs else y::xs) r
def Y2b:List Oper→List (List Nat)→List (List Nat)
 | [],acc=>acc
 | o::r,acc=>Y2b r (acc++[(R2a o).foldl (fun s k=>Q9f s (k::acc.getD k [])) []])
def Gba (ops:List Oper):List (List Nat):=Y2b ops []

theorem Q83 {z:Nat}:∀ {ys xs:List Nat},z∈Q9f xs ys→z∈xs∨z∈ys
 | [],xs,h=>.inl h
 | y::r,xs,h=>by
  simp only [Q9f] at h
  rcases Q83 h with h | h
  ·split at h
   ·exact .inl h
   ·rcases List.mem_cons.1 h with rfl | h
    ·exact .inr (by simp)
    ·exact .inl h
  ·exact .inr (by simp [h])

theorem R8c (all:List Oper):∀ (r:List Oper) (acc:List (List Nat)) (k:Nat),acc.length=k→(∀ j,r[j]? = all[k+j]?)→(∀ i z,z∈acc.getD i []→Anc all.toArray i z) →
  ∀ i z,z∈(Y2b r acc).getD i []→Anc all.toArray i z
 | [],acc,k,_,_,h=>h
 | o::r,acc,k,hk,hr,h=>by
  simp only [Y2b]
  refine R8c all r _ (k+1) (by simp [hk]) (fun j=>by have:=hr (j+1); simpa [Nat.add_assoc,Nat.add_comm 1 j] using this) ?_
  intro i z hz
  rcases Nat.lt_or_ge i acc.length with hi | hi
  ·refine h i z ?_
   simpa [List.getD,List.getElem?_append_left hi] using hz
  ·simp only [List.getD,List.getElem?_append_right hi] at hz
   by_cases e:i=acc.length
   ·subst e
    simp only [Nat.sub_self,List.getElem?_cons_zero,Option.getD_some] at hz
    have ho:all[acc.length]? = some o:=by have:=hr 0; simpa [hk] using this.symm
    have key:∀ (es:List Nat) (s:List Nat),(∀ y∈es,Anc all.toArray acc.length y)→(∀ y∈s,Anc all.toArray acc.length y) →
      ∀ y∈es.foldl (fun s k=>Q9f s (k::acc.getD k [])) s,Anc all.toArray acc.length y:=by
     intro es
     induction es with
     | nil=>intro s _ hs; exact hs
     | cons x es ih=>
      intro s he hs
      simp only [List.foldl_cons]
      refine ih _ (fun y hy=>he y (by simp [hy])) (fun y hy=>?_)
      rcases Q83 hy with hy | hy
      ·exact hs y hy
      ·rcases List.mem_cons.1 hy with rfl | hy
       ·exact he _ (by simp)
       ·exact .trans (he x (by simp)) (h x y hy)
    refine key _ [] (fun y hy=>?_) (by simp) z hz
    simp only [R2a,List.mem_map,List.mem_filter] at hy
    obtain⟨e,⟨he,hb⟩,rfl⟩:=hy
    exact .edge (o:=o) (by simpa using ho) (Array.mem_toList_iff.1 he) hb
   ·rw [List.getElem?_eq_none (by simp; omega)] at hz
    simp at hz

theorem R05 {ops:List Oper} {i z:Nat} (h:z∈(Gba ops).getD i []):Anc ops.toArray i z:=
 R8c ops ops [] 0 rfl (fun j=>by simp) (fun i z h=>by simp [List.getD] at h) i z h

/-! ### The check, asked of the kernel -/
def Y0f (tbl:List (List Nat)) (ws:List Nat) (i:Nat):Nat:=(ws.filter fun w=>(tbl.getD i []).contains w).length
def Y10 (tbl:List (List Nat)) (ws:List Nat) (i:Nat):Nat:=(ws.filter fun w=>!(tbl.getD w []).contains i).length
def ordered (tbl:List (List Nat)) (i j:Nat):Bool:=if i < j then (tbl.getD j []).contains i else (tbl.getD i []).contains j
def Ga9 (ops:Array Oper) (o:Oper):List Tmp:=o.dst.toList++o.looksAt ops
def R21 (ops:List Oper) (tbl:List (List Nat)):Bool:=
 (List.range ops.length).all fun j=>match (ops[j]?).bind (·.dst) with
  | none=>true
  | some t=>(List.range ops.length).all fun i=>i==j||(match ops[i]? with
   | some o=>!(Ga9 ops.toArray o).contains t||ordered tbl i j
   | none=>true)
def Ja9 (tbl:List (List Nat)):List Nat→Bool
 | []=>true
 | [_]=>true
 | x::y::r=>(tbl.getD y []).contains x&&decide (x < y)&&Ja9 tbl (y::r)
def J45 (ops:List Oper):Bool:=(List.range ops.length).all fun i=>match ops[i]? with
 | some o=>(R2a o).all fun j=>decide (j < i)
 | none=>true
def J46 (ops:List Oper) (ws:List Nat) (los his:List Nat):Bool:=
 let tbl:=Gba ops
 J45 ops&&R21 ops tbl&&Ja9 tbl ws&&ws.all (fun w=>decide (w < ops.length)) &&
 (List.range ops.length).all fun i=>ws.contains i||(los.getD i 0==Y0f tbl ws i&&his.getD i 0==Y10 tbl ws i)

def J3f (p:Loc→Prop):List Loc→Prop
 | []=>True
 | L::r=>p L∧J3f p r
theorem Q14 {p:Loc→Prop}:∀ {Ls:List Loc},J3f p Ls→∀ {i:Nat} {L:Loc},Ls[i]? = some L→p L
 | L::r,h,i,L',e=>by
  cases i with
  | zero=>simp at e; subst e; exact h.1
  | succ i=>simp at e; exact Q14 h.2 e

def G30 (ts:List Tmp) (l:Fr):Fr:=ts.map fun t=>(t,look l t)
theorem J74 (l:Fr) (t:Tmp):∀ (ts:List Tmp),look (G30 ts l) t=if t∈ts then look l t else .junk
 | []=>by simp [G30,look]
 | s::r=>by
  have ih:=J74 l t r
  simp only [G30,List.map_cons] at ih ⊢
  by_cases e:s=t
  ·subst e; simp [look]
  ·have hb:Nat.beq s t=false:=by
    cases hb:Nat.beq s t with
    | false=>rfl
    | true=>exact absurd (Nat.eq_of_beq_eq_true hb) e
   simp only [look,hb,cond_false,ih,List.mem_cons,Ne.symm e,false_or]

def J16 (Ls:List Loc) (lo hi:Nat):List Loc:=(Ls.drop lo).take (hi+1 - lo)

def G82 (P:Program) (N:Cfg) (ops:Array Oper) (ws los his:List Nat) (Ls:List Loc):Nat→List Oper→Fr→(Fr→Prop)→Prop
 | _,[],l,K=>K l
 | i,o::r,l,K=>∃ u,(match ws.idxOf? i with
   | some m=>∃ L L',Ls[m]? = some L∧Ls[m+1]? = some L'∧Gc0 P N ops o (G30 (o.looksAt ops) l) L u L'
   | none=>J3f (fun L=>Gc0 P N ops o (G30 (o.looksAt ops) l) L u L) (J16 Ls (los.getD i 0) (his.getD i 0)))∧(match o.dst with
   | some d=>Nat.blt d N.n=true∧G82 P N ops ws los his Ls (i+1) r ((d,u)::l) K
   | none=>G82 P N ops ws los his Ls (i+1) r l K)

section pre
variable {P:Program} {N:Cfg} {ops:Array Oper} {ws los his:List Nat} {Ls:List Loc} {i:Nat} {o:Oper} {r:List Oper} {l:Fr} {K:Fr→Prop} {u:AV}
theorem Qw (h:K l):G82 P N ops ws los his Ls i [] l K:=h
theorem Gd {d:Nat} (hd:o.dst=some d) (hi:ws.idxOf? i=none) (h:J3f (fun L=>Gc0 P N ops o (G30 (o.looksAt ops) l) L u L) (J16 Ls (los.getD i 0) (his.getD i 0))) (hk:G82 P N ops ws los his Ls (i+1) r ((d,u)::l) K) (hn:Nat.blt d N.n=true:=by rfl) :
  G82 P N ops ws los his Ls i (o::r) l K:=by
 refine⟨u,?_,?_⟩
 ·rw [hi]; exact h
 ·rw [hd]; exact⟨hn,hk⟩
theorem D_w {m d:Nat} {L L':Loc} (hd:o.dst=some d) (hi:ws.idxOf? i=some m) (hL:Ls[m]? = some L) (hL':Ls[m+1]? = some L') (h:Gc0 P N ops o (G30 (o.looksAt ops) l) L u L') (hk:G82 P N ops ws los his Ls (i+1) r ((d,u)::l) K) (hn:Nat.blt d N.n=true:=by rfl) :
  G82 P N ops ws los his Ls i (o::r) l K:=by
 refine⟨u,?_,?_⟩
 ·rw [hi]; exact⟨L,L',hL,hL',h⟩
 ·rw [hd]; exact⟨hn,hk⟩
theorem H85 {m:Nat} {L L':Loc} (hd:o.dst=none) (hi:ws.idxOf? i=some m) (hL:Ls[m]? = some L) (hL':Ls[m+1]? = some L') (h:Gc0 P N ops o (G30 (o.looksAt ops) l) L u L') (hk:G82 P N ops ws los his Ls (i+1) r l K) :
  G82 P N ops ws los his Ls i (o::r) l K:=by
 refine⟨u,?_,?_⟩
 ·rw [hi]; exact⟨L,L',hL,hL',h⟩
 ·rw [hd]; exact hk
end pre

/-! ### Why the order is of no account -/
def G05 (ops:List Oper) (l0:Fr) (val:Nat→AV) (Dn:Nat→Bool):Nat→Fr
 | 0=>l0
 | i+1=>match (ops[i]?).bind (·.dst) with
  | some d=>if Dn i then (d,val i)::G05 ops l0 val Dn i else G05 ops l0 val Dn i
  | none=>G05 ops l0 val Dn i

def G1d (ops:List Oper) (Dn:Nat→Bool) (t:Nat):Nat→Option Nat
 | 0=>none
 | i+1=>if Dn i=true∧(ops[i]?).bind (·.dst)=some t then some i else G1d ops Dn t i

theorem Qf4 (d t:Nat) (u:AV) (l:Fr):look ((d,u)::l) t=if d=t then u else look l t:=by
 by_cases e:d=t
 ·subst e; simp [look]
 ·have hb:Nat.beq d t=false:=by
   cases hb:Nat.beq d t with
   | false=>rfl
   | true=>exact absurd (Nat.eq_of_beq_eq_true hb) e
  simp [look,hb,e]

theorem Gaa (ops:List Oper) (l0:Fr) (val:Nat→AV) (Dn:Nat→Bool) (t:Nat):∀ i,look (G05 ops l0 val Dn i) t=match G1d ops Dn t i with
  | some j=>val j
  | none=>look l0 t
 | 0=>rfl
 | i+1=>by
  simp only [G05,G1d]
  cases hd:(ops[i]?).bind (·.dst) with
  | none=>simpa using Gaa ops l0 val Dn t i
  | some d=>
   by_cases hD:Dn i=true
   ·by_cases e:d=t
    ·subst e; simp [hD,Qf4]
    ·simp only [hD,if_true,Qf4,true_and,Option.some.injEq,e,if_false]
     exact Gaa ops l0 val Dn t i
   ·simp only [hD,false_and,if_false,Bool.false_eq_true]
    exact Gaa ops l0 val Dn t i

theorem H27 (ops:List Oper) (D D':Nat→Bool) (t:Nat):∀ i,(∀ j,j < i→(ops[j]?).bind (·.dst)=some t→D j=D' j)→G1d ops D t i=G1d ops D' t i
 | 0,_=>rfl
 | i+1,h=>by
  have ih:=H27 ops D D' t i (fun j hj=>h j (by omega))
  simp only [G1d]
  by_cases e:(ops[i]?).bind (·.dst)=some t
  ·rw [h i (by omega) e,ih]
  ·simp only [e,and_false,if_false]; exact ih

theorem H71 (ops:List Oper) (D:Nat→Bool) (t i:Nat):∀ n,i≤n→(∀ j,i≤j→j < n→(ops[j]?).bind (·.dst)=some t→D j=false)→G1d ops D t n=G1d ops D t i
 | 0,h,_=>by
  have:i=0:=by omega
  subst this; rfl
 | n+1,h,hh=>by
  by_cases e:i=n+1
  ·subst e; rfl
  ·simp only [G1d]
   have ih:=H71 ops D t i n (by omega) (fun j h1 h2=>hh j h1 (by omega))
   by_cases e':(ops[n]?).bind (·.dst)=some t
   ·have:=hh n (by omega) (by omega) e'
    simp only [this,Bool.false_eq_true,false_and,if_false]; exact ih
   ·simp only [e',and_false,if_false]; exact ih

structure Closed (ops:Array Oper) (Dn:Nat→Bool):Prop where
 edge:∀ i o e,Dn i=true→ops[i]? = some o→e∈o.after→Region.binds .any e=true→Dn e.on=true

theorem Closed.anc {ops:Array Oper} {Dn:Nat→Bool} (h:Closed ops Dn) {i j:Nat} (ha:Anc ops i j):Dn i=true→Dn j=true:=by
 induction ha with
 | edge ho he hb=>exact fun hi=>h.edge _ _ _ hi ho he hb
 | trans _ _ ih1 ih2=>exact fun hi=>ih2 (ih1 hi)

theorem Anc.ready {ops:Array Oper} {Dn:Nat→Bool} (h:Closed ops Dn) {i j:Nat} (ha:Anc ops i j):(∀ o e,ops[i]? = some o→e∈o.after→Region.binds .any e=true→Dn e.on=true)→Dn j=true:=by
 induction ha with
 | edge ho he hb=>exact fun hr=>hr _ _ ho he hb
 | trans _ h2 ih1 _=>exact fun hr=>h.anc h2 (ih1 hr)

structure Y9e (P:Program) (N:Cfg) (ops:List Oper) (ws los his:List Nat) (Ls:List Loc) (l0:Fr) (val:Nat→AV) (p:Nat):Prop where
 step:∀ i o,i < p→ops[i]? = some o→(match ws.idxOf? i with
   | some m=>∃ L L',Ls[m]? = some L∧Ls[m+1]? = some L'∧Gc0 P N ops.toArray o (G30 (o.looksAt ops.toArray) (G05 ops l0 val (fun _=>true) i)) L (val i) L'
   | none=>J3f (fun L=>Gc0 P N ops.toArray o (G30 (o.looksAt ops.toArray) (G05 ops l0 val (fun _=>true) i)) L (val i) L) (J16 Ls (los.getD i 0) (his.getD i 0)))
 lt:∀ (i:Nat) (o:Oper) (d:Tmp),ops[i]? = some o→o.dst=some d→d < N.n

theorem Jd4 {P:Program} {N:Cfg} (ops:List Oper) (ws los his:List Nat) (Ls:List Loc) (l0:Fr) (K:Fr→Prop) (p:Nat) (hp:p≤ops.length) (hlt:∀ j o d,p≤j→ops[j]? = some o→o.dst=some d→d < N.n):∀ (r:List Oper) (i:Nat) (val:Nat→AV),(∀ j,j < r.length→r[j]? = ops[i+j]?)→i+r.length=p →
  (∀ j o,j < i→ops[j]? = some o→(match ws.idxOf? j with
   | some m=>∃ L L',Ls[m]? = some L∧Ls[m+1]? = some L'∧Gc0 P N ops.toArray o (G30 (o.looksAt ops.toArray) (G05 ops l0 val (fun _=>true) j)) L (val j) L'
   | none=>J3f (fun L=>Gc0 P N ops.toArray o (G30 (o.looksAt ops.toArray) (G05 ops l0 val (fun _=>true) j)) L (val j) L) (J16 Ls (los.getD j 0) (his.getD j 0)))∧∀ d,o.dst=some d→d < N.n) →
  G82 P N ops.toArray ws los his Ls i r (G05 ops l0 val (fun _=>true) i) K→∃ val',Y9e P N ops ws los his Ls l0 val' p∧K (G05 ops l0 val' (fun _=>true) p)
 | [],i,val,hr,hl,hd,h=>by
  simp at hl
  subst hl
  exact⟨val,⟨fun j o hj ho=>(hd j o hj ho).1,fun j o d ho hdd=>by
   have:=(List.getElem?_eq_some_iff.1 ho).1
   rcases Nat.lt_or_ge j i with e | e
   ·exact(hd j o e ho).2 d hdd
   ·exact hlt j o d e ho hdd⟩,h⟩
 | o::r,i,val,hr,hl,hd,h=>by
  obtain⟨u,h1,h2⟩:=h
  have ho:ops[i]? = some o:=by have:=hr 0 (by simp); simpa using this.symm
  -- the value of operation i is u
  let val':Nat→AV:=fun j=>if j=i then u else val j
  have hv:∀ j,j≤i→G05 ops l0 val' (fun _=>true) j=G05 ops l0 val (fun _=>true) j:=by
   intro j
   induction j with
   | zero=>intro _; rfl
   | succ j ih=>
    intro hj
    have hne:j≠i:=by omega
    simp only [G05,ih (by omega),val',if_neg hne]
  have hvi:val' i=u:=by simp [val']
  refine Jd4 ops ws los his Ls l0 K p hp hlt r (i+1) val' (fun j hj=>by have:=hr (j+1) (by simpa using hj); simpa [Nat.add_assoc,Nat.add_comm 1 j] using this) (by simp at hl; omega) (fun j o' hj ho'=>?_) ?_
  ·by_cases e:j=i
   ·subst e
    rw [ho] at ho'; cases ho'
    refine⟨?_,fun d hd'=>?_⟩
    ·rw [hv j (Nat.le_refl _),hvi]; exact h1
    ·rw [hd'] at h2; simpa [Nat.blt_eq] using h2.1
   ·obtain⟨a1,a2⟩:=hd j o' (by omega) ho'
    refine⟨?_,a2⟩
    rw [hv j (by omega),show val' j=val j by simp [val',e]]; exact a1
  ·simp only [G05,ho,Option.bind_some,if_true]
   cases hd':o.dst with
   | none=>rw [hd'] at h2; simpa [hv i (Nat.le_refl _)] using h2
   | some d=>rw [hd'] at h2; simpa [hv i (Nat.le_refl _),hvi] using h2.2

theorem Ja6 (ops:List Oper) (l0:Fr) (val:Nat→AV) (D:Nat→Bool):∀ i,(∀ j,j < i→D j=true)→G05 ops l0 val D i=G05 ops l0 val (fun _=>true) i
 | 0,_=>rfl
 | i+1,h=>by
  simp only [G05,Ja6 ops l0 val D i (fun j hj=>h j (by omega)),h i (by omega)]

section sound
variable {P:Program} {N:Cfg} {ops:List Oper} {ws los his:List Nat} {Ls:List Loc} {l0:Fr} {val:Nat→AV}

theorem J26 {tbl:List (List Nat)}:∀ {ws:List Nat},Ja9 tbl ws=true→∀ (m:Nat) x y,ws[m]? = some x→ws[m+1]? = some y→(tbl.getD y []).contains x=true∧x < y
 | [],_,m,x,y,h,_=>by simp at h
 | [_],_,m,x,y,_,h=>by simp at h
 | a::b::r,hc,m,x,y,h1,h2=>by
  simp only [Ja9,Bool.and_eq_true,decide_eq_true_eq] at hc
  cases m with
  | zero=>simp at h1 h2; subst h1; subst h2; exact hc.1
  | succ m=>exact J26 hc.2 m x y (by simpa using h1) (by simpa using h2)

def cnt (Dn:Nat→Bool) (ws:List Nat):Nat:=(ws.filter Dn).length

theorem H0f {Dn:Nat→Bool}:∀ {ws:List Nat},(∀ (m:Nat) x y,ws[m]? = some x→ws[m+1]? = some y→Dn y=true→Dn x=true)→∀ (m:Nat) x,ws[m]? = some x→(Dn x=true ↔ m < cnt Dn ws)
 | [],_,m,x,h=>by simp at h
 | a::r,hc,m,x,h=>by
  have hr:∀ (m:Nat) x y,r[m]? = some x→r[m+1]? = some y→Dn y=true→Dn x=true:=fun m x y h1 h2=>hc (m+1) x y (by simpa using h1) (by simpa using h2)
  by_cases ha:Dn a=true
  ·have e:cnt Dn (a::r)=cnt Dn r+1:=by simp [cnt,ha]
   cases m with
   | zero=>simp at h; subst h; rw [e]; simp [ha]
   | succ m=>
    have:=H0f hr m x (by simpa using h)
    rw [e,this]; omega
  ·have all:∀ (m:Nat) x,r[m]? = some x→Dn x=false:=by
    intro m
    induction m with
    | zero=>
     intro x hx
     cases hd:Dn x with
     | false=>rfl
     | true=>exact absurd (hc 0 a x (by simp) (by simpa using hx) hd) ha
    | succ m ih=>
     intro x hx
     cases hd:Dn x with
     | false=>rfl
     | true=>
      have hlt:m < r.length:=by
       have:=(List.getElem?_eq_some_iff.1 hx).1; omega
      have:=hr m r[m] x (by simp [hlt]) hx hd
      rw [ih r[m] (by simp [hlt])] at this; cases this
   have e:cnt Dn (a::r)=0:=by
    have:r.filter Dn=[]:=List.filter_eq_nil_iff.2 fun y hy=>by
     obtain⟨m,hm,e⟩:=List.mem_iff_getElem.1 hy
     have:=all m y (by simp [hm,e])
     simp [this]
    simp [cnt,ha,this]
   rw [e]
   cases m with
   | zero=>simp at h; subst h; simp [ha]
   | succ m=>simp [all m x (by simpa using h)]

structure Ya7 (P:Program) (N:Cfg) (ops:List Oper) (ws:List Nat) (Ls:List Loc) (l0:Fr) (val:Nat→AV) (w0:World) (β0:H4) (L0:Loc) (listed:Array Bool) (a:Act) (w:World):Prop where
 size:listed.size=ops.length
 closed:Closed ops.toArray (fun i=>listed.getD i false)
 st:∃ β L,Ls[cnt (fun i=>listed.getD i false) ws]? = some L∧Ri N w0 β0 L0 a w β (G05 ops l0 val (fun i=>listed.getD i false) ops.length) L

def unl (n:Nat) (listed:Array Bool):Nat:=((List.range n).filter fun i=>!listed.getD i false).length

theorem G0d {listed:Array Bool} {i:Nat} (h:i < listed.size):listed.getD i true=listed.getD i false:=by simp [h]

theorem Qff {ro:Option Nat} {n p:Nat} (hnd:∀ (i:Nat) o,ops[i]? = some o→G4c o=true) (chk:J46 ops ws los his=true) (pc:Y9e P N ops ws los his Ls l0 val p) {Q:Post} {w0:World} {β0:H4} {L0:Loc}
  (hT:(ops.length=p∧∀ L,Ls[ws.length]? = some L→Q.norm (G05 ops l0 val (fun _=>true) p) L)∨(ops.length=p+1∧∃ last,ops[p]? = some last∧(List.range p).all (fun j=>((Gba ops).getD p []).contains j)=true∧ws.contains p=false ∧
   ∀ a w β L,Ls[ws.length]? = some L→Ri N w0 β0 L0 a w β (G05 ops l0 val (fun _=>true) p) L→wpListIn (FR ro) n P ops.toArray (Q.out N w0 β0 L0) [last] a w)) :
  ∀ (fuel:Nat) (listed:Array Bool) (a:Act) (w:World),unl ops.length listed≤fuel→listed.getD p false=false→Ya7 P N ops ws Ls l0 val w0 β0 L0 listed a w→wpAnyIn (FR ro) n P .any ops.toArray (Q.out N w0 β0 L0) fuel listed a w:=by
 simp only [J46,Bool.and_eq_true] at chk
 obtain⟨⟨⟨⟨hdown,hord⟩,hchain⟩,hwlt⟩,hst⟩:=chk
 have hwlt':∀ x∈ws,x < ops.length:=fun x hx=>by
  simp only [List.all_eq_true,decide_eq_true_eq] at hwlt; exact hwlt x hx
 have anc:∀ {i z:Nat},((Gba ops).getD i []).contains z=true→Anc ops.toArray i z:=fun h=>R05 (by simpa using h)
 have down:∀ i o e,ops[i]? = some o→e∈o.after→Region.binds .any e=true→e.on < i:=by
  intro i o e ho he hb
  have hi:i < ops.length:=(List.getElem?_eq_some_iff.1 ho).1
  simp only [J45,List.all_eq_true,List.mem_range] at hdown
  have:=hdown i hi
  rw [ho] at this
  simp only [List.all_eq_true,decide_eq_true_eq] at this
  exact this e.on (List.mem_map.2 ⟨e,List.mem_filter.2 ⟨Array.mem_toList_iff.2 he,hb⟩,rfl⟩)
 -- when nothing is ready, all is done
 have finish:∀ (listed:Array Bool) (a:Act) (w:World),listed.getD p false=false→Ya7 P N ops ws Ls l0 val w0 β0 L0 listed a w→(∀ i,i < ops.length→listed.getD i false=true)→Q.out N w0 β0 L0 .normal a w:=by
  intro listed a w h1 hs hall
  rcases hT with ⟨hp,hQ⟩ | ⟨hp,_⟩
  ·obtain⟨β,L,hL,hok⟩:=hs.st
   have e1:cnt (fun i=>listed.getD i false) ws=ws.length:=by
    unfold cnt
    rw [List.filter_eq_self.2 fun x hx=>hall x (hwlt' x hx)]
   rw [e1] at hL
   rw [Ja6 ops l0 val _ ops.length (fun j hj=>hall j hj),hp] at hok
   exact⟨β,_,L,hok,hQ L hL⟩
  ·rw [hall p (by omega)] at h1; cases h1
 have stuck:∀ (listed:Array Bool),listed.size=ops.length→Region.ready .any ops.toArray listed=[]→∀ i,i < ops.length→listed.getD i false=true:=by
  intro listed hsz hr i
  induction i using Nat.strongRecOn with
  | _ i ih=>
   intro hi
   cases hd:listed.getD i false with
   | true=>rfl
   | false=>
    exfalso
    have:i∈Region.ready .any ops.toArray listed:=mem_ready.2 ⟨by rw [G0d (by omega)]; exact hd,ops[i],by simp [hi],fun e he hb=>by
     have:=down i ops[i] e (by simp [hi]) he hb
     exact ih e.on this (by omega)⟩
    rw [hr] at this; cases this
 intro fuel
 induction fuel with
 | zero=>
  intro listed a w hu hnp hs
  have hall:∀ i,i < ops.length→listed.getD i false=true:=by
   intro i hi
   cases hd:listed.getD i false with
   | true=>rfl
   | false=>
    have:i∈(List.range ops.length).filter fun i=>!listed.getD i false:=List.mem_filter.2 ⟨List.mem_range.2 hi,by rw [hd]; rfl⟩
    have h0:(List.range ops.length).filter (fun i=>!listed.getD i false)=[]:=List.eq_nil_of_length_eq_zero (by unfold unl at hu; omega)
    rw [h0] at this; cases this
  refine⟨?_,finish listed a w hnp hs hall⟩
  cases hr:Region.ready .any ops.toArray listed with
  | nil=>rfl
  | cons i r=>
   have hm:i∈Region.ready .any ops.toArray listed:=by rw [hr]; simp
   obtain⟨h1,o,ho,_⟩:=mem_ready.1 hm
   have hi:i < ops.length:=by have:=(Array.getElem?_eq_some_iff.1 ho).1; simpa using this
   rw [G0d (by rw [hs.size]; exact hi),hall i hi] at h1
   cases h1
 | succ fuel ih=>
  intro listed a w hu hnp hs
  refine⟨fun hr=>finish listed a w hnp hs (stuck listed hs.size hr),fun i hi=>?_⟩
  obtain⟨h1,o,ho,hedge⟩:=mem_ready.1 hi
  have ho':ops[i]? = some o:=by simpa using ho
  have hil:i < ops.length:=(List.getElem?_eq_some_iff.1 ho').1
  have hnot:listed.getD i false=false:=by rw [← G0d (by rw [hs.size]; exact hil)]; exact h1
  obtain⟨β,L,hL,hok⟩:=hs.st
  have hready:∀ j,Anc ops.toArray i j→listed.getD j false=true:=fun j hj=>hj.ready hs.closed (fun o' e ho2 he hb=>by
   rw [ho] at ho2; cases ho2; exact hedge e he hb)
  have hpre:∀ (m:Nat) x y,ws[m]? = some x→ws[m+1]? = some y→listed.getD y false=true→listed.getD x false=true:=fun m x y h1 h2 hy=>hs.closed.anc (anc (J26 hchain m x y h1 h2).1) hy
  -- what a slot that operation i names has to do with the others
  have names:∀ j t,j < ops.length→j≠i→(ops[j]?).bind (·.dst)=some t→t∈Ga9 ops.toArray o→(j < i∧Anc ops.toArray i j)∨(i < j∧Anc ops.toArray j i):=by
   intro j t hj hne hd ht
   simp only [R21,List.all_eq_true,List.mem_range] at hord
   have:=hord j hj
   rw [hd] at this
   simp only [List.all_eq_true,List.mem_range] at this
   have:=this i hil
   rw [ho'] at this
   have hc:(Ga9 ops.toArray o).contains t=true:=by simpa using ht
   simp only [hc,Bool.not_true,Bool.false_or,Bool.or_eq_true,beq_iff_eq,Ne.symm hne,false_or,ordered] at this
   rcases Nat.lt_or_ge i j with h | h
   ·rw [if_pos h] at this; exact .inr ⟨h,anc this⟩
   ·rw [if_neg (by omega)] at this; exact .inl ⟨by omega,anc this⟩
  have later:∀ j t,i < j→j < ops.length→(ops[j]?).bind (·.dst)=some t→t∈Ga9 ops.toArray o→listed.getD j false=false:=by
   intro j t hij hj hd ht
   rcases names j t hj (by omega) hd ht with h | h
   ·omega
   ·cases hl:listed.getD j false with
    | false=>rfl
    | true=>
     have:listed.getD i false=true:=hs.closed.anc h.2 hl
     rw [this] at hnot; cases hnot
  have earlier:∀ j t,j < i→(ops[j]?).bind (·.dst)=some t→t∈Ga9 ops.toArray o→listed.getD j false=true:=by
   intro j t hij hd ht
   rcases names j t (by omega) (by omega) hd ht with h | h
   ·exact hready j h.2
   ·omega
  -- the frame that operation i sees
  have hseen:Q8 a w β L (G30 (o.looksAt ops.toArray) (G05 ops l0 val (fun _=>true) i)):=by
   refine⟨fun t=>?_⟩
   rw [J74]
   split
   ·rename_i ht
    have hn:t∈Ga9 ops.toArray o:=List.mem_append_right _ ht
    have hv:=hok.frame.tmp t
    rw [Gaa] at hv ⊢
    have e1:G1d ops (fun i=>listed.getD i false) t ops.length=G1d ops (fun i=>listed.getD i false) t i:=
     H71 ops _ t i ops.length (by omega) (fun j h1 h2 hd=>by
      rcases Nat.lt_or_ge i j with h | h
      ·exact later j t h h2 hd hn
      ·have:j=i:=by omega
       subst this; exact hnot)
    have e2:G1d ops (fun i=>listed.getD i false) t i=G1d ops (fun _=>true) t i:=H27 ops _ _ t i (fun j hj hd=>earlier j t hj hd hn)
    rw [e1,e2] at hv
    exact hv
   ·exact .junk
  -- behind it
  let listed':=listed.setIfInBounds i true
  have hD':∀ j,listed'.getD j false=if j=i then true else listed.getD j false:=by
   intro j
   simp only [listed',Array.getD_eq_getD_getElem?,Array.getElem?_setIfInBounds]
   by_cases e:i=j
   ·subst e; simp [hs.size,hil]
   ·simp [e,Ne.symm e]
  by_cases hip:i=p
  ·subst hip
   rcases hT with ⟨hp,_⟩ | ⟨hp,last,hlast,hanc,hwp,hQ⟩
   ·omega
   have hall:∀ j,j < i→listed.getD j false=true:=fun j hj=>by
    simp only [List.all_eq_true,List.mem_range] at hanc
    exact hready j (anc (hanc j hj))
   have e1:cnt (fun i=>listed.getD i false) ws=ws.length:=by
    unfold cnt
    rw [List.filter_eq_self.2 fun x hx=>hall x (by
     have h1:=hwlt' x hx
     have h2:x≠i:=fun e=>by subst e; simp at hwp; exact hwp hx
     omega)]
   rw [e1] at hL
   have e2:G05 ops l0 val (fun i=>listed.getD i false) ops.length=G05 ops l0 val (fun _=>true) i:=by
    rw [hp]
    have:G05 ops l0 val (fun i=>listed.getD i false) (i+1)=G05 ops l0 val (fun i=>listed.getD i false) i:=by
     simp only [G05,hnot]
     cases (ops[i]?).bind (·.dst) <;> simp
    rw [this]
    exact Ja6 ops l0 val _ i (fun j hj=>hall j hj)
   rw [e2] at hok
   have hfin:=hQ a w β L hL hok
   have hr:Region.ready .any ops.toArray listed'=[]:=by
    cases hr:Region.ready .any ops.toArray listed' with
    | nil=>rfl
    | cons j r=>
     have hm:j∈Region.ready .any ops.toArray listed':=by rw [hr]; simp
     obtain⟨h1,o2,ho2,_⟩:=mem_ready.1 hm
     have hj:j < ops.length:=by have:=(Array.getElem?_eq_some_iff.1 ho2).1; simpa using this
     rw [G0d (by simp [listed',hs.size]; exact hj),hD' j] at h1
     by_cases e:j=i
     ·rw [if_pos e] at h1; cases h1
     ·rw [if_neg e,hall j (by omega)] at h1; cases h1
   have hend:∀ a w,Q.out N w0 β0 L0 .normal a w→wpAnyIn (FR ro) n P .any ops.toArray (Q.out N w0 β0 L0) fuel listed' a w:=fun a w h=>by
    cases fuel with
    | zero=>exact⟨hr,h⟩
    | succ f=>exact⟨fun _=>h,fun j hj=>by rw [hr] at hj; cases hj⟩
   rw [ho'] at hlast; cases hlast
   unfold wpOpIn
   rw [ho]
   simp only [wpListIn] at hfin
   show if _ then _ else _
   split
   ·rename_i hw; rw [if_pos hw] at hfin; exact Oper.wpIn_mono hend hfin
   ·rename_i hw; rw [if_neg hw] at hfin; exact⟨hfin.1,hend _ _ hfin.2⟩
  have hnext:∀ (L':Loc) (v:Value) (w':World) (β':H4),Ls[cnt (fun i=>listed'.getD i false) ws]? = some L'→Sat w' β' L'→Step w β L w' β' L'→V w' β' L' (val i) v →
    wpAnyIn (FR ro) n P .any ops.toArray (Q.out N w0 β0 L0) fuel listed' (a.put o.dst v) w':=by
   intro L' v w' β' hL' hsat' hst' hv'
   refine ih listed' _ w' ?_ (by rw [hD' p,if_neg (fun e=>hip e.symm)]; exact hnp) ⟨by simp [listed',hs.size],⟨fun k o2 e hk ho2 he hb=>?_⟩,β',L',hL',hsat',hok.step.trans hst',⟨fun t=>?_⟩,by rw [Act.put_size]; exact hok.size,hok.base,by rw [Act.put_defers']; exact hok.defers.step hst'⟩
   ·-- one fewer is left
    have hsub:((List.range ops.length).filter fun j=>!listed'.getD j false).length < ((List.range ops.length).filter fun j=>!listed.getD j false).length:=by
     have:(List.range ops.length).filter (fun j=>!listed'.getD j false)=((List.range ops.length).filter fun j=>!listed.getD j false).filter (fun j=>j != i):=by
      rw [List.filter_filter]
      congr 1
      funext j
      rw [hD' j]
      by_cases e:j=i <;> simp [e]
     rw [this]
     refine Nat.lt_of_le_of_ne (List.length_filter_le _ _) (fun e=>?_)
     have:=List.length_filter_eq_length_iff.1 e i (List.mem_filter.2 ⟨List.mem_range.2 hil,by rw [hnot]; rfl⟩)
     simp at this
    unfold unl at hu ⊢; omega
   ·rw [hD'] at hk ⊢
    by_cases e':e.on=i
    ·rw [if_pos e']
    ·rw [if_neg e']
     by_cases e2:k=i
     ·subst e2
      rw [ho] at ho2; cases ho2
      exact hedge e he hb
     ·rw [if_neg e2] at hk
      exact hs.closed.edge k o2 e hk ho2 he hb
   ·rw [Gaa]
    by_cases hd:o.dst=some t
    ·have hn:t∈Ga9 ops.toArray o:=List.mem_append_left _ (by simp [hd])
     have hdi:(ops[i]?).bind (·.dst)=some t:=by rw [ho']; exact hd
     have e1:G1d ops (fun i=>listed'.getD i false) t ops.length=G1d ops (fun i=>listed'.getD i false) t (i+1):=
      H71 ops _ t (i+1) ops.length (by omega) (fun j h1 h2 hdj=>by rw [hD' j,if_neg (by omega)]; exact later j t (by omega) h2 hdj hn)
     have e2:G1d ops (fun i=>listed'.getD i false) t (i+1)=some i:=by simp only [G1d]; rw [if_pos ⟨by rw [hD' i,if_pos rfl],hdi⟩]
     rw [e1,e2,hd,J21 (Nat.lt_of_lt_of_le (pc.lt i o t ho' hd) hok.size),if_pos rfl]
     exact hv'
    ·have e1:G1d ops (fun i=>listed'.getD i false) t ops.length=G1d ops (fun i=>listed.getD i false) t ops.length:=
      H27 ops _ _ t ops.length (fun j hj hdj=>by
       rw [hD' j,if_neg (fun e=>hd (by subst e; rw [ho'] at hdj; exact hdj))])
     have hv:=(hok.frame.tmp t).step hst'
     rw [Gaa] at hv
     rw [e1]
     have e2:(a.put o.dst v).tmps.getD t undef=a.tmps.getD t undef:=by
      cases hdd:o.dst with
      | none=>rfl
      | some d=>
       have hlt:d < a.tmps.size:=Nat.lt_of_lt_of_le (pc.lt i o d ho' hdd) hok.size
       rw [J21 hlt,if_neg (fun e=>hd (by rw [hdd,e]))]
     rw [e2]; exact hv
  unfold wpOpIn
  rw [ho]
  have fin:(∃ L',Ls[cnt (fun i=>listed'.getD i false) ws]? = some L'∧Gc0 P N ops.toArray o (G30 (o.looksAt ops.toArray) (G05 ops l0 val (fun _=>true) i)) L (val i) L') →
    if Region.wanted o (yielded ops.toArray a.tmps)=true then Oper.wpIn (FR ro) n P o a w (wpAnyIn (FR ro) n P .any ops.toArray (Q.out N w0 β0 L0) fuel listed') (Q.out N w0 β0 L0) else (∀ f,o.about P w a.eval=some f→(FR ro).fn f)∧wpAnyIn (FR ro) n P .any ops.toArray (Q.out N w0 β0 L0) fuel listed' (a.put o.dst undef) w:=by
   rintro⟨L',hL',hO⟩
   have:=hO a w β (wpAnyIn (FR ro) n P .any ops.toArray (Q.out N w0 β0 L0) fuel listed') (Q.out N w0 β0 L0) hok.sat hseen hok.size (fun v w' β' h1 h2 h3=>hnext L' v w' β' hL' h1 h2 h3)
   split
   ·rename_i hw; rw [if_pos hw] at this; exact H5f (hnd i o ho') this
   ·rename_i hw; rw [if_neg hw] at this; exact⟨fun _ _=>trivial,this⟩
  apply fin
  have hpc:=pc.step i o (by rcases hT with ⟨hp,_⟩ | ⟨hp,_⟩ <;> omega) ho'
  have hcnt:∀ (hw:ws.idxOf? i=none),cnt (fun i=>listed'.getD i false) ws=cnt (fun i=>listed.getD i false) ws:=by
   intro hw
   unfold cnt
   congr 1
   refine List.filter_congr fun x hx=>?_
   rw [hD' x,if_neg (fun e=>by subst e; exact absurd (List.idxOf?_eq_none_iff.1 hw) (by simpa using hx))]
  cases hwi:ws.idxOf? i with
  | none=>
   rw [hwi] at hpc
   simp only at hpc
   refine⟨L,by rw [hcnt hwi]; exact hL,?_⟩
   -- the stage lies between lo and hi
   simp only [List.all_eq_true,List.mem_range] at hst
   have hsti:=hst i hil
   have hni:ws.contains i=false:=by
    cases hc:ws.contains i with
    | false=>rfl
    | true=>exact absurd (List.idxOf?_eq_none_iff.1 hwi) (by simpa using hc)
   rw [hni] at hsti
   simp only [Bool.false_or,Bool.and_eq_true,beq_iff_eq] at hsti
   obtain⟨hlo,hhi⟩:=hsti
   have h1:los.getD i 0≤cnt (fun i=>listed.getD i false) ws:=by
    rw [hlo]; unfold Y0f cnt
    have:ws.filter (fun w=>((Gba ops).getD i []).contains w)=(ws.filter fun w=>listed.getD w false).filter (fun w=>((Gba ops).getD i []).contains w):=by
     rw [List.filter_filter]
     refine List.filter_congr fun x _=>?_
     cases hc:((Gba ops).getD i []).contains x with
     | false=>simp
     | true=>simp [hready x (anc hc)]
    rw [this]; exact List.length_filter_le _ _
   have h2:cnt (fun i=>listed.getD i false) ws≤his.getD i 0:=by
    rw [hhi]; unfold Y10 cnt
    have:ws.filter (fun w=>listed.getD w false)=(ws.filter fun w=>!((Gba ops).getD w []).contains i).filter (fun w=>listed.getD w false):=by
     rw [List.filter_filter]
     refine List.filter_congr fun x _=>?_
     cases hc:listed.getD x false with
     | false=>simp
     | true=>
      cases hc2:((Gba ops).getD x []).contains i with
      | false=>simp
      | true=>
       have:listed.getD i false=true:=hs.closed.anc (anc hc2) hc
       rw [this] at hnot; cases hnot
    rw [this]; exact List.length_filter_le _ _
   refine Q14 hpc (i:=cnt (fun i=>listed.getD i false) ws - los.getD i 0) ?_
   unfold J16
   rw [List.getElem?_take,if_pos (by omega),List.getElem?_drop]
   rw [show los.getD i 0+(cnt (fun i=>listed.getD i false) ws - los.getD i 0)=cnt (fun i=>listed.getD i false) ws by omega]
   exact hL
  | some m=>
   rw [hwi] at hpc
   simp only at hpc
   obtain⟨L1,L2,hL1,hL2,hO⟩:=hpc
   have hmi:ws[m]? = some i:=by
    have:=List.idxOf?_eq_some_iff.1 hwi
    obtain⟨h,e,_⟩:=this
    simp [h,e]
   -- the stage is m
   have hstage:cnt (fun i=>listed.getD i false) ws=m:=by
    have hle:¬ m < cnt (fun i=>listed.getD i false) ws:=fun h=>by
     have:=(H0f (Dn:=fun i=>listed.getD i false) hpre m i hmi).2 h
     simp only [hnot] at this; cases this
    rcases Nat.lt_or_ge (cnt (fun i=>listed.getD i false) ws) m with h | h
    ·exfalso
     -- the one before i is done
     have hm1:m - 1 < ws.length:=by have:=(List.getElem?_eq_some_iff.1 hmi).1; omega
     have hpx:ws[m - 1]? = some ws[m - 1]:=by simp [hm1]
     have:=J26 hchain (m - 1) ws[m - 1] i hpx (by rw [show m - 1+1=m by omega]; exact hmi)
     have hdone:=hready _ (anc this.1)
     have:=(H0f (Dn:=fun i=>listed.getD i false) hpre (m - 1) _ hpx).1 hdone
     omega
    ·omega
   have hclosed':∀ (k:Nat) x y,ws[k]? = some x→ws[k+1]? = some y→listed'.getD y false=true→listed'.getD x false=true:=by
    intro k x y hx hy hdy
    rw [hD'] at hdy ⊢
    by_cases e:x=i
    ·rw [if_pos e]
    ·rw [if_neg e]
     by_cases e2:y=i
     ·subst e2; exact hready _ (anc (J26 hchain k x y hx hy).1)
     ·rw [if_neg e2] at hdy; exact hpre k x y hx hy hdy
   have hcnt':cnt (fun i=>listed'.getD i false) ws=m+1:=by
    have a1:=(H0f (Dn:=fun i=>listed'.getD i false) hclosed' m i hmi).1 (by simp only [hD',if_pos])
    rcases Nat.lt_or_ge (m+1) (cnt (fun i=>listed'.getD i false) ws) with h | h
    ·exfalso
     have hlen:cnt (fun i=>listed'.getD i false) ws≤ws.length:=List.length_filter_le _ _
     have hlt:m+1 < ws.length:=by omega
     have hx:ws[m+1]? = some ws[m+1]:=by simp [hlt]
     have hd:=(H0f (Dn:=fun i=>listed'.getD i false) hclosed' (m+1) _ hx).2 h
     have hne:ws[m+1]≠i:=fun e=>by
      have:=(J26 hchain m i ws[m+1] hmi hx).2
      omega
     simp only [hD',if_neg hne] at hd
     have:=(H0f (Dn:=fun i=>listed.getD i false) hpre (m+1) _ hx).1 hd
     omega
    ·omega
   rw [hstage] at hL
   rw [hL1] at hL; cases hL
   exact⟨L2,by rw [hcnt']; exact hL2,hO⟩

theorem Ri.drew {N:Cfg} {w0 w:World} {β0 β:H4} {L0 L:Loc} {a:Act} {l:Fr} (h:Ri N w0 β0 L0 a w β l L):Ri N w0 β0 L0 a w.drew β l L:=by
 have st:Step w β L w.drew β L:=⟨rfl,rfl,⟨rfl,Nat.le_succ _⟩,Nat.le_refl _,fun _ _ _=>Iff.rfl,fun _ _ h=>⟨⟨h.lt,h.seen,h.kept⟩,rfl⟩,fun _ _ h=>⟨rfl,h⟩,fun _ _ cs h=>⟨rfl,cs,h⟩,fun _ _ es h=>⟨rfl,es,h⟩,fun _ _ n es h=>⟨rfl,n,es,h⟩,fun _ _ _ ver xs h=>⟨ver,xs,h,Nat.le_refl _,fun _=>⟨rfl,rfl,fun _ _=>rfl⟩⟩,fun _ _ _ ver hw h=>⟨ver,hw,h,Nat.le_refl _,fun _=>⟨rfl,rfl,fun _ _=>rfl⟩⟩⟩
 exact⟨⟨h.sat.hid,h.sat.bnd,h.sat.apart,h.sat.inj,fun id o ho=>(h.sat.obj id o ho).step st (fun _ _=>rfl)⟩,h.step.trans st,h.frame.step st,h.size,h.base,h.defers.step st⟩

theorem J4 {id:Nat} {Q:Post} {l:Fr} {L L':Loc} (ws los his:List Nat) (Ls:List Loc) (hm:P.follows .mixedOrders=true) (chk:J46 ops ws los his=true) (h0:Ls[0]? = some L) (h1:Ls[ws.length]? = some L')
  (h:G82 P N ops.toArray ws los his Ls 0 ops l (fun l'=>Q.norm l' L')) (hnd:ops.all G4c=true:=by rfl):JC P N (.region id ops.toArray true) Q l L:=by
 obtain⟨val,pc,hK⟩:=Jd4 ops ws los his Ls l _ ops.length (Nat.le_refl _) (fun j o d hj ho _=>by have:=(List.getElem?_eq_some_iff.1 ho).1; omega) ops 0 (fun _=>.junk) (fun j _=>by simp) (by simp) (fun j o hj=>by omega) h
 intro n w0 β0 L0 a w β hs
 refine wpIn_region_any hm ?_
 rw [List.size_toArray]
 refine Qff (ro:=N.ro) (n:=n) (fun i o hi=>List.all_eq_true.1 hnd o (List.mem_of_getElem? hi)) chk pc (.inl ⟨rfl,fun L'' hL''=>by rw [h1] at hL''; cases hL''; exact hK⟩) ops.length (Array.replicate ops.length false) a _ ?_ (by simp only [Array.getD_eq_getD_getElem?,Array.getElem?_replicate]; split <;> rfl) ⟨by simp,⟨fun i o e hi=>?_⟩,β,L,?_,?_⟩
 ·exact Nat.le_trans (List.length_filter_le _ _) (by simp)
 ·simp only [Array.getD_eq_getD_getElem?,Array.getElem?_replicate] at hi
  split at hi <;> simp at hi
 ·have:cnt (fun i=>(Array.replicate ops.length false).getD i false) ws=0:=by
   unfold cnt
   have hf:∀ i,(Array.replicate ops.length false).getD i false=false:=fun i=>by
    simp only [Array.getD_eq_getD_getElem?,Array.getElem?_replicate]; split <;> rfl
   simp [hf]
  rw [this]; exact h0
 ·have this:G05 ops l val (fun i=>(Array.replicate ops.length false).getD i false) ops.length=l:=by
   have hf:(fun i=>(Array.replicate ops.length false).getD i false)=fun _=>false:=by
    funext i
    simp only [Array.getD_eq_getD_getElem?,Array.getElem?_replicate]; split <;> rfl
   rw [hf]
   have:∀ n,G05 ops l val (fun _=>false) n=l:=by
    intro n
    induction n with
    | zero=>rfl
    | succ n ih=>
     cases hd:(ops[n]?).bind (·.dst) with
     | none=>simp only [G05,hd]; exact ih
     | some d=>simp only [G05,hd,Bool.false_eq_true,if_false]; exact ih
   exact this _
  rw [this]; exact hs.drew
end sound

/-! ### Open orders in which nothing turns the local memory: without stages -/
section plain
variable {P:Program} {N:Cfg} {ops:Array Oper} {o:Oper} {r:List Oper} {l:Fr} {L:Loc} {K:Fr→Prop}
def H13 (P:Program) (N:Cfg) (ops:Array Oper) (L:Loc):List Oper→Fr→(Fr→Prop)→Prop
 | [],l,K=>K l
 | o::r,l,K=>∃ u,Gc0 P N ops o (G30 (o.looksAt ops) l) L u L∧(match o.dst with
   | some d=>Nat.blt d N.n=true∧H13 P N ops L r ((d,u)::l) K
   | none=>H13 P N ops L r l K)
theorem H13.pre {zs:List Nat} (hz:∀ i,zs.getD i 0=0):∀ {r:List Oper} {i:Nat} {l:Fr},H13 P N ops L r l K→G82 P N ops [] zs zs [L] i r l K
 | [],_,_,h=>h
 | o::r,i,l,h=>by
  obtain⟨u,h1,h2⟩:=h
  refine⟨u,?_,?_⟩
  ·rw [hz i]; exact⟨h1,trivial⟩
  ·cases hd:o.dst with
   | some d=>rw [hd] at h2; exact⟨h2.1,h2.2.pre hz⟩
   | none=>rw [hd] at h2; exact H13.pre hz h2
theorem JC_d0 {ops:List Oper} {id:Nat} {Q:Post} (hm:P.follows .mixedOrders=true) (chk:J46 ops [] (List.replicate ops.length 0) (List.replicate ops.length 0)=true) (h:H13 P N ops.toArray L ops l (fun l'=>Q.norm l' L)) (hnd:ops.all G4c=true:=by rfl):JC P N (.region id ops.toArray true) Q l L:=
 J4 [] _ _ [L] hm chk rfl rfl (h.pre (fun i=>by simp only [List.getD_eq_getElem?_getD,List.getElem?_replicate]; split <;> rfl)) hnd
theorem Dq (v:AV) {d:Nat} (h:H0 P o (G30 (o.looksAt ops) l) L (Is v L)) (hd:o.dst=some d) (hk:H13 P N ops L r ((d,v)::l) K) (hg:o.guard=none:=by rfl) (hn:Nat.blt d N.n=true:=by rfl):H13 P N ops L (o::r) l K:=
 ⟨v,Ge h hg,by rw [hd]; exact⟨hn,hk⟩⟩
theorem Do (v:AV) (ts:List Nat) {d:Nat} {want c:Bool} {gv:AV} (hg:grd ops (G30 (o.looksAt ops) l) o=some (want,gv)) (hgd:J02 gv want c) (hus:J60 c (G30 (o.looksAt ops) l) (Jcb (G30 (o.looksAt ops) l) ts))
  (h:c=true→H0 P o (Jcb (G30 (o.looksAt ops) l) ts++G30 (o.looksAt ops) l) L (Is v L)) (hd:o.dst=some d) (hk:H13 P N ops L r ((d,.opt c v)::l) K) (hjn:Yd1 ops N.n o=true:=by rfl) (hn:Nat.blt d N.n=true:=by rfl):H13 P N ops L (o::r) l K:=by
 obtain⟨j,dj,h1,h2,h3,h4⟩:=Y24 hg hjn
 exact⟨.opt c v,H6 _ h1 h2 h3 hgd hus h h4,by rw [hd]; exact⟨hn,hk⟩⟩
theorem Dg (v:AV) {d:Nat} (h:Gc0 P N ops o (G30 (o.looksAt ops) l) L v L) (hd:o.dst=some d) (hk:H13 P N ops L r ((d,v)::l) K) (hn:Nat.blt d N.n=true:=by rfl):H13 P N ops L (o::r) l K:=
 ⟨v,h,by rw [hd]; exact⟨hn,hk⟩⟩
theorem Dnil (h:K l):H13 P N ops L [] l K:=h
end plain
end Go.Proofs.YtidpfkmbfgihlaaGreat
