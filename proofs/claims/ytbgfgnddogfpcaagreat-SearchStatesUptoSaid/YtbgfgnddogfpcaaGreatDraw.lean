/- A statement whose operations may be carried out in more than -/
import Derived.Test.YtbgfgnddogfpcaaGreatLits
import Derived.Orders
namespace Go.Proofs.YtbgfgnddogfpcaaGreat
open Go.RowKit

def cV (P:Program) (N:Cfg) (ops:Array Oper) (o:Oper) (l:Fr) (L:Loc) (u:AV) (L':Loc):Prop:=
 ∀ (a:Act) (w:World) (U:Gx) (K:Act->World->Prop) (Q:Exit->Act->World->Prop),Sat w U L->Jq a w U L l->N.n<=a.tmps.size ->
  (∀ v w' U',Sat w' U' L'->Step w U L w' U' L'->V w' U' L' u v->K (a.put o.dst v) w') ->
  (if Region.wanted o (yielded ops a.tmps) then o.wp P a w K Q else K (a.put o.dst undef) w)

section osteps
variable {P:Program} {N:Cfg} {ops:Array Oper} {o:Oper} {l:Fr} {L L':Loc} {u:AV}

theorem Gr (h:Gy P o l L (Is u L')) (hg:o.guard=none:=by rfl):cV P N ops o l L u L':=by
 intro a w U K Q h0 hf hn hK;have hw:Region.wanted o (yielded ops a.tmps)=true:=by simp [Region.wanted,hg]
 rw [if_pos hw];exact h a w U K Q h0 hf (fun u' L'' v w' U' hr=>by obtain⟨rfl,rfl⟩:=hr; exact hK v w' U')

theorem Gg {j dj:Nat} {want c:Bool} {gv:AV} (us:Fr) (hg:o.guard=some (j,want)) (hj:(ops[j]?).bind (·.dst)=some dj) (h1:look l dj=gv) (h2:rA gv want c) (h3:zV c l us) (h:c=true->Gy P o (us++l) L (Is u L)) (h4:Nat.blt dj N.n=true:=by rfl) :
  cV P N ops o l L (.opt c u) L:=by
 subst h1;intro a w U K Q h0 hf hn hK;have hw:=h2.wanted (ops:=ops) hf (P0 (by simpa [Nat.blt_eq] using h4) hn) hg hj;rw [hw];cases c with
 | true=>
  rw [if_pos rfl];refine h rfl a w U K Q h0 (hf.un h3) ?_;intro u' L'' v w' U' hr h5 h6 hv;obtain⟨rfl,rfl⟩:=hr;exact hK v w' U' h5 h6 (.opt (fun _=>hv) (fun e=>by cases e))
 | false=>
  rw [if_neg (by simp)];exact hK undef w U h0 (Step.refl _ _ _) (.opt (fun e=>by cases e) (fun _=>rfl))
end osteps

/-! ### Who comes bf whom -/
inductive Anc (ops:Array Oper):Nat->Nat->Prop
 | edge {i:Nat} {o:Oper} {e:Edge} (ho:ops[i]? = some o) (he:e∈o.after) (hb:Region.binds .any e=true):Anc ops i e.on
 | trans {i j k:Nat} (h:Anc ops i j) (h':Anc ops j k):Anc ops i k

def H06 (o:Oper):AI:=(o.after.toList.filter (Region.binds .any)).map (·.on)
def G6b (xs:AI):AI->AI
 | []=>xs
 | y::r=>G6b (if xs.contains y then xs else y::xs) r
def J45:AM->List AI->List AI
 | [],acc=>acc
 | o::r,acc=>J45 r (acc++[(H06 o).foldl (fun s k=>G6b s (k::acc.getD k [])) []])
def jE (ops:AM):List AI:=J45 ops []

theorem G55 {z:Nat}:∀ {ys xs:AI},z∈G6b xs ys->z∈xs\/z∈ys
 | [],xs,h=>.inl h
 | y::r,xs,h=>by
  simp only [G6b] at h;rcases G55 h with h | h
  .split at h
   .exact .inl h
   .rcases Pv.1 h with rfl | h
    .exact .inr (by simp)
    .exact .inl h
  .exact .inr (by simp [h])

theorem H8f (all:AM):∀ (r:AM) (acc:List AI) (k:Nat),acc.length=k->(∀ j,r[j]? = all[k+j]?)->(∀ i z,z∈acc.getD i []->Anc all.toArray i z) ->
  ∀ i z,z∈(J45 r acc).getD i []->Anc all.toArray i z
 | [],acc,k,_,_,h=>h
 | o::r,acc,k,hk,hr,h=>by
  simp only [J45];refine H8f all r _ (k+1) (by simp [hk]) (fun j=>by have:=hr (j+1); simpa [Nat.add_assoc,Nat.add_comm 1 j] using this) ?_;intro i z hz;rcases P4 i acc.length with hi | hi
  .refine h i z ?_;simpa [List.getD,Ph hi] using hz
  .simp only [List.getD,Pg hi] at hz;by_cases e:i=acc.length
   .subst e;simp only [Nat.sub_self,List.getElem?_cons_zero,Option.getD_some] at hz;have ho:all[acc.length]? = some o:=by have:=hr 0; simpa [hk] using this.symm
    have key:∀ (es:AI) (s:AI),(∀ y∈es,Anc all.toArray acc.length y)->(∀ y∈s,Anc all.toArray acc.length y) ->
      ∀ y∈es.foldl (fun s k=>G6b s (k::acc.getD k [])) s,Anc all.toArray acc.length y:=by
     intro es
     induction es with
     | nil=>intro s _ hs; exact hs
     | cons x es ih=>
      intro s he hs;simp only [List.foldl_cons];refine ih _ (fun y hy=>he y (by simp [hy])) (fun y hy=>?_);rcases G55 hy with hy | hy
      .exact hs y hy
      .rcases Pv.1 hy with rfl | hy
       .exact he _ (by simp)
       .exact .trans (he x (by simp)) (h x y hy)
    refine key _ [] (fun y hy=>?_) (by simp) z hz;simp only [H06,Pt,Pw] at hy;obtain⟨e,⟨he,hb⟩,rfl⟩:=hy;exact .edge (o:=o) (by simpa using ho) (Array.mem_toList_iff.1 he) hb
   .rw [List.getElem?_eq_none (by simp; omega)] at hz;simp at hz

variable {i:Nat}
theorem Ge5 {ops:AM} {z:Nat} (h:z∈(jE ops).getD i []):Anc ops.toArray i z:=
 H8f ops ops [] 0 rfl (fun j=>by simp) (fun i z h=>by simp [List.getD] at h) i z h

/-! ### The check, asked of the kernel -/
def J2b (tbl:List AI) (ws:AI) (i:Nat):Nat:=(ws.filter fun w=>(tbl.getD i []).contains w).length
def J2c (tbl:List AI) (ws:AI) (i:Nat):Nat:=(ws.filter fun w=>!(tbl.getD w []).contains i).length
def ordered (tbl:List AI) (i j:Nat):Bool:=if i < j then (tbl.getD j []).contains i else (tbl.getD i []).contains j
def iR (ops:Array Oper) (o:Oper):List Tmp:=o.dst.toList++o.looksAt ops
def H00 (ops:AM) (tbl:List AI):Bool:=
 (List.range ops.length).all fun j=>match (ops[j]?).bind (·.dst) with
  | none=>true
  | some t=>(List.range ops.length).all fun i=>i==j||(match ops[i]? with
   | some o=>!(iR ops.toArray o).contains t||ordered tbl i j
   | none=>true)
def QA (tbl:List AI):AI->Bool
 | []=>true
 | [_]=>true
 | x::y::r=>(tbl.getD y []).contains x&&decide (x < y)&&QA tbl (y::r)
def zA (ops:AM):Bool:=(List.range ops.length).all fun i=>match ops[i]? with
 | some o=>(H06 o).all fun j=>decide (j < i)
 | none=>true
def nL (ops:AM) (ws:AI) (los his:AI):Bool:=
 let tbl:=jE ops
 zA ops&&H00 ops tbl&&QA tbl ws&&ws.all (fun w=>decide (w < ops.length)) &&
 (List.range ops.length).all fun i=>ws.contains i||(los.getD i 0==J2b tbl ws i&&his.getD i 0==J2c tbl ws i)

def sG (p:Loc->Prop):List Loc->Prop
 | []=>True
 | L::r=>p L/\sG p r
theorem ZQ {p:Loc->Prop}:∀ {Ls:List Loc},sG p Ls->∀ {i:Nat} {L:Loc},Ls[i]? = some L->p L
 | L::r,h,i,L',e=>by
  cases i with
  | zero=>simp at e; subst e; exact h.1
  | succ i=>simp at e; exact ZQ h.2 e

def dR (ts:List Tmp) (l:Fr):Fr:=ts.map fun t=>(t,look l t)
theorem GZ (l:Fr) (t:Tmp):∀ (ts:List Tmp),look (dR ts l) t=if t∈ts then look l t else .AL
 | []=>by simp [dR,look]
 | s::r=>by
  have ih:=GZ l t r;simp only [dR,List.map_cons] at ih ⊢;by_cases e:s=t
  .subst e; simp [look]
  .have hb:Nat.beq s t=false:=by
    cases hb:Nat.beq s t with
    | false=>rfl
    | true=>exact absurd (P2 hb) e
   simp only [look,hb,cond_false,ih,Pv,Ne.symm e,false_or]

def xL (Ls:List Loc) (lo hi:Nat):List Loc:=(Ls.drop lo).take (hi+1 - lo)

def bD (P:Program) (N:Cfg) (ops:Array Oper) (ws los his:AI) (Ls:List Loc):Nat->AM->Fr->(Fr->Prop)->Prop
 | _,[],l,K=>K l
 | i,o::r,l,K=>∃ u,(match ws.idxOf? i with
   | some m=>∃ L L',Ls[m]? = some L/\Ls[m+1]? = some L'/\cV P N ops o (dR (o.looksAt ops) l) L u L'
   | none=>sG (fun L=>cV P N ops o (dR (o.looksAt ops) l) L u L) (xL Ls (los.getD i 0) (his.getD i 0)))/\(match o.dst with
   | some d=>Nat.blt d N.n=true/\bD P N ops ws los his Ls (i+1) r ((d,u)::l) K
   | none=>bD P N ops ws los his Ls (i+1) r l K)

section pre
variable {P:Program} {N:Cfg} {ops:Array Oper} {ws los his:AI} {Ls:List Loc} {i:Nat} {o:Oper} {r:AM} {l:Fr} {K:Fr->Prop} {u:AV}
theorem Y2 (h:K l):bD P N ops ws los his Ls i [] l K:=h
theorem Gb {d:Nat} (hd:o.dst=some d) (hi:ws.idxOf? i=none) (h:sG (fun L=>cV P N ops o (dR (o.looksAt ops) l) L u L) (xL Ls (los.getD i 0) (his.getD i 0))) (hk:bD P N ops ws los his Ls (i+1) r ((d,u)::l) K) (hn:Nat.blt d N.n=true:=by rfl) :
  bD P N ops ws los his Ls i (o::r) l K:=by
 refine⟨u,?_,?_⟩
 .rw [hi]; exact h
 .rw [hd]; exact⟨hn,hk⟩
theorem D_w {m d:Nat} {L L':Loc} (hd:o.dst=some d) (hi:ws.idxOf? i=some m) (hL:Ls[m]? = some L) (h0:Ls[m+1]? = some L') (h:cV P N ops o (dR (o.looksAt ops) l) L u L') (hk:bD P N ops ws los his Ls (i+1) r ((d,u)::l) K) (hn:Nat.blt d N.n=true:=by rfl) :
  bD P N ops ws los his Ls i (o::r) l K:=by
 refine⟨u,?_,?_⟩
 .rw [hi]; exact⟨L,L',hL,h0,h⟩
 .rw [hd]; exact⟨hn,hk⟩
theorem Q47 {m:Nat} {L L':Loc} (hd:o.dst=none) (hi:ws.idxOf? i=some m) (hL:Ls[m]? = some L) (h0:Ls[m+1]? = some L') (h:cV P N ops o (dR (o.looksAt ops) l) L u L') (hk:bD P N ops ws los his Ls (i+1) r l K) :
  bD P N ops ws los his Ls i (o::r) l K:=by
 refine⟨u,?_,?_⟩
 .rw [hi]; exact⟨L,L',hL,h0,h⟩
 .rw [hd]; exact hk
end pre

/-! ### Why the order is of no account -/
def Zq (ops:AM) (l0:Fr) (val:Nat->AV) (Dn:Nat->Bool):Nat->Fr
 | 0=>l0
 | i+1=>match (ops[i]?).bind (·.dst) with
  | some d=>if Dn i then (d,val i)::Zq ops l0 val Dn i else Zq ops l0 val Dn i
  | none=>Zq ops l0 val Dn i

def cQ (ops:AM) (Dn:Nat->Bool) (t:Nat):Nat->Option Nat
 | 0=>none
 | i+1=>if Dn i=true/\(ops[i]?).bind (·.dst)=some t then some i else cQ ops Dn t i

theorem Gd4 (d t:Nat) (u:AV) (l:Fr):look ((d,u)::l) t=if d=t then u else look l t:=by
 by_cases e:d=t
 .subst e; simp [look]
 .have hb:Nat.beq d t=false:=by
   cases hb:Nat.beq d t with
   | false=>rfl
   | true=>exact absurd (P2 hb) e
  simp [look,hb,e]

theorem iS (ops:AM) (l0:Fr) (val:Nat->AV) (Dn:Nat->Bool) (t:Nat):∀ i,look (Zq ops l0 val Dn i) t=match cQ ops Dn t i with
  | some j=>val j
  | none=>look l0 t
 | 0=>rfl
 | i+1=>by
  simp only [Zq,cQ];cases hd:(ops[i]?).bind (·.dst) with
  | none=>simpa using iS ops l0 val Dn t i
  | some d=>
   by_cases hD:Dn i=true
   .by_cases e:d=t
    .subst e; simp [hD,Gd4]
    .simp only [hD,if_true,Gd4,true_and,Option.some.injEq,e,if_false];exact iS ops l0 val Dn t i
   .simp only [hD,false_and,if_false,Bool.false_eq_true];exact iS ops l0 val Dn t i

theorem nT (ops:AM) (D D':Nat->Bool) (t:Nat):∀ i,(∀ j,j < i->(ops[j]?).bind (·.dst)=some t->D j=D' j)->cQ ops D t i=cQ ops D' t i
 | 0,_=>rfl
 | i+1,h=>by
  have ih:=nT ops D D' t i (fun j hj=>h j (by omega));simp only [cQ];by_cases e:(ops[i]?).bind (·.dst)=some t
  .rw [h i (by omega) e,ih]
  .simp only [e,and_false,if_false]; exact ih

theorem qF (ops:AM) (D:Nat->Bool) (t i:Nat):∀ n,i<=n->(∀ j,i<=j->j < n->(ops[j]?).bind (·.dst)=some t->D j=false)->cQ ops D t n=cQ ops D t i
 | 0,h,_=>by
  have:i=0:=by omega
  subst this; rfl
 | n+1,h,hh=>by
  by_cases e:i=n+1
  .subst e; rfl
  .simp only [cQ];have ih:=qF ops D t i n (by omega) (fun j h1 h2=>hh j h1 (by omega));by_cases e':(ops[n]?).bind (·.dst)=some t
   .have:=hh n (by omega) (by omega) e';simp only [this,Bool.false_eq_true,false_and,if_false]; exact ih
   .simp only [e',and_false,if_false]; exact ih

structure Closed (ops:Array Oper) (Dn:Nat->Bool):Prop where
 edge:∀ i o e,Dn i=true->ops[i]? = some o->e∈o.after->Region.binds .any e=true->Dn e.on=true

theorem Closed.anc {ops:Array Oper} {Dn:Nat->Bool} (h:Closed ops Dn) {j:Nat} (ha:Anc ops i j):Dn i=true->Dn j=true:=by
 induction ha with
 | edge ho he hb=>exact fun hi=>h.edge _ _ _ hi ho he hb
 | trans _ _ ih1 ih2=>exact fun hi=>ih2 (ih1 hi)

theorem Anc.ready {ops:Array Oper} {Dn:Nat->Bool} (h:Closed ops Dn) {j:Nat} (ha:Anc ops i j):(∀ o e,ops[i]? = some o->e∈o.after->Region.binds .any e=true->Dn e.on=true)->Dn j=true:=by
 induction ha with
 | edge ho he hb=>exact fun hr=>hr _ _ ho he hb
 | trans _ h2 ih1 _=>exact fun hr=>h.anc h2 (ih1 hr)

structure Jc8 (P:Program) (N:Cfg) (ops:AM) (ws los his:AI) (Ls:List Loc) (l0:Fr) (val:Nat->AV) (p:Nat):Prop where
 step:∀ i o,i < p->ops[i]? = some o->(match ws.idxOf? i with
   | some m=>∃ L L',Ls[m]? = some L/\Ls[m+1]? = some L'/\cV P N ops.toArray o (dR (o.looksAt ops.toArray) (Zq ops l0 val (fun _=>true) i)) L (val i) L'
   | none=>sG (fun L=>cV P N ops.toArray o (dR (o.looksAt ops.toArray) (Zq ops l0 val (fun _=>true) i)) L (val i) L) (xL Ls (los.getD i 0) (his.getD i 0)))
 lt:∀ (i:Nat) (o:Oper) (d:Tmp),ops[i]? = some o->o.dst=some d->d < N.n

theorem yU {P:Program} {N:Cfg} (ops:AM) (ws los his:AI) (Ls:List Loc) (l0:Fr) (K:Fr->Prop) (p:Nat) (hp:p<=ops.length) (h4:∀ j o d,p<=j->ops[j]? = some o->o.dst=some d->d < N.n):∀ (r:AM) (i:Nat) (val:Nat->AV),(∀ j,j < r.length->r[j]? = ops[i+j]?)->i+r.length=p ->
  (∀ j o,j < i->ops[j]? = some o->(match ws.idxOf? j with
   | some m=>∃ L L',Ls[m]? = some L/\Ls[m+1]? = some L'/\cV P N ops.toArray o (dR (o.looksAt ops.toArray) (Zq ops l0 val (fun _=>true) j)) L (val j) L'
   | none=>sG (fun L=>cV P N ops.toArray o (dR (o.looksAt ops.toArray) (Zq ops l0 val (fun _=>true) j)) L (val j) L) (xL Ls (los.getD j 0) (his.getD j 0)))/\∀ d,o.dst=some d->d < N.n) ->
  bD P N ops.toArray ws los his Ls i r (Zq ops l0 val (fun _=>true) i) K->∃ val',Jc8 P N ops ws los his Ls l0 val' p/\K (Zq ops l0 val' (fun _=>true) p)
 | [],i,val,hr,hl,hd,h=>by
  simp at hl;subst hl;exact⟨val,⟨fun j o hj ho=>(hd j o hj ho).1,fun j o d ho h5=>by
   have:=(Pa ho).1;rcases P4 j i with e | e
   .exact(hd j o e ho).2 d h5
   .exact h4 j o d e ho h5⟩,h⟩
 | o::r,i,val,hr,hl,hd,h=>by
  obtain⟨u,h1,h2⟩:=h;have ho:ops[i]? = some o:=by have:=hr 0 (by simp); simpa using this.symm
  -- the value of operation i is u
  let val':Nat->AV:=fun j=>if j=i then u else val j
  have hv:∀ j,j<=i->Zq ops l0 val' (fun _=>true) j=Zq ops l0 val (fun _=>true) j:=by
   intro j
   induction j with
   | zero=>intro _; rfl
   | succ j ih=>
    intro hj;have h7:j≠i:=by omega
    simp only [Zq,ih (by omega),val',if_neg h7]
  have h6:val' i=u:=by simp [val']
  refine yU ops ws los his Ls l0 K p hp h4 r (i+1) val' (fun j hj=>by have:=hr (j+1) (by simpa using hj); simpa [Nat.add_assoc,Nat.add_comm 1 j] using this) (by simp at hl; omega) (fun j o' hj h3=>?_) ?_
  .by_cases e:j=i
   .subst e;rw [ho] at h3; cases h3;refine⟨?_,fun d h0=>?_⟩
    .rw [hv j (Pf),h6]; exact h1
    .rw [h0] at h2; simpa [Nat.blt_eq] using h2.1
   .obtain⟨a1,a2⟩:=hd j o' (by omega) h3;refine⟨?_,a2⟩;rw [hv j (by omega),show val' j=val j by simp [val',e]]; exact a1
  .simp only [Zq,ho,Option.bind_some,if_true];cases h0:o.dst with
   | none=>rw [h0] at h2; simpa [hv i (Pf)] using h2
   | some d=>rw [h0] at h2; simpa [hv i (Pf),h6] using h2.2

theorem JV (ops:AM) (l0:Fr) (val:Nat->AV) (D:Nat->Bool):∀ i,(∀ j,j < i->D j=true)->Zq ops l0 val D i=Zq ops l0 val (fun _=>true) i
 | 0,_=>rfl
 | i+1,h=>by
  simp only [Zq,JV ops l0 val D i (fun j hj=>h j (by omega)),h i (by omega)]

section sound
variable {P:Program} {N:Cfg} {ops:AM} {ws los his:AI} {Ls:List Loc} {l0:Fr} {val:Nat->AV}

theorem yA {tbl:List AI}:∀ {ws:AI},QA tbl ws=true->∀ (m:Nat) x y,ws[m]? = some x->ws[m+1]? = some y->(tbl.getD y []).contains x=true/\x < y
 | [],_,m,x,y,h,_=>by simp at h
 | [_],_,m,x,y,_,h=>by simp at h
 | a::b::r,hc,m,x,y,h1,h2=>by
  simp only [QA,Pp,Pq] at hc;cases m with
  | zero=>simp at h1 h2; subst h1; subst h2; exact hc.1
  | succ m=>exact yA hc.2 m x y (by simpa using h1) (by simpa using h2)

def cnt (Dn:Nat->Bool) (ws:AI):Nat:=(ws.filter Dn).length

theorem mU {Dn:Nat->Bool}:∀ {ws:AI},(∀ (m:Nat) x y,ws[m]? = some x->ws[m+1]? = some y->Dn y=true->Dn x=true)->∀ (m:Nat) x,ws[m]? = some x->(Dn x=true ↔ m < cnt Dn ws)
 | [],_,m,x,h=>by simp at h
 | a::r,hc,m,x,h=>by
  have hr:∀ (m:Nat) x y,r[m]? = some x->r[m+1]? = some y->Dn y=true->Dn x=true:=fun m x y h1 h2=>hc (m+1) x y (by simpa using h1) (by simpa using h2);by_cases ha:Dn a=true
  .have e:cnt Dn (a::r)=cnt Dn r+1:=by simp [cnt,ha]
   cases m with
   | zero=>simp at h; subst h; rw [e]; simp [ha]
   | succ m=>
    have:=mU hr m x (by simpa using h);rw [e,this]; omega
  .have all:∀ (m:Nat) x,r[m]? = some x->Dn x=false:=by
    intro m
    induction m with
    | zero=>
     intro x hx;cases hd:Dn x with
     | false=>rfl
     | true=>exact absurd (hc 0 a x (by simp) (by simpa using hx) hd) ha
    | succ m ih=>
     intro x hx;cases hd:Dn x with
     | false=>rfl
     | true=>
      have h0:m < r.length:=by
       have:=(Pa hx).1; omega
      have:=hr m r[m] x (by simp [h0]) hx hd;rw [ih r[m] (by simp [h0])] at this; cases this
   have e:cnt Dn (a::r)=0:=by
    have:r.filter Dn=[]:=List.filter_eq_nil_iff.2 fun y hy=>by
     obtain⟨m,hm,e⟩:=List.mem_iff_getElem.1 hy;have:=all m y (by simp [hm,e]);simp [this]
    simp [cnt,ha,this]
   rw [e];cases m with
   | zero=>simp at h; subst h; simp [ha]
   | succ m=>simp [all m x (by simpa using h)]

structure Jd8 (P:Program) (N:Cfg) (ops:AM) (ws:AI) (Ls:List Loc) (l0:Fr) (val:Nat->AV) (w0:World) (U0:Gx) (L0:Loc) (listed:Array Bool) (a:Act) (w:World):Prop where
 size:listed.size=ops.length
 closed:Closed ops.toArray (fun i=>listed.getD i false)
 st:∃ U L,Ls[cnt (fun i=>listed.getD i false) ws]? = some L/\Qn N w0 U0 L0 a w U (Zq ops l0 val (fun i=>listed.getD i false) ops.length) L

def unl (n:Nat) (listed:Array Bool):Nat:=((List.range n).filter fun i=>!listed.getD i false).length

theorem bY {listed:Array Bool} {i:Nat} (h:i < listed.size):listed.getD i true=listed.getD i false:=by simp [h]

theorem RT {ro:Option Nat} {n p:Nat} (d8:∀ (i:Nat) o,ops[i]? = some o->bL o=true) (chk:nL ops ws los his=true) (pc:Jc8 P N ops ws los his Ls l0 val p) {Q:Post} {w0:World} {U0:Gx} {L0:Loc}
  (hT:(ops.length=p/\∀ L,Ls[ws.length]? = some L->Q.norm (Zq ops l0 val (fun _=>true) p) L)\/(ops.length=p+1/\∃ last,ops[p]? = some last/\(List.range p).all (fun j=>((jE ops).getD p []).contains j)=true/\ws.contains p=false /\
   ∀ a w U L,Ls[ws.length]? = some L->Qn N w0 U0 L0 a w U (Zq ops l0 val (fun _=>true) p) L->wpListIn (FR ro) n P ops.toArray (Q.out N w0 U0 L0) [last] a w)) :
  ∀ (fuel:Nat) (listed:Array Bool) (a:Act) (w:World),unl ops.length listed<=fuel->listed.getD p false=false->Jd8 P N ops ws Ls l0 val w0 U0 L0 listed a w->wpAnyIn (FR ro) n P .any ops.toArray (Q.out N w0 U0 L0) fuel listed a w:=by
 simp only [nL,Pp] at chk;obtain⟨⟨⟨⟨b2,b8⟩,h9⟩,b9⟩,d2⟩:=chk;have b3:∀ x∈ws,x < ops.length:=fun x hx=>by
  simp only [List.all_eq_true,Pq] at b9; exact b9 x hx
 have anc:∀ {i z:Nat},((jE ops).getD i []).contains z=true->Anc ops.toArray i z:=fun h=>Ge5 (by simpa using h);have down:∀ i o e,ops[i]? = some o->e∈o.after->Region.binds .any e=true->e.on < i:=by
  intro i o e ho he hb;have hi:i < ops.length:=(Pa ho).1;simp only [zA,List.all_eq_true,List.mem_range] at b2;have:=b2 i hi;rw [ho] at this;simp only [List.all_eq_true,Pq] at this;exact this e.on (Pt.2 ⟨e,Pw.2 ⟨Array.mem_toList_iff.2 he,hb⟩,rfl⟩)
 -- when nothing is ready, all is done
 have finish:∀ (listed:Array Bool) (a:Act) (w:World),listed.getD p false=false->Jd8 P N ops ws Ls l0 val w0 U0 L0 listed a w->(∀ i,i < ops.length->listed.getD i false=true)->Q.out N w0 U0 L0 .normal a w:=by
  intro listed a w h1 hs h5;rcases hT with ⟨hp,hQ⟩ | ⟨hp,_⟩
  .obtain⟨U,L,hL,h4⟩:=hs.st;have e1:cnt (fun i=>listed.getD i false) ws=ws.length:=by
    unfold cnt;rw [List.filter_eq_self.2 fun x hx=>h5 x (b3 x hx)]
   rw [e1] at hL;rw [JV ops l0 val _ ops.length (fun j hj=>h5 j hj),hp] at h4;exact⟨U,_,L,h4,hQ L hL⟩
  .rw [h5 p (by omega)] at h1; cases h1
 have stuck:∀ (listed:Array Bool),listed.size=ops.length->Region.ready .any ops.toArray listed=[]->∀ i,i < ops.length->listed.getD i false=true:=by
  intro listed f3 hr i
  induction i using Nat.strongRecOn with
  | _ i ih=>
   intro hi;cases hd:listed.getD i false with
   | true=>rfl
   | false=>
    exfalso;have:i∈Region.ready .any ops.toArray listed:=mem_ready.2 ⟨by rw [bY (by omega)]; exact hd,ops[i],by simp [hi],fun e he hb=>by
     have:=down i ops[i] e (by simp [hi]) he hb;exact ih e.on this (by omega)⟩
    rw [hr] at this; cases this
 intro fuel
 induction fuel with
 | zero=>
  intro listed a w hu b4 hs;have h5:∀ i,i < ops.length->listed.getD i false=true:=by
   intro i hi;cases hd:listed.getD i false with
   | true=>rfl
   | false=>
    have:i∈(List.range ops.length).filter fun i=>!listed.getD i false:=Pw.2 ⟨List.mem_range.2 hi,by rw [hd]; rfl⟩;have h0:(List.range ops.length).filter (fun i=>!listed.getD i false)=[]:=P1 (by unfold unl at hu; omega);rw [h0] at this; cases this
  refine⟨?_,finish listed a w b4 hs h5⟩;cases hr:Region.ready .any ops.toArray listed with
  | nil=>rfl
  | cons i r=>
   have hm:i∈Region.ready .any ops.toArray listed:=by rw [hr]; simp
   obtain⟨h1,o,ho,_⟩:=mem_ready.1 hm;have hi:i < ops.length:=by have:=(Nz ho).1; simpa using this
   rw [bY (by rw [hs.size]; exact hi),h5 i hi] at h1;cases h1
 | succ fuel ih=>
  intro listed a w hu b4 hs;refine⟨fun hr=>finish listed a w b4 hs (stuck listed hs.size hr),fun i hi=>?_⟩;obtain⟨h1,o,ho,b5⟩:=mem_ready.1 hi;have a0:ops[i]? = some o:=by simpa using ho
  have a7:i < ops.length:=(Pa a0).1;have h6:listed.getD i false=false:=by rw [<- bY (by rw [hs.size]; exact a7)]; exact h1
  obtain⟨U,L,hL,h4⟩:=hs.st;have h7:∀ j,Anc ops.toArray i j->listed.getD j false=true:=fun j hj=>hj.ready hs.closed (fun o' e a3 he hb=>by
   rw [ho] at a3; cases a3; exact b5 e he hb)
  have a6:∀ (m:Nat) x y,ws[m]? = some x->ws[m+1]? = some y->listed.getD y false=true->listed.getD x false=true:=fun m x y h1 h2 hy=>hs.closed.anc (anc (yA h9 m x y h1 h2).1) hy
  -- what a slot that operation i names has to do with the others
  have names:∀ j t,j < ops.length->j≠i->(ops[j]?).bind (·.dst)=some t->t∈iR ops.toArray o->(j < i/\Anc ops.toArray i j)\/(i < j/\Anc ops.toArray j i):=by
   intro j t hj c0 hd ht;simp only [H00,List.all_eq_true,List.mem_range] at b8;have:=b8 j hj;rw [hd] at this;simp only [List.all_eq_true,List.mem_range] at this;have:=this i a7;rw [a0] at this;have hc:(iR ops.toArray o).contains t=true:=by simpa using ht
   simp only [hc,Bool.not_true,Bool.false_or,Px,beq_iff_eq,Ne.symm c0,false_or,ordered] at this;rcases P4 i j with h | h
   .rw [if_pos h] at this; exact .inr ⟨h,anc this⟩
   .rw [if_neg (by omega)] at this; exact .inl ⟨by omega,anc this⟩
  have later:∀ j t,i < j->j < ops.length->(ops[j]?).bind (·.dst)=some t->t∈iR ops.toArray o->listed.getD j false=false:=by
   intro j t d9 hj hd ht;rcases names j t hj (by omega) hd ht with h | h
   .omega
   .cases hl:listed.getD j false with
    | false=>rfl
    | true=>
     have:listed.getD i false=true:=hs.closed.anc h.2 hl;rw [this] at h6; cases h6
  have earlier:∀ j t,j < i->(ops[j]?).bind (·.dst)=some t->t∈iR ops.toArray o->listed.getD j false=true:=by
   intro j t d9 hd ht;rcases names j t (by omega) (by omega) hd ht with h | h
   .exact h7 j h.2
   .omega
  -- the frame that operation i sees
  have c7:Jq a w U L (dR (o.looksAt ops.toArray) (Zq ops l0 val (fun _=>true) i)):=by
   refine⟨fun t=>?_⟩;rw [GZ];split
   .rename_i ht;have hn:t∈iR ops.toArray o:=List.mem_append_right _ ht;have hv:=h4.frame.tmp t;rw [iS] at hv ⊢;have e1:cQ ops (fun i=>listed.getD i false) t ops.length=cQ ops (fun i=>listed.getD i false) t i:=
     qF ops _ t i ops.length (by omega) (fun j h1 h2 hd=>by
      rcases P4 i j with h | h
      .exact later j t h h2 hd hn
      .have:j=i:=by omega
       subst this; exact h6)
    have e2:cQ ops (fun i=>listed.getD i false) t i=cQ ops (fun _=>true) t i:=nT ops _ _ t i (fun j hj hd=>earlier j t hj hd hn);rw [e1,e2] at hv;exact hv
   .exact .AL
  -- behind it
  let listed':=listed.setIfInBounds i true
  have h8:∀ j,listed'.getD j false=if j=i then true else listed.getD j false:=by
   intro j;simp only [listed',Array.getD_eq_getD_getElem?,Array.getElem?_setIfInBounds];by_cases e:i=j
   .subst e; simp [hs.size,a7]
   .simp [e,Ne.symm e]
  by_cases d3:i=p
  .subst d3;rcases hT with ⟨hp,_⟩ | ⟨hp,last,b6,c1,d4,hQ⟩
   .omega
   have h5:∀ j,j < i->listed.getD j false=true:=fun j hj=>by
    simp only [List.all_eq_true,List.mem_range] at c1;exact h7 j (anc (c1 j hj))
   have e1:cnt (fun i=>listed.getD i false) ws=ws.length:=by
    unfold cnt;rw [List.filter_eq_self.2 fun x hx=>h5 x (by
     have h1:=b3 x hx;have h2:x≠i:=fun e=>by subst e; simp at d4; exact d4 hx
     omega)]
   rw [e1] at hL;have e2:Zq ops l0 val (fun i=>listed.getD i false) ops.length=Zq ops l0 val (fun _=>true) i:=by
    rw [hp];have:Zq ops l0 val (fun i=>listed.getD i false) (i+1)=Zq ops l0 val (fun i=>listed.getD i false) i:=by
     simp only [Zq,h6];cases (ops[i]?).bind (·.dst) <;> simp
    rw [this];exact JV ops l0 val _ i (fun j hj=>h5 j hj)
   rw [e2] at h4;have a2:=hQ a w U L hL h4;have hr:Region.ready .any ops.toArray listed'=[]:=by
    cases hr:Region.ready .any ops.toArray listed' with
    | nil=>rfl
    | cons j r=>
     have hm:j∈Region.ready .any ops.toArray listed':=by rw [hr]; simp
     obtain⟨h1,o2,a3,_⟩:=mem_ready.1 hm;have hj:j < ops.length:=by have:=(Nz a3).1; simpa using this
     rw [bY (by simp [listed',hs.size]; exact hj),h8 j] at h1;by_cases e:j=i
     .rw [if_pos e] at h1; cases h1
     .rw [if_neg e,h5 j (by omega)] at h1; cases h1
   have c2:∀ a w,Q.out N w0 U0 L0 .normal a w->wpAnyIn (FR ro) n P .any ops.toArray (Q.out N w0 U0 L0) fuel listed' a w:=fun a w h=>by
    cases fuel with
    | zero=>exact⟨hr,h⟩
    | succ f=>exact⟨fun _=>h,fun j hj=>by rw [hr] at hj; cases hj⟩
   rw [a0] at b6; cases b6;unfold wpOpIn;rw [ho];simp only [wpListIn] at a2;show if _ then _ else _
   split
   .rename_i hw; rw [if_pos hw] at a2; exact Oper.wpIn_mono c2 a2
   .rename_i hw; rw [if_neg hw] at a2; exact⟨a2.1,c2 _ _ a2.2⟩
  have c8:∀ (L':Loc) (v:Value) (w':World) (U':Gx),Ls[cnt (fun i=>listed'.getD i false) ws]? = some L'->Sat w' U' L'->Step w U L w' U' L'->V w' U' L' (val i) v ->
    wpAnyIn (FR ro) n P .any ops.toArray (Q.out N w0 U0 L0) fuel listed' (a.put o.dst v) w':=by
   intro L' v w' U' c3 c9 b0 e0;refine ih listed' _ w' ?_ (by rw [h8 p,if_neg (fun e=>d3 e.symm)]; exact b4) ⟨by simp [listed',hs.size],⟨fun k o2 e hk a3 he hb=>?_⟩,U',L',c3,c9,h4.step.trans b0,⟨fun t=>?_⟩,by rw [Act.put_size]; exact h4.size,h4.base,by rw [Act.put_defers']; exact h4.defers.step b0⟩
   ·-- one fewer is left
    have f1:((List.range ops.length).filter fun j=>!listed'.getD j false).length < ((List.range ops.length).filter fun j=>!listed.getD j false).length:=by
     have:(List.range ops.length).filter (fun j=>!listed'.getD j false)=((List.range ops.length).filter fun j=>!listed.getD j false).filter (fun j=>j != i):=by
      rw [List.filter_filter];congr 1;funext j;rw [h8 j];by_cases e:j=i <;> simp [e]
     rw [this];refine Nat.lt_of_le_of_ne (P3 _ _) (fun e=>?_);have:=List.length_filter_eq_length_iff.1 e i (Pw.2 ⟨List.mem_range.2 a7,by rw [h6]; rfl⟩);simp at this
    unfold unl at hu ⊢; omega
   .rw [h8] at hk ⊢;by_cases e':e.on=i
    .rw [if_pos e']
    .rw [if_neg e'];by_cases e2:k=i
     .subst e2;rw [ho] at a3; cases a3;exact b5 e he hb
     .rw [if_neg e2] at hk;exact hs.closed.edge k o2 e hk a3 he hb
   .rw [iS];by_cases hd:o.dst=some t
    .have hn:t∈iR ops.toArray o:=List.mem_append_left _ (by simp [hd]);have e3:(ops[i]?).bind (·.dst)=some t:=by rw [a0]; exact hd
     have e1:cQ ops (fun i=>listed'.getD i false) t ops.length=cQ ops (fun i=>listed'.getD i false) t (i+1):=
      qF ops _ t (i+1) ops.length (by omega) (fun j h1 h2 b7=>by rw [h8 j,if_neg (by omega)]; exact later j t (by omega) h2 b7 hn)
     have e2:cQ ops (fun i=>listed'.getD i false) t (i+1)=some i:=by simp only [cQ]; rw [if_pos ⟨by rw [h8 i,if_pos rfl],e3⟩]
     rw [e1,e2,hd,xV (P0 (pc.lt i o t a0 hd) h4.size),if_pos rfl];exact e0
    .have e1:cQ ops (fun i=>listed'.getD i false) t ops.length=cQ ops (fun i=>listed.getD i false) t ops.length:=
      nT ops _ _ t ops.length (fun j hj b7=>by
       rw [h8 j,if_neg (fun e=>hd (by subst e; rw [a0] at b7; exact b7))])
     have hv:=(h4.frame.tmp t).step b0;rw [iS] at hv;rw [e1];have e2:(a.put o.dst v).tmps.getD t undef=a.tmps.getD t undef:=by
      cases d5:o.dst with
      | none=>rfl
      | some d=>
       have c4:d < a.tmps.size:=P0 (pc.lt i o d a0 d5) h4.size;rw [xV c4,if_neg (fun e=>hd (by rw [d5,e]))]
     rw [e2]; exact hv
  unfold wpOpIn;rw [ho];have fin:(∃ L',Ls[cnt (fun i=>listed'.getD i false) ws]? = some L'/\cV P N ops.toArray o (dR (o.looksAt ops.toArray) (Zq ops l0 val (fun _=>true) i)) L (val i) L') ->
    if Region.wanted o (yielded ops.toArray a.tmps)=true then Oper.wpIn (FR ro) n P o a w (wpAnyIn (FR ro) n P .any ops.toArray (Q.out N w0 U0 L0) fuel listed') (Q.out N w0 U0 L0) else (∀ f,o.about P w a.eval=some f->(FR ro).fn f)/\wpAnyIn (FR ro) n P .any ops.toArray (Q.out N w0 U0 L0) fuel listed' (a.put o.dst undef) w:=by
   rintro⟨L',c3,hO⟩;have:=hO a w U (wpAnyIn (FR ro) n P .any ops.toArray (Q.out N w0 U0 L0) fuel listed') (Q.out N w0 U0 L0) h4.sat c7 h4.size (fun v w' U' h1 h2 h3=>c8 L' v w' U' c3 h1 h2 h3);split
   .rename_i hw; rw [if_pos hw] at this; exact kI (d8 i o a0) this
   .rename_i hw; rw [if_neg hw] at this; exact⟨fun _ _=>trivial,this⟩
  apply fin;have a5:=pc.step i o (by rcases hT with ⟨hp,_⟩ | ⟨hp,_⟩ <;> omega) a0;have d7:∀ (hw:ws.idxOf? i=none),cnt (fun i=>listed'.getD i false) ws=cnt (fun i=>listed.getD i false) ws:=by
   intro hw;unfold cnt;congr 1;refine List.filter_congr fun x hx=>?_;rw [h8 x,if_neg (fun e=>by subst e; exact absurd (List.idxOf?_eq_none_iff.1 hw) (by simpa using hx))]
  cases a8:ws.idxOf? i with
  | none=>
   rw [a8] at a5;simp only at a5;refine⟨L,by rw [d7 a8]; exact hL,?_⟩
   -- the stage lies between lo and hi
   simp only [List.all_eq_true,List.mem_range] at d2;have b1:=d2 i a7;have e4:ws.contains i=false:=by
    cases hc:ws.contains i with
    | false=>rfl
    | true=>exact absurd (List.idxOf?_eq_none_iff.1 a8) (by simpa using hc)
   rw [e4] at b1;simp only [Bool.false_or,Pp,beq_iff_eq] at b1;obtain⟨e5,e6⟩:=b1;have h1:los.getD i 0<=cnt (fun i=>listed.getD i false) ws:=by
    rw [e5]; unfold J2b cnt;have:ws.filter (fun w=>((jE ops).getD i []).contains w)=(ws.filter fun w=>listed.getD w false).filter (fun w=>((jE ops).getD i []).contains w):=by
     rw [List.filter_filter];refine List.filter_congr fun x _=>?_;cases hc:((jE ops).getD i []).contains x with
     | false=>simp
     | true=>simp [h7 x (anc hc)]
    rw [this]; exact P3 _ _
   have h2:cnt (fun i=>listed.getD i false) ws<=his.getD i 0:=by
    rw [e6]; unfold J2c cnt;have:ws.filter (fun w=>listed.getD w false)=(ws.filter fun w=>!((jE ops).getD w []).contains i).filter (fun w=>listed.getD w false):=by
     rw [List.filter_filter];refine List.filter_congr fun x _=>?_;cases hc:listed.getD x false with
     | false=>simp
     | true=>
      cases e7:((jE ops).getD x []).contains i with
      | false=>simp
      | true=>
       have:listed.getD i false=true:=hs.closed.anc (anc e7) hc;rw [this] at h6; cases h6
    rw [this]; exact P3 _ _
   refine ZQ a5 (i:=cnt (fun i=>listed.getD i false) ws - los.getD i 0) ?_;unfold xL;rw [Pk,if_pos (by omega),Pm];rw [show los.getD i 0+(cnt (fun i=>listed.getD i false) ws - los.getD i 0)=cnt (fun i=>listed.getD i false) ws by omega];exact hL
  | some m=>
   rw [a8] at a5;simp only at a5;obtain⟨L1,L2,e8,e9,hO⟩:=a5;have a9:ws[m]? = some i:=by
    have:=List.idxOf?_eq_some_iff.1 a8;obtain⟨h,e,_⟩:=this;simp [h,e]
   -- the stage is m
   have c5:cnt (fun i=>listed.getD i false) ws=m:=by
    have f4:¬ m < cnt (fun i=>listed.getD i false) ws:=fun h=>by
     have:=(mU (Dn:=fun i=>listed.getD i false) a6 m i a9).2 h;simp only [h6] at this; cases this
    rcases P4 (cnt (fun i=>listed.getD i false) ws) m with h | h
    .exfalso
     -- the one bf i is done
     have f0:m - 1 < ws.length:=by have:=(Pa a9).1; omega
     have d6:ws[m - 1]? = some ws[m - 1]:=by simp [f0]
     have:=yA h9 (m - 1) ws[m - 1] i d6 (by rw [show m - 1+1=m by omega]; exact a9);have d0:=h7 _ (anc this.1);have:=(mU (Dn:=fun i=>listed.getD i false) a6 (m - 1) _ d6).1 d0;omega
    .omega
   have a4:∀ (k:Nat) x y,ws[k]? = some x->ws[k+1]? = some y->listed'.getD y false=true->listed'.getD x false=true:=by
    intro k x y hx hy c6;rw [h8] at c6 ⊢;by_cases e:x=i
    .rw [if_pos e]
    .rw [if_neg e];by_cases e2:y=i
     .subst e2; exact h7 _ (anc (yA h9 k x y hx hy).1)
     .rw [if_neg e2] at c6; exact a6 k x y hx hy c6
   have d1:cnt (fun i=>listed'.getD i false) ws=m+1:=by
    have a1:=(mU (Dn:=fun i=>listed'.getD i false) a4 m i a9).1 (by simp only [h8,if_pos]);rcases P4 (m+1) (cnt (fun i=>listed'.getD i false) ws) with h | h
    .exfalso;have f2:cnt (fun i=>listed'.getD i false) ws<=ws.length:=P3 _ _;have c4:m+1 < ws.length:=by omega
     have hx:ws[m+1]? = some ws[m+1]:=by simp [c4]
     have hd:=(mU (Dn:=fun i=>listed'.getD i false) a4 (m+1) _ hx).2 h;have c0:ws[m+1]≠i:=fun e=>by
      have:=(yA h9 m i ws[m+1] a9 hx).2;omega
     simp only [h8,if_neg c0] at hd;have:=(mU (Dn:=fun i=>listed.getD i false) a6 (m+1) _ hx).1 hd;omega
    .omega
   rw [c5] at hL;rw [e8] at hL; cases hL;exact⟨L2,by rw [d1]; exact e9,hO⟩

theorem Qn.drew {N:Cfg} {w0 w:World} {U0 U:Gx} {L0 L:Loc} {a:Act} {l:Fr} (h:Qn N w0 U0 L0 a w U l L):Qn N w0 U0 L0 a w.drew U l L:=by
 have st:Step w U L w.drew U L:=⟨rfl,rfl,⟨rfl,Nat.le_succ _⟩,Pf,fun _ _ _=>Iff.rfl,fun _ _ h=>⟨⟨h.lt,h.seen,h.kept⟩,rfl⟩,fun _ _ h=>⟨rfl,h⟩,fun _ _ cs h=>⟨rfl,cs,h⟩,fun _ _ es h=>⟨rfl,es,h⟩,fun _ _ n es h=>⟨rfl,n,es,h⟩,fun _ _ _ ver xs h=>⟨ver,xs,h,Pf,fun _=>⟨rfl,rfl,fun _ _=>rfl⟩⟩,fun _ _ _ ver hw h=>⟨ver,hw,h,Pf,fun _=>⟨rfl,rfl,fun _ _=>rfl⟩⟩⟩;exact⟨⟨h.sat.hid,h.sat.bnd,h.sat.apart,h.sat.inj,fun id o ho=>(h.sat.obj id o ho).step st (fun _ _=>rfl)⟩,h.step.trans st,h.frame.step st,h.size,h.base,h.defers.step st⟩

theorem Q1 {id:Nat} {Q:Post} {l:Fr} {L L':Loc} (ws los his:AI) (Ls:List Loc) (hm:P.follows .mixedOrders=true) (chk:nL ops ws los his=true) (h0:Ls[0]? = some L) (h1:Ls[ws.length]? = some L')
  (h:bD P N ops.toArray ws los his Ls 0 ops l (fun l'=>Q.norm l' L')) (h2:ops.all bL=true:=by rfl):JC P N (.region id ops.toArray true) Q l L:=by
 obtain⟨val,pc,hK⟩:=yU ops ws los his Ls l _ ops.length (Pf) (fun j o d hj ho _=>by have:=(Pa ho).1; omega) ops 0 (fun _=>.AL) (fun j _=>by simp) (by simp) (fun j o hj=>by omega) h;intro n w0 U0 L0 a w U hs;refine wpIn_region_any hm ?_;rw [List.size_toArray];refine RT (ro:=N.ro) (n:=n) (fun i o hi=>List.all_eq_true.1 h2 o (Pd hi)) chk pc (.inl ⟨rfl,fun L'' hL''=>by rw [h1] at hL''; cases hL''; exact hK⟩) ops.length (Array.replicate ops.length false) a _ ?_ (by simp only [Array.getD_eq_getD_getElem?,Array.getElem?_replicate]; split <;> rfl) ⟨by simp,⟨fun i o e hi=>?_⟩,U,L,?_,?_⟩
 .exact Nat.le_trans (P3 _ _) (by simp)
 .simp only [Array.getD_eq_getD_getElem?,Array.getElem?_replicate] at hi;split at hi <;> simp at hi
 .have:cnt (fun i=>(Array.replicate ops.length false).getD i false) ws=0:=by
   unfold cnt;have hf:∀ i,(Array.replicate ops.length false).getD i false=false:=fun i=>by
    simp only [Array.getD_eq_getD_getElem?,Array.getElem?_replicate]; split <;> rfl
   simp [hf]
  rw [this]; exact h0
 .have this:Zq ops l val (fun i=>(Array.replicate ops.length false).getD i false) ops.length=l:=by
   have hf:(fun i=>(Array.replicate ops.length false).getD i false)=fun _=>false:=by
    funext i;simp only [Array.getD_eq_getD_getElem?,Array.getElem?_replicate]; split <;> rfl
   rw [hf];have:∀ n,Zq ops l val (fun _=>false) n=l:=by
    intro n
    induction n with
    | zero=>rfl
    | succ n ih=>
     cases hd:(ops[n]?).bind (·.dst) with
     | none=>simp only [Zq,hd]; exact ih
     | some d=>simp only [Zq,hd,Bool.false_eq_true,if_false]; exact ih
   exact this _
  rw [this]; exact hs.drew
end sound

/-! ### Open orders in which nothing turns the local memory: without stages -/
section plain
variable {P:Program} {N:Cfg} {ops:Array Oper} {o:Oper} {r:AM} {l:Fr} {L:Loc} {K:Fr->Prop}
def nA (P:Program) (N:Cfg) (ops:Array Oper) (L:Loc):AM->Fr->(Fr->Prop)->Prop
 | [],l,K=>K l
 | o::r,l,K=>∃ u,cV P N ops o (dR (o.looksAt ops) l) L u L/\(match o.dst with
   | some d=>Nat.blt d N.n=true/\nA P N ops L r ((d,u)::l) K
   | none=>nA P N ops L r l K)
theorem nA.pre {zs:AI} (hz:∀ i,zs.getD i 0=0):∀ {r:AM} {i:Nat} {l:Fr},nA P N ops L r l K->bD P N ops [] zs zs [L] i r l K
 | [],_,_,h=>h
 | o::r,i,l,h=>by
  obtain⟨u,h1,h2⟩:=h;refine⟨u,?_,?_⟩
  .rw [hz i]; exact⟨h1,trivial⟩
  .cases hd:o.dst with
   | some d=>rw [hd] at h2; exact⟨h2.1,h2.2.pre hz⟩
   | none=>rw [hd] at h2; exact nA.pre hz h2
theorem BJ {ops:AM} {id:Nat} {Q:Post} (hm:P.follows .mixedOrders=true) (chk:nL ops [] (List.replicate ops.length 0) (List.replicate ops.length 0)=true) (h:nA P N ops.toArray L ops l (fun l'=>Q.norm l' L)) (h0:ops.all bL=true:=by rfl):JC P N (.region id ops.toArray true) Q l L:=
 Q1 [] _ _ [L] hm chk rfl rfl (h.pre (fun i=>by simp only [List.getD_eq_getElem?_getD,List.getElem?_replicate]; split <;> rfl)) h0
variable {d:Nat}
theorem Dq (v:AV) (h:Gy P o (dR (o.looksAt ops) l) L (Is v L)) (hd:o.dst=some d) (hk:nA P N ops L r ((d,v)::l) K) (hg:o.guard=none:=by rfl) (hn:Nat.blt d N.n=true:=by rfl):nA P N ops L (o::r) l K:=
 ⟨v,Gr h hg,by rw [hd]; exact⟨hn,hk⟩⟩
theorem Do (v:AV) (ts:AI) {want c:Bool} {gv:AV} (hg:grd ops (dR (o.looksAt ops) l) o=some (want,gv)) (h0:rA gv want c) (h5:zV c (dR (o.looksAt ops) l) (RC (dR (o.looksAt ops) l) ts))
  (h:c=true->Gy P o (RC (dR (o.looksAt ops) l) ts++dR (o.looksAt ops) l) L (Is v L)) (hd:o.dst=some d) (hk:nA P N ops L r ((d,.opt c v)::l) K) (h6:Q2a ops N.n o=true:=by rfl) (hn:Nat.blt d N.n=true:=by rfl):nA P N ops L (o::r) l K:=by
 obtain⟨j,dj,h1,h2,h3,h4⟩:=J40 hg h6;exact⟨.opt c v,Gg _ h1 h2 h3 h0 h5 h h4,by rw [hd]; exact⟨hn,hk⟩⟩
theorem Dg (v:AV) (h:cV P N ops o (dR (o.looksAt ops) l) L v L) (hd:o.dst=some d) (hk:nA P N ops L r ((d,v)::l) K) (hn:Nat.blt d N.n=true:=by rfl):nA P N ops L (o::r) l K:=
 ⟨v,h,by rw [hd]; exact⟨hn,hk⟩⟩
theorem BN (h:K l):nA P N ops L [] l K:=h
end plain
end Go.Proofs.YtbgfgnddogfpcaaGreat
