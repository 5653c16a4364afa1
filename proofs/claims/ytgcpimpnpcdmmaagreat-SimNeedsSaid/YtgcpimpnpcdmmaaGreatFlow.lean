/-
 What each operation does to an abstract state: What operations do to an abstract state: Guards,loops,what is forgotten on the way,the beginning and
-/
import Derived.Test.YtgcpimpnpcdmmaaGreatCore
namespace Go.Proofs.YtgcpimpnpcdmmaaGreat
open Go.RowKit

/-! ### Reading off what a value can be -/
section inv
variable {w:World} {β:Gx} {L:Loc}

theorem V.inv_dptr {cs:List AV} {x:Value} (h:V w β L (.dptr cs) x):D w (Jk w β L) (.dptr cs) x:=by
 cases h with | data h=>exact h
theorem V.inv_list {k:Nat} {xs:List AV} {x:Value} (h:V w β L (.list k xs) x):D w (Jk w β L) (.list k xs) x:=by
 cases h with | data h=>exact h
theorem V.inv_ptr {i off:Nat} {x:Value} (h:V w β L (.ptr i off) x):∃ b,β i=some b∧x=.pointer (some ⟨b,off,none⟩):=by
 cases h with
 | data h=>cases h
 | ptr hi h=>exact⟨_,h,rfl⟩
theorem V.inv_mp {i:Nat} {x:Value} (h:V w β L (.mp i) x):∃ b,β i=some b∧x=.map (some b):=by
 cases h with
 | data h=>cases h
 | mp hi h=>exact⟨_,h,rfl⟩
theorem V.inv_agg {cs:List AV} {x:Value} (h:V w β L (.agg cs) x):∃ vs:Array Value,x=.agg vs∧vs.size=cs.length∧∀ (j:Nat) u v,cs[j]? = some u→vs[j]? = some v→V w β L u v:=by
 cases h with
 | data h=>cases h with | agg hl h=>exact⟨_,rfl,hl,fun j u v hu hv=>.data (h j u v hu hv)⟩
 | agg hl h=>exact⟨_,rfl,hl,h⟩
theorem V.inv_tup {cs:List AV} {x:Value} (h:V w β L (.tup cs) x):∃ vs:Array Value,x=.tuple vs∧vs.size=cs.length∧∀ (j:Nat) u v,cs[j]? = some u→vs[j]? = some v→V w β L u v:=by
 cases h with
 | data h=>cases h with | tup hl h=>exact⟨_,rfl,hl,fun j u v hu hv=>.data (h j u v hu hv)⟩
 | tup hl h=>exact⟨_,rfl,hl,h⟩
theorem V.inv_fn {f:FuncId} {cs:List AV} {x:Value} (h:V w β L (.fn f cs) x):∃ vs:Array Value,x=.func (.func f) #[] vs∧vs.size=cs.length∧∀ (j:Nat) u v,cs[j]? = some u→vs[j]? = some v→V w β L u v:=by
 cases h with
 | data h=>cases h with | fn hl h=>exact⟨_,rfl,hl,fun j u v hu hv=>.data (h j u v hu hv)⟩
 | fn hl h=>exact⟨_,rfl,hl,h⟩
theorem V.inv_opt {x:AV} {v:Value} (h:V w β L (.opt true x) v):V w β L x v:=by
 cases h with
 | data h=>cases h with | opt h=>exact .data (h rfl)
 | opt h=>exact h rfl
theorem V.inv_opt0 {x:AV} {v:Value} (h:V w β L (.opt false x) v):v=undef:=by
 cases h with
 | data h=>cases h with | opt _ h=>exact h rfl
 | opt _ h=>exact h rfl

theorem V.cell {u:AV} {v:Value} (h:V w β L u v) (hc:u.isCell=true):v.oneCell'=true:=by
 cases h with
 | data h=>cases h <;> first | rfl | (simp [AV.isCell] at hc; done) | exact hc
 | own hd _=>cases hd <;> rfl
 | vec _ hv=>exact hv
 | vptr _ hv=>exact hv
 | vsl _ hv=>exact hv
 | vcap _ hv=>exact hv
 | nst _ _ _ _ _ _ hv=>exact hv
 | nptr _ _ _ _ _ _ hv=>exact hv
 | _=>first | rfl | (simp [AV.isCell] at hc; done)

def AV.flatOk (u:AV):Bool:=u.cells.all AV.isCell

theorem V.cells {u:AV} {v:Value} (h:V w β L u v) (hc:u.flatOk=true) :
  v.cells.size=u.cells.length∧(∀ (j:Nat) a b,u.cells[j]? = some a→v.cells[j]? = some b→V w β L a b)∧∀ b∈v.cells.toList,b.oneCell'=true:=by
 have one:∀ (u:AV) (v:Value),V w β L u v→u.isCell=true→u.cells=[u] →
   v.cells.size=u.cells.length∧(∀ (j:Nat) a b,u.cells[j]? = some a→v.cells[j]? = some b→V w β L a b)∧∀ b∈v.cells.toList,b.oneCell'=true:=by
  intro u v hv hu he
  have h1:=hv.cell hu
  have h2:v.cells=#[v]:=by cases v <;> first | rfl | simp [Value.oneCell'] at h1
  rw [h2,he]
  refine⟨rfl,fun j a b ha hb=>?_,fun b hb=>by simp at hb; subst hb; exact h1⟩
  cases j with
  | zero=>simp at ha hb; subst ha; subst hb; exact hv
  | succ j=>simp at ha
 by_cases h0:∃ cs,u=.agg cs
 ·obtain⟨cs,rfl⟩:=h0
  obtain⟨vs,rfl,hl,hh⟩:=h.inv_agg
  refine⟨hl,hh,fun b hb=>?_⟩
  obtain⟨j,hj,e⟩:=List.mem_iff_getElem.1 hb
  have h4:j < vs.size:=by simpa [Value.cells] using hj
  have h3:j < cs.length:=by omega
  have hv:=hh j cs[j] vs[j] (by simp [h3]) (by simp [h4])
  have h5:cs[j].isCell=true:=by
   simp only [AV.flatOk,AV.cells,List.all_eq_true] at hc
   exact hc _ (List.getElem_mem h3)
  have:=hv.cell h5
  simp only [Value.cells,Array.getElem_toList] at e
  rw [← e]; exact this
 ·have he:u.cells=[u]:=by cases u <;> first | rfl | exact absurd ⟨_,rfl⟩ h0
  refine one u v h ?_ he
  simpa [AV.flatOk,he] using hc
end inv

/-! ### Facts on types, asked of the program by the kernel -/
def Jw (P:Program) (T f off:Nat):Bool:=
 match P.underlying T with
 | some (.struct fs)=>match fs[f]? with
  | some fld=>fld.offset==off&&(match P.info? fld.type with | some i=>i.size != 0 | none=>false)
  | none=>false
 | _=>false
def Rb (P:Program) (T:Nat):Bool:=
 match P.underlying T with
 | some (.struct _) | some (.array _ _) | none=>false
 | _=>true
def H3e (P:Program) (T k:Nat):Bool:=
 (match P.underlying T with
 | some (.struct _) | some (.array _ _)=>true
 | _=>false)&&(match P.info? T with | some i=>i.size==k | none=>false)
def Yg (P:Program) (T k:Nat):Bool:=match P.info? T with | some i=>i.size==k | none=>false
def J94 (P:Program) (T:Nat) (k:IntKind):Bool:=match P.underlying T with | some (.int k')=>decide (k'=k) | _=>false
def sliceB (P:Program) (T E k:Nat):Bool:=(match P.underlying T with | some (.slice e)=>e==E | _=>false)&&Yg P E k
def R1 (P:Program) (T k:Nat):Bool:=match P.info? T with | some i=>(match i.zero with | some z=>z.cells.size==k | none=>false) | none=>false
def Yy (P:Program) (E k by_:Nat):Bool:=match P.info? E with | some i=>i.size==k&&i.bytes==by_&&(match i.zero with | some z=>z.cells.size==k | none=>false)&&decide (0 < k) | none=>false
def H1 (P : Program) (f : FuncId) : Bool := match P.funcs[f]? with | some fn => !(fn.name == "runtime.NumGoroutine") && fn.body.isSome | none => false
def Q6f (P:Program) (T:Nat):Bool:=match P.underlying T with | some .bool=>true | _=>false
def Yb8 (P:Program) (T:Nat):Bool:=match P.underlying T with | some .string=>true | _=>false

section facts
variable {P:Program}
theorem Yg.out {T k:Nat} (h:Yg P T k=true):∃ i,P.info? T=some i∧i.size=k:=by
 unfold Yg at h; split at h
 ·exact⟨_,‹_›,by simpa using h⟩
 ·cases h
theorem Q9 {T k:Nat} (h:Yg P T k=true) (w:World):(sizeOf T).run P w=.ok k w:=by
 obtain⟨i,hi,rfl⟩:=Yg.out h
 simp [sizeOf,typeInfo,hi]
theorem H3e.size {T k:Nat} (h:H3e P T k=true):Yg P T k=true:=by
 simp only [H3e,Mk] at h
 exact h.2
theorem J55 {T k:Nat} (h:H3e P T k=true) (w:World):(isAgg T).run P w=.ok true w:=by
 simp only [H3e,Mk] at h
 have h1:=h.1
 split at h1
 ·simp [isAgg,underlying,‹P.underlying T=_›]
 ·simp [isAgg,underlying,‹P.underlying T=_›]
 ·cases h1
theorem H6a {T:Nat} (h:Rb P T=true) (w:World):(isAgg T).run P w=.ok false w:=by
 unfold Rb at h
 split at h
 ·cases h
 ·cases h
 ·cases h
 ·rename_i h1 h2 h3
  cases hu:P.underlying T with
  | none=>exact absurd hu h3
  | some d=>cases d <;> first | (simp [isAgg,underlying,hu]; done) | exact absurd hu (h1 _) | exact absurd hu (h2 _ _)
theorem J94.out {T:Nat} {k:IntKind} (h:J94 P T k=true):P.underlying T=some (.int k):=by
 unfold J94 at h; split at h
 ·rename_i k' hk; have:=M2 h; subst this; exact hk
 ·cases h
theorem Q6f.out {T:Nat} (h:Q6f P T=true):P.underlying T=some .bool:=by
 unfold Q6f at h; split at h
 ·assumption
 ·cases h
theorem sliceB.out {T E k:Nat} (h:sliceB P T E k=true):P.underlying T=some (.slice E)∧Yg P E k=true:=by
 simp only [sliceB,Mk] at h
 refine⟨?_,h.2⟩
 have:=h.1
 split at this
 ·rename_i e he; simp at this; subst this; exact he
 ·cases this
theorem Yy.out {E k b:Nat} (h:Yy P E k b=true):∃ i z,P.info? E=some i∧i.size=k∧i.bytes=b∧i.zero=some z∧z.cells.size=k∧0 < k:=by
 unfold Yy at h
 split at h
 ·rename_i i hi
  simp only [Mk,beq_iff_eq,Mm] at h
  obtain⟨⟨⟨h1,h2⟩,h3⟩,h4⟩:=h
  split at h3
  ·rename_i z hz; exact⟨i,z,hi,h1,h2,hz,by simpa using h3,h4⟩
  ·cases h3
 ·cases h
theorem Jw.out {T f off:Nat} (h:Jw P T f off=true):∃ fs fld i,P.underlying T=some (.struct fs)∧fs[f]? = some fld∧fld.offset=off∧P.info? fld.type=some i∧i.size≠0:=by
 unfold Jw at h
 split at h
 ·rename_i fs h3
  split at h
  ·rename_i fld h0
   simp only [Mk,beq_iff_eq] at h
   obtain⟨h1,h2⟩:=h
   split at h2
   ·rename_i i hi; exact⟨fs,fld,i,h3,h0,h1,hi,by simpa using h2⟩
   ·cases h2
  ·cases h
 ·cases h
theorem J56 {T f off b o:Nat} (h:Jw P T f off=true) (w:World):(Instr.fieldAt T (.pointer (some ⟨b,o,none⟩)) f).run P w=.ok (.pointer (some ⟨b,o+off,none⟩)) w:=by
 obtain⟨fs,fld,i,h1,h2,rfl,h3,h4⟩:=Jw.out h
 simp [Instr.fieldAt,underlying,h1,h2,Instr.sureAddr,fieldPlace,sizeOf,typeInfo,h3,h4,Addr.add_lit]
end facts

/-! ### Operations that leave the world alone -/
section pure_
variable {P:Program} {o:Oper} {l:Fr} {L:Loc} {u:AV}

theorem Hh (h:∀ (a:Act) (w:World) (β:Gx),Sat w β L→Q8 a w β L l→∃ v,(execOp a.eval o).run P w=.ok (.value v) w∧V w β L u v):Gy P o l L (Is u L):=by
 intro a w β K Q h0 hf hK
 obtain⟨v,hr,hv⟩:=h a w β h0 hf
 unfold Oper.wp
 rw [hr]
 exact hK u L v w β ⟨rfl,rfl⟩ h0 (Step.refl _ _ _) hv

theorem G5 {x:Operand} (ho:o.op=.move x:=by rfl) (hx:ev l x=u:=by rfl):Gy P o l L (Is u L):=
 Hh fun a w β _ hf=>⟨a.eval x,by simp [execOp,ho],hx ▸ hf.ev x⟩
theorem G7 {x:Operand} (ho:o.op=.assign x:=by rfl) (hx:ev l x=u:=by rfl):Gy P o l L (Is u L):=
 Hh fun a w β _ hf=>⟨a.eval x,by simp [execOp,ho],hx ▸ hf.ev x⟩
theorem Jd {x:Operand} (k:Nat) (ho:o.op=.assign x:=by rfl) (hx:ev l x=.sc (.slice none 0 0):=by rfl):Gy P o l L (Is (.list k []) L):=
 Hh fun a w β _ hf=>⟨a.eval x,by simp [execOp,ho],by
  have h:=hf.ev x
  rw [hx] at h
  rw [h.inv_sc]
  exact .data (.nil (Nat.zero_le _))⟩
theorem G82 {c x y:Operand} {b d:Bool} (ho:o.op=.pick c x y:=by rfl) (hc:ev l c=.sc (.bool b):=by rfl) (hx:ev l x=.sc (.bool true):=by rfl) (hy:ev l y=.opt (!b) (.sc (.bool d)):=by rfl) :
  Gy P o l L (Is (.sc (.bool (b||d))) L):=
 Hh fun a w β _ hf=>by
  have h:=hf.ev c
  have h1:=hf.ev x
  have h2:=hf.ev y
  rw [hc] at h
  rw [hx] at h1
  rw [hy] at h2
  have hb:=h.inv_sc
  have h0:=h1.inv_sc
  cases b
  ·have h3:=(V.inv_opt h2).inv_sc
   exact⟨.bool d,by simp [execOp,ho,hb,asBool,h3],.sc⟩
  ·exact⟨.bool true,by simp [execOp,ho,hb,asBool,h0],.sc⟩
theorem Ri {c x y:Operand} {b d:Bool} (ho:o.op=.pick c x y:=by rfl) (hc:ev l c=.sc (.bool b):=by rfl) (hx:ev l x=.opt b (.sc (.bool d)):=by rfl) (hy:ev l y=.sc (.bool false):=by rfl) :
  Gy P o l L (Is (.sc (.bool (b&&d))) L):=
 Hh fun a w β _ hf=>by
  have h:=hf.ev c
  have h1:=hf.ev x
  have h2:=hf.ev y
  rw [hc] at h
  rw [hx] at h1
  rw [hy] at h2
  have hb:=h.inv_sc
  have h0:=h2.inv_sc
  cases b
  ·exact⟨.bool false,by simp [execOp,ho,hb,asBool,h0],.sc⟩
  ·have h3:=(V.inv_opt h1).inv_sc
   exact⟨.bool d,by simp [execOp,ho,hb,asBool,h3],.sc⟩

/-! arithmetic -/
theorem Hb6 {x y:Operand} {T T':TypeId} {op:BinOp} {p q r:Value} (hr:∀ (P:Program) (w:World),(do eqGuard op T x y p q; binOp op T p q).run P w=.ok r w) (hx:ev l x=.sc p) (hy:ev l y=.sc q) (ho:o.op=.binOp op T x y T'):Gy P o l L (Is (.sc r) L):=
 Hh fun a w β _ hf=>by
  have h1:=hf.ev x
  have h2:=hf.ev y
  rw [hx] at h1
  rw [hy] at h2
  refine⟨r,?_,.sc⟩
  have:=hr P w
  simp only [execOp,ho,h1.inv_sc,h2.inv_sc]
  rw [Sem.run_bind,this]
  rfl

section arith
variable {x y:Operand} {T T':TypeId} {k:IntKind} {m n:Int}
theorem J3 {z:Int} (hz:k.wrap (m+n)=z) (ho:o.op=.binOp .add T x y T':=by rfl) (hx:ev l x=.sc (.int k m):=by rfl) (hy:ev l y=.sc (.int k n):=by rfl):Gy P o l L (Is (.sc (.int k z)) L):=
 Hb6 (fun P w=>by subst hz; simp [eqGuard,binOp,Op.intArith]) hx hy ho
theorem G62 {z:Int} (hz:k.wrap (m - n)=z) (ho:o.op=.binOp .sub T x y T':=by rfl) (hx:ev l x=.sc (.int k m):=by rfl) (hy:ev l y=.sc (.int k n):=by rfl):Gy P o l L (Is (.sc (.int k z)) L):=
 Hb6 (fun P w=>by subst hz; simp [eqGuard,binOp,Op.intArith]) hx hy ho
theorem Jab {z:Int} (hz:k.wrap (m*n)=z) (ho:o.op=.binOp .mul T x y T':=by rfl) (hx:ev l x=.sc (.int k m):=by rfl) (hy:ev l y=.sc (.int k n):=by rfl):Gy P o l L (Is (.sc (.int k z)) L):=
 Hb6 (fun P w=>by subst hz; simp [eqGuard,binOp,Op.intArith]) hx hy ho
theorem J74 {z:Int} (h0:n≠0) (hz:m.tmod n=z) (ho:o.op=.binOp .rem T x y T':=by rfl) (hx:ev l x=.sc (.int k m):=by rfl) (hy:ev l y=.sc (.int k n):=by rfl):Gy P o l L (Is (.sc (.int k z)) L):=
 Hb6 (fun P w=>by subst hz; simp [eqGuard,binOp,Op.intDiv,h0]) hx hy ho
theorem Jn (ho:o.op=.binOp .lss T x y T':=by rfl) (hx:ev l x=.sc (.int k m):=by rfl) (hy:ev l y=.sc (.int k n):=by rfl):Gy P o l L (Is (.sc (.bool (decide (m < n)))) L):=
 Hb6 (fun P w=>by simp [eqGuard,binOp,Op.intCmp]) hx hy ho
theorem Hd6 (ho:o.op=.binOp .leq T x y T':=by rfl) (hx:ev l x=.sc (.int k m):=by rfl) (hy:ev l y=.sc (.int k n):=by rfl):Gy P o l L (Is (.sc (.bool (decide (m≤n)))) L):=
 Hb6 (fun P w=>by simp [eqGuard,binOp,Op.intCmp]) hx hy ho
theorem Gd1 (ho:o.op=.binOp .gtr T x y T':=by rfl) (hx:ev l x=.sc (.int k m):=by rfl) (hy:ev l y=.sc (.int k n):=by rfl):Gy P o l L (Is (.sc (.bool (decide (n < m)))) L):=
 Hb6 (fun P w=>by simp [eqGuard,binOp,Op.intCmp]) hx hy ho
theorem H2c (ho:o.op=.binOp .geq T x y T':=by rfl) (hx:ev l x=.sc (.int k m):=by rfl) (hy:ev l y=.sc (.int k n):=by rfl):Gy P o l L (Is (.sc (.bool (decide (n≤m)))) L):=
 Hb6 (fun P w=>by simp [eqGuard,binOp,Op.intCmp]) hx hy ho
theorem Qg (ho:o.op=.binOp .eql T x y T':=by rfl) (hx:ev l x=.sc (.int k m):=by rfl) (hy:ev l y=.sc (.int k n):=by rfl):Gy P o l L (Is (.sc (.bool (decide (m=n)))) L):=
 Hb6 (fun P w=>by simp [eqGuard,binOp,Op.intCmp]; by_cases e:m=n <;> simp [e]) hx hy ho
theorem G8e (ho:o.op=.binOp .neq T x y T':=by rfl) (hx:ev l x=.sc (.int k m):=by rfl) (hy:ev l y=.sc (.int k n):=by rfl):Gy P o l L (Is (.sc (.bool (decide (m≠n)))) L):=
 Hb6 (fun P w=>by simp [eqGuard,binOp,Op.intCmp]; by_cases e:m=n <;> simp [e]) hx hy ho
theorem Yc {b:Bool} (ho:o.op=.unOp .not T x:=by rfl) (hx:ev l x=.sc (.bool b):=by rfl):Gy P o l L (Is (.sc (.bool (!b))) L):=
 Hh fun a w β _ hf=>by
  have h1:=hf.ev x
  rw [hx] at h1
  exact⟨.bool (!b),by simp [execOp,ho,h1.inv_sc,Op.unary],.sc⟩
theorem G9c {k':IntKind} {z:Int} (hT:J94 P T' k'=true) (hS:J94 P T k=true) (hz:k'.wrap m=z) (ho:o.op=.convert T T' x:=by rfl) (hx:ev l x=.sc (.int k m):=by rfl):Gy P o l L (Is (.sc (.int k' z)) L):=
 Hh fun a w β _ hf=>by
  have h1:=hf.ev x
  rw [hx] at h1
  exact⟨.int k' z,by subst hz; simp [execOp,ho,h1.inv_sc,convert,underlying,J94.out hT,J94.out hS,Conv.intToInt],.sc⟩
end arith

/-! addresses and loads -/
theorem Z79 {x:Operand} {T f off:Nat} {cs:List AV} (hT:Jw P T f off=true) (ho:o.op=.fieldAddr T x f:=by rfl) (hx:ev l x=.dptr cs:=by rfl):Gy P o l L (Is (.dptr (cs.drop off)) L):=
 Hh fun a w β _ hf=>by
  have h1:=hf.ev x
  rw [hx] at h1
  have h2:=h1.inv_dptr
  obtain⟨ax,h0⟩:∃ ax,a.eval x=ax:=⟨_,rfl⟩
  rw [h0] at h2
  cases h2 with
  | dptr vals hS h=>
   rename_i b o'
   refine⟨.pointer (some ⟨b,o'+off,none⟩),by simp [execOp,ho,h0,J56 hT],.data (.dptr (fun j=>vals (off+j)) (fun j hj=>?_) (fun j u hu=>?_))⟩
   ·simp only [List.length_drop] at hj
    have:=hS (off+j) (by omega)
    rw [Nat.add_assoc]; exact this
   ·rw [Mh] at hu
    exact h _ _ hu
theorem J9 {x:Operand} {T f off i o':Nat} (hT:Jw P T f off=true) (ho:o.op=.fieldAddr T x f:=by rfl) (hx:ev l x=.ptr i o':=by rfl):Gy P o l L (Is (.ptr i (o'+off)) L):=
 Hh fun a w β _ hf=>by
  have h1:=hf.ev x
  rw [hx] at h1
  obtain⟨ax,h0⟩:∃ ax,a.eval x=ax:=⟨_,rfl⟩
  rw [h0] at h1
  cases h1 with
  | data h=>cases h
  | ptr hi h=>exact⟨_,by simp only [execOp,ho,h0,Sem.run_bind,J56 hT]; rfl,.ptr hi h⟩

theorem Gd7 {T b o':Nat} {v:Value} (hT:Rb P T=true) {w:World} (h:w.cell? ⟨b,o',none⟩=some v):(Instr.loadAt T (.pointer (some ⟨b,o',none⟩))).run P w=.ok v w:=by
 simp [Instr.loadAt,Instr.sureAddr,loadVar,H6a hT,h]

theorem H10 {T k b o':Nat} {vs:List Value} (hT:H3e P T k=true) (hl:vs.length=k) {w:World} (h:∀ (j:Nat) v,vs[j]? = some v→w.cell? ⟨b,o'+j,none⟩=some v) :
  (Instr.loadAt T (.pointer (some ⟨b,o',none⟩))).run P w=.ok (.agg vs.toArray) w:=by
 subst hl
 have:=run_loadCells_list (P:=P) w ⟨b,o',none⟩ vs (fun j v hv=>by rw [Addr.add_lit]; exact h j v hv)
 simp [Instr.loadAt,Instr.sureAddr,loadVar,J55 hT,Q9 (H3e.size hT),this]

theorem Gg {x:Operand} {T:Nat} {cs:List AV} (hT:Rb P T=true) (ho:o.op=.load T x:=by rfl) (hx:ev l x=.dptr cs:=by rfl) (h0:cs[0]? = some u:=by rfl):Gy P o l L (Is u L):=
 Hh fun a w β _ hf=>by
  have h1:=hf.ev x
  rw [hx] at h1
  have h2:=h1.inv_dptr
  obtain⟨ax,h3⟩:∃ ax,a.eval x=ax:=⟨_,rfl⟩
  rw [h3] at h2
  cases h2 with
  | dptr vals hS h=>
   have h4:0 < cs.length:=by
    cases cs with
    | nil=>simp at h0
    | cons=>simp
   have hc:=(hS 0 h4).2
   simp only [Nat.add_zero] at hc
   exact⟨vals 0,by simp [execOp,ho,h3,Gd7 hT hc],.data (h 0 u h0)⟩
def takeN:Nat→List AV→Option (List AV)
 | 0,_=>some []
 | _+1,[]=>none
 | n+1,c::r=>match takeN n r with
  | some s=>some (c::s)
  | none=>none
theorem Jda:∀ {k:Nat} {cs ds:List AV},takeN k cs=some ds→ds=cs.take k∧k≤cs.length
 | 0,cs,ds,h=>by simp [takeN] at h; subst h; simp
 | k+1,[],ds,h=>by simp [takeN] at h
 | k+1,c::r,ds,h=>by
  simp only [takeN] at h
  cases hr:takeN k r with
  | none=>rw [hr] at h; cases h
  | some s=>
   rw [hr] at h
   simp at h; subst h
   obtain⟨h1,h2⟩:=Jda hr
   subst h1
   exact⟨rfl,by simpa using h2⟩

theorem Gm {x:Operand} {T k:Nat} {cs ds:List AV} (hT:H3e P T k=true) (ho:o.op=.load T x:=by rfl) (hx:ev l x=.dptr cs:=by rfl) (h3:takeN k cs=some ds:=by rfl):Gy P o l L (Is (.agg ds) L):=
 Hh fun a w β _ hf=>by
  have h1:=hf.ev x
  rw [hx] at h1
  have h2:=h1.inv_dptr
  obtain⟨rfl,h4⟩:=Jda h3
  obtain⟨ax,h0⟩:∃ ax,a.eval x=ax:=⟨_,rfl⟩
  rw [h0] at h2
  cases h2 with
  | dptr vals hS h=>
   rename_i b o'
   refine⟨.agg ((List.range k).map vals).toArray,?_,.data (.agg (by simp; omega) (fun j u v hu hv=>?_))⟩
   ·have:=H10 (P:=P) (b:=b) (o':=o') (vs:=(List.range k).map vals) hT (by simp) (w:=w) (fun j v hv=>by
     have hj:j < k:=by
      rcases Kz j k with h | h
      ·exact h
      ·simp [List.getElem?_eq_none (show ((List.range k).map vals).length≤j by simpa using h)] at hv
     simp [hj] at hv
     rw [← hv]
     exact(hS j (by omega)).2)
    simp [execOp,ho,h0,this]
   ·have hj:j < k:=by
     rcases Kz j k with h | h
     ·exact h
     ·simp [Mg,Nat.not_lt.2 h] at hu
    simp [hj] at hv
    rw [Mg,if_pos hj] at hu
    rw [← hv]
    exact h j u hu

theorem J65 {w:World} {β:Gx} {i b:Nat} {t:TypeId} {cs:List AV} (h1:Sat w β L) (hi:lk L i=some (.box t cs)) (hb:β i=some b) :
  ∃ vs:Array Value,w.heap[b]? = some (.cells vs t (0,0))∧vs.size=cs.length∧∀ (j:Nat) u v,cs[j]? = some u→vs[j]? = some v→V w β L u v:=by
 obtain⟨b',h0,h⟩:=h1.obj i _ hi
 rw [hb] at h0; cases h0
 exact h

theorem J2 {x:Operand} {T i off:Nat} {t:TypeId} {cs:List AV} (hT:Rb P T=true) (ho:o.op=.load T x:=by rfl) (hx:ev l x=.ptr i off:=by rfl) (hi:lk L i=some (.box t cs):=by rfl) (h0:cs[off]? = some u:=by rfl):Gy P o l L (Is u L):=
 Hh fun a w β h3 hf=>by
  have h1:=hf.ev x
  rw [hx] at h1
  obtain⟨b,hb,h4⟩:=h1.inv_ptr
  obtain⟨vs,h5,h6,h7⟩:=J65 h3 hi hb
  have h2:off < vs.size:=by
   rw [h6]
   rcases Kz off cs.length with h | h
   ·exact h
   ·simp [List.getElem?_eq_none h] at h0
  have hc:w.cell? ⟨b,off,none⟩=some vs[off]:=by rw [cell_of_row w b off vs t (0,0) h5]; simp [h2]
  exact⟨vs[off],by simp [execOp,ho,h4,Gd7 hT hc],h7 off u _ h0 (by simp [h2])⟩
theorem J31 {x:Operand} {T k i off:Nat} {t:TypeId} {cs ds:List AV} (hT:H3e P T k=true) (ho:o.op=.load T x:=by rfl) (hx:ev l x=.ptr i off:=by rfl) (hi:lk L i=some (.box t cs):=by rfl) (h3:takeN k (cs.drop off)=some ds:=by rfl) :
  Gy P o l L (Is (.agg ds) L):=
 Hh fun a w β h2 hf=>by
  have h1:=hf.ev x
  rw [hx] at h1
  obtain⟨rfl,h0⟩:=Jda h3
  obtain⟨b,hb,h4⟩:=h1.inv_ptr
  obtain⟨vs,h5,h7,h6⟩:=J65 h2 hi hb
  refine⟨.agg ((vs.toList.drop off).take k).toArray,?_,.agg (by simp at h0 ⊢; omega) (fun j u v hu hv=>?_)⟩
  ·have:=H10 (P:=P) (b:=b) (o':=off) (vs:=(vs.toList.drop off).take k) hT (by simp at h0 ⊢; omega) (w:=w) (fun j v hv=>by
    rw [cell_of_row w b (off+j) vs t (0,0) h5]
    have hj:j < k:=by
     rcases Kz j k with h | h
     ·exact h
     ·simp [Mg,Nat.not_lt.2 h] at hv
    rw [Mg,if_pos hj,Mh] at hv
    simpa using hv)
   simp [execOp,ho,h4,this]
  ·have hj:j < k:=by
    rcases Kz j k with h | h
    ·exact h
    ·simp [Mg,Nat.not_lt.2 h] at hu
   rw [Mg,if_pos hj,Mh] at hu
   refine h6 (off+j) u v hu ?_
   simpa [Mg,hj,Mh] using hv
end pure_

def upP (β:Gx) (i:Nat) (ob:Option Nat):Gx:={ β with at_:=fun j=>if j=i then ob else β j }

section small
variable {w w':World} {β β':Gx} {L L':Loc}

theorem Ga1.stepW {ob:Option Nat} {o:J5} (h:Ga1 w β L ob o) (hs:Hf7 w β L w' β' L') (hb:∀ b,ob=some b→w'.heap[b]? = w.heap[b]?):Ga1 w' β' L' ob o:=by
 cases o with
 | box t cs=>
  obtain⟨b,rfl,vs,h1,h2,h3⟩:=h
  exact⟨b,rfl,vs,(hb b rfl).trans h1,h2,fun j u v hu hv=>(h3 j u v hu hv).stepW hs⟩
 | spare t k ver hw=>
  rcases h with h | ⟨b,rfl,vs,h1,h2⟩
  ·exact .inl h
  ·exact .inr ⟨b,rfl,vs,(hb b rfl).trans h1,h2⟩
 | vec t k ver xs=>
  obtain⟨h0,h⟩:=h
  refine⟨h0,?_⟩
  rcases h with h | ⟨b,rfl,vs,h1,h2,h3⟩
  ·exact .inl h
  ·exact .inr ⟨b,rfl,vs,(hb b rfl).trans h1,h2,fun j u v hu hv=>(h3 j u v hu hv).mono hs.stab⟩
 | map t es=>
  obtain⟨b,rfl,h⟩:=h
  exact⟨b,rfl,h.mono (hb b rfl) fun h=>h.mono hs.stab⟩
 | iter m n seen=>
  obtain⟨b,rfl,bm,hl,h1⟩:=h
  exact⟨b,rfl,bm,hl.stepW hs,(hb b rfl).trans h1⟩
theorem Ga1.step {ob:Option Nat} {o:J5} (h:Ga1 w β L ob o) (hs:Step w β L w' β' L') (hb:∀ b,ob=some b→w'.heap[b]? = w.heap[b]?):Ga1 w' β' L' ob o:=h.stepW hs.weak hb

theorem Gh (i j:Nat) (o:J5) (L:Loc):lk ((i,o)::L) j=if i=j then some o else lk L j:=by
 by_cases e:i=j
 ·subst e; simp [lk]
 ·have:Nat.beq i j=false:=by
   cases hb:Nat.beq i j with
   | false=>rfl
   | true=>exact absurd (Kx hb) e
  simp [lk,this,e]

theorem Q5 (w:World) (o:Obj) {b:Nat} (h:b < w.heap.size):(w.alloc o).heap[b]? = w.heap[b]? := by
 show (w.heap.push o)[b]? = _
 rw [Array.getElem?_push,if_neg (by omega)]

theorem G23 {w w':World} {b:Nat} (h:w'.heap[b]? = w.heap[b]?):w'.shape? b=w.shape? b:=by
 unfold World.shape?; rw [h]

theorem Step.alloc {i:Nat} {lo:J5} (hi:lk L i=none) (h0:∀ id b,(lk L id).isSome=true→β id=some b→b < w.heap.size) (o:Obj) :
  Step w β L (w.alloc o) (upP β i (some w.heap.size)) ((i,lo)::L) where
 os:=rfl
 tape:=rfl
 output:=⟨rfl,Mb⟩
 size:=by simp
 hid:=fun _ _ _=>Iff.rfl
 stab:=fun b j hs=>by
  refine⟨⟨by have:=hs.1; simp; omega,hs.seen,fun id ob hid hb=>?_⟩,?_⟩
  ·rw [Gh] at hid
   by_cases e:i=id
   ·subst e; simp [upP] at hb; have:=hs.1; omega
   ·rw [if_neg e] at hid
    simp only [upP,if_neg (Ne.symm e)] at hb
    exact hs.kept id ob hid hb
  ·exact Q1 (w:=w) (Q5 w o hs.1)
 far:=fun b hb hf=>by
  refine⟨Q5 w o hb,fun id hid e=>?_⟩
  rw [Gh] at hid
  by_cases e':i=id
  ·subst e'; simp [upP] at e; omega
  ·rw [if_neg e'] at hid
   simp only [upP,if_neg (Ne.symm e')] at e
   exact hf id hid e
 box:=fun id t cs hid=>by
  have e:i≠id:=fun e=>by subst e; rw [hi] at hid; cases hid
  exact⟨by simp [upP,Ne.symm e],cs,by rw [Gh,if_neg e]; exact hid⟩
 map:=fun id t cs hid=>by
  have e:i≠id:=fun e=>by subst e; rw [hi] at hid; cases hid
  exact⟨by simp [upP,Ne.symm e],cs,by rw [Gh,if_neg e]; exact hid⟩
 iter:=fun id t n cs hid=>by
  have e:i≠id:=fun e=>by subst e; rw [hi] at hid; cases hid
  exact⟨by simp [upP,Ne.symm e],n,cs,by rw [Gh,if_neg e]; exact hid⟩
 vec:=fun id t k ver xs hid=>by
  have e:i≠id:=fun e=>by subst e; rw [hi] at hid; cases hid
  refine⟨ver,xs,by rw [Gh,if_neg e]; exact hid,Mb,fun _=>⟨rfl,by simp [upP,Ne.symm e],fun b hb=>G23 (Q5 w o (h0 id b (by rw [hid]; rfl) hb))⟩⟩
 spare:=fun id t k ver hw hid=>by
  have e:i≠id:=fun e=>by subst e; rw [hi] at hid; cases hid
  refine⟨ver,hw,by rw [Gh,if_neg e]; exact hid,Mb,fun _=>⟨rfl,by simp [upP,Ne.symm e],fun b hb=>Q5 w o (h0 id b (by rw [hid]; rfl) hb)⟩⟩

theorem Sat.alloc {i:Nat} {lo:J5} (h5:Sat w β L) (hi:lk L i=none) (o:Obj)
  (ho:∀ (_:Step w β L (w.alloc o) (upP β i (some w.heap.size)) ((i,lo)::L)),Ga1 (w.alloc o) (upP β i (some w.heap.size)) ((i,lo)::L) (some w.heap.size) lo) :
  Sat (w.alloc o) (upP β i (some w.heap.size)) ((i,lo)::L):=by
 have hs:=Step.alloc (lo:=lo) hi h5.bnd o
 refine⟨fun b i h=>by have:=h5.hid b i h; simp; omega,fun id b hid hb=>?_,fun id b j hid hb h=>?_,fun id id' b h1 h2 h3 h4=>?_,fun id ob hid=>?_⟩
 ·rw [Gh] at hid
  by_cases e:i=id
  ·subst e; simp [upP] at hb; simp; omega
  ·rw [if_neg e] at hid
   simp only [upP,if_neg (Ne.symm e)] at hb
   have:=h5.bnd id b hid hb
   simp; omega
 ·rw [Gh] at hid
  by_cases e:i=id
  ·subst e; simp [upP] at hb; have:=h5.hid b j h; omega
  ·rw [if_neg e] at hid
   simp only [upP,if_neg (Ne.symm e)] at hb
   exact h5.apart id b j hid hb h
 ·rw [Gh] at h1 h2
  by_cases e:i=id
  ·by_cases e':i=id'
   ·rw [← e,e']
   ·rw [if_neg e'] at h2
    subst e
    simp only [upP,if_neg (Ne.symm e')] at h4
    simp [upP] at h3
    have:=h5.bnd id' b h2 h4
    omega
  ·rw [if_neg e] at h1
   simp only [upP,if_neg (Ne.symm e)] at h3
   by_cases e':i=id'
   ·subst e'
    simp [upP] at h4
    have:=h5.bnd id b h1 h3
    omega
   ·rw [if_neg e'] at h2
    simp only [upP,if_neg (Ne.symm e')] at h4
    exact h5.inj id id' b h1 h2 h3 h4
 ·rw [Gh] at hid
  by_cases e:i=id
  ·subst e
   simp at hid; subst hid
   simpa [upP] using ho hs
  ·rw [if_neg e] at hid
   have h0:=h5.obj id ob hid
   simp only [upP,if_neg (Ne.symm e)]
   exact h0.step hs (fun b hb=>Q5 w o (h5.bnd id b (by rw [hid]; rfl) hb))
end small

section mem
variable {P:Program} {o:Oper} {l:Fr} {L:Loc} {u:AV}

theorem R1.out {T k:Nat} (h:R1 P T k=true):∃ i z,P.info? T=some i∧i.zero=some z∧z.cells.size=k:=by
 unfold R1 at h
 split at h
 ·rename_i i hi
  split at h
  ·rename_i z hz; exact⟨i,z,hi,hz,by simpa using h⟩
  ·cases h
 ·cases h

theorem Hj (i:Nat) {T:Nat} (k:Nat) (hz:R1 P T k=true) (ho:o.op=.alloc T:=by rfl) (hi:lk L i=none:=by rfl) :
  Gy P o l L (Is (.ptr i 0) ((i,.box T (List.replicate k .junk))::L)):=by
 intro a w β K Q h0 hf hK
 obtain⟨inf,z,h1,h2,h3⟩:=R1.out hz
 unfold Oper.wp
 have hr:(execOp a.eval o).run P w=.ok (.value (.pointer (some ⟨w.heap.size,0,none⟩))) (w.alloc (.cells z.cells T)):=by
  simp [execOp,ho,Instr.alloc,zeroValue,typeInfo,h1,h2,newVar,newRow]
 rw [hr]
 refine hK _ _ _ _ (upP β i (some w.heap.size)) ⟨rfl,rfl⟩ (h0.alloc hi _ (fun hs=>⟨_,rfl,z.cells,heap_alloc_new w _,by simp [h3],fun j u v hu _=>?_⟩)) (Step.alloc hi h0.bnd _) (.ptr (t:=T) (by simp [Gh]; rfl) (by simp [upP]))
 have:u=.junk:=by
  have:=M9 hu
  exact List.eq_of_mem_replicate this
 subst this
 exact .junk

theorem Q6 (i:Nat) {T:Nat} {x:Operand} {cs:List AV} (ho:o.op=.box T x:=by rfl) (hu:ev l x=u:=by rfl) (hx:u.cells=cs:=by rfl) (hc:u.flatOk=true:=by rfl) (hi:lk L i=none:=by rfl) :
  Gy P o l L (Is (.ptr i 0) ((i,.box T cs)::L)):=by
 subst hu
 intro a w β K Q h0 hf hK
 subst hx
 unfold Oper.wp
 have hr:(execOp a.eval o).run P w=.ok (.value (.pointer (some ⟨w.heap.size,0,none⟩))) (w.alloc (.cells (a.eval x).cells T)):=by
  simp [execOp,ho,Instr.box,newVar,newRow]
 rw [hr]
 obtain⟨h1,h2,_⟩:=(hf.ev x).cells hc
 exact hK _ _ _ _ (upP β i (some w.heap.size)) ⟨rfl,rfl⟩ (h0.alloc hi _ (fun hs=>⟨_,rfl,_,heap_alloc_new w _,h1,fun j u v hu hv=>(h2 j u v hu hv).step hs⟩)) (Step.alloc hi h0.bnd _) (.ptr (t:=T) (by simp [Gh]; rfl) (by simp [upP]))

/-! ### A store -/
theorem Step.set {w:World} {β:Gx} {L:Loc} {i b:Nat} {t:TypeId} {cs cs':List AV} (h2:Sat w β L) (hi:lk L i=some (.box t cs)) (hb:β i=some b) (vs:Array Value) :
  Step w β L (w.setRow b vs) β ((i,.box t cs')::L) where
 os:=rfl
 tape:=rfl
 output:=⟨rfl,Mb⟩
 size:=by simp
 hid:=fun _ _ _=>Iff.rfl
 stab:=fun b' j hs=>by
  have h0:b'≠b:=fun e=>by subst e; exact hs.kept i _ hi hb
  refine⟨⟨by simpa using hs.1,hs.seen,fun id o hid h1=>?_⟩,Q1 (w:=w) (setRow_other w b b' vs h0)⟩
  rw [Gh] at hid
  by_cases e:i=id
  ·subst e; rw [hb] at h1; exact absurd (M8 h1) (Ne.symm h0)
  ·rw [if_neg e] at hid; exact hs.kept id o hid h1
 far:=fun b' h4 hf=>by
  have h0:b'≠b:=fun e=>by subst e; exact hf i (by rw [hi]; rfl) hb
  refine⟨setRow_other w b b' vs h0,fun id hid=>?_⟩
  rw [Gh] at hid
  by_cases e:i=id
  ·subst e; rw [hb]; exact fun e=>h0 (M8 e).symm
  ·rw [if_neg e] at hid; exact hf id hid
 box:=fun id t' cs'' hid=>by
  refine⟨rfl,?_⟩
  rw [Gh]
  by_cases e:i=id
  ·subst e; rw [hi] at hid; cases hid; exact⟨cs',by simp⟩
  ·exact⟨cs'',by rw [if_neg e]; exact hid⟩
 map:=fun id t' es hid=>by
  refine⟨rfl,es,?_⟩
  rw [Gh,if_neg (fun e=>by subst e; rw [hi] at hid; cases hid)]; exact hid
 iter:=fun id t' n es hid=>by
  refine⟨rfl,n,es,?_⟩
  rw [Gh,if_neg (fun e=>by subst e; rw [hi] at hid; cases hid)]; exact hid
 vec:=fun id t' k ver xs hid=>by
  have e:i≠id:=fun e=>by subst e; rw [hi] at hid; cases hid
  refine⟨ver,xs,by rw [Gh,if_neg e]; exact hid,Mb,fun _=>⟨rfl,rfl,fun b' h3=>G23 (setRow_other w b b' vs (fun e'=>?_))⟩⟩
  subst e'
  exact e (h2.inj i id b' (by rw [hi]; rfl) (by rw [hid]; rfl) hb h3)
 spare:=fun id t' k ver hw hid=>by
  have e:i≠id:=fun e=>by subst e; rw [hi] at hid; cases hid
  refine⟨ver,hw,by rw [Gh,if_neg e]; exact hid,Mb,fun _=>⟨rfl,rfl,fun b' h3=>setRow_other w b b' vs (fun e'=>?_)⟩⟩
  subst e'
  exact e (h2.inj i id b' (by rw [hi]; rfl) (by rw [hid]; rfl) hb h3)

theorem Sat.set {w:World} {β:Gx} {L:Loc} {i b:Nat} {t:TypeId} {cs cs':List AV} (h0:Sat w β L) (hi:lk L i=some (.box t cs)) (hb:β i=some b) {old:Array Value} (hold:w.heap[b]? = some (.cells old t (0,0))) (vs:Array Value)
  (hl:vs.size=cs'.length) (h:∀ (j:Nat) u v,cs'[j]? = some u→vs[j]? = some v→V w β L u v):Sat (w.setRow b vs) β ((i,.box t cs')::L):=by
 have hs:=Step.set (cs':=cs') h0 hi hb vs
 have h3:∀ id,(lk ((i,J5.box t cs')::L) id).isSome=true→(lk L id).isSome=true:=fun id h=>by
  rw [Gh] at h
  by_cases e:i=id
  ·subst e; rw [hi]; rfl
  ·rwa [if_neg e] at h
 refine⟨fun b i h=>by simpa using h0.hid b i h,fun id b' hid h4=>by simpa using h0.bnd id b' (h3 id hid) h4,fun id b' j hid h4=>h0.apart id b' j (h3 id hid) h4,fun id id' b' h1 h2=>h0.inj id id' b' (h3 id h1) (h3 id' h2),fun id ob hid=>?_⟩
 rw [Gh] at hid
 by_cases e:i=id
 ·subst e
  simp at hid; subst hid
  exact⟨b,hb,vs,setRow_heap w b old vs t (0,0) hold,hl,fun j u v hu hv=>(h j u v hu hv).step hs⟩
 ·rw [if_neg e] at hid
  refine(h0.obj id ob hid).step hs (fun b' h4=>setRow_other w b b' vs (fun e'=>?_))
  subst e'
  exact e (h0.inj i id b' (by rw [hi]; rfl) (by rw [hid]; rfl) hb h4)

theorem Hc3 {T k b off:Nat} {t:TypeId} {old:Array Value} {v:Value} (hT:Yg P T k=true) (hv:v.cells.size=k) (h1:∀ x∈v.cells.toList,x.oneCell'=true) {w:World}
  (hold:w.heap[b]? = some (.cells old t (0,0))) (h0:off+k≤old.size) :
  (Instr.storeAt T (.pointer (some ⟨b,off,none⟩)) v).run P w=.ok () (w.setRow b (old.toList.take off++v.cells.toList++old.toList.drop (off+k)).toArray):=by
 have:=run_storeCells_at P b off t v.cells.toList 0 old w hold (by simpa [hv] using h0) h1
 simp only [Nat.add_zero,Array.length_toList,hv] at this
 simp [Instr.storeAt,Instr.sureAddr,storeVar,Q9 hT,hv,this]

theorem R34 {w:World} {β:Gx} {L:Loc} {off k:Nat} {cs us:List AV} {old ws:List Value} (h3:old.length=cs.length) (h4:ws.length=us.length) (hk:us.length=k) (h0:off+k≤cs.length)
  (h:∀ (j:Nat) u v,cs[j]? = some u→old[j]? = some v→V w β L u v) (h':∀ (j:Nat) u v,us[j]? = some u→ws[j]? = some v→V w β L u v) :
  ∀ (j:Nat) u v,(cs.take off++us++cs.drop (off+k))[j]? = some u→(old.take off++ws++old.drop (off+k))[j]? = some v→V w β L u v:=by
 intro j u v hu hv
 rcases Kz j off with h1 | h1
 ·rw [List.append_assoc,Md (by simp; omega),Mg,if_pos h1] at hu hv
  exact h j u v hu hv
 ·rcases Kz j (off+k) with h2 | h2
  ·rw [Md (by simp; omega),Mc (by simp; omega)] at hu hv
   simp only [List.length_take] at hu hv
   rw [Nat.min_eq_left (by omega)] at hu hv
   exact h' _ u v hu hv
  ·rw [Mc (by simp; omega)] at hu hv
   simp only [Mi,List.length_take,Mh] at hu hv
   rw [Nat.min_eq_left (by omega)] at hu hv
   rw [show off+k+(j - (off+us.length))=j by omega] at hu
   rw [show off+k+(j - (off+ws.length))=j by omega] at hv
   exact h j u v hu hv

def J93:Nat→List AV→List AV→Option (List AV)
 | _,[],cs=>some cs
 | 0,u::us,_::cs=>match J93 0 us cs with
  | some s=>some (u::s)
  | none=>none
 | n+1,us,c::cs=>match J93 n us cs with
  | some s=>some (c::s)
  | none=>none
 | _,_::_,[]=>none

theorem Q85:∀ {off:Nat} {us cs ds:List AV},J93 off us cs=some ds→us≠[]→ds=cs.take off++us++cs.drop (off+us.length)∧off+us.length≤cs.length
 | off,[],cs,ds,h,h0=>absurd rfl h0
 | 0,u::us,[],ds,h,_=>by simp [J93] at h
 | n+1,u::us,[],ds,h,_=>by simp [J93] at h
 | 0,u::us,c::cs,ds,h,_=>by
  simp only [J93] at h
  cases hr:J93 0 us cs with
  | none=>rw [hr] at h; cases h
  | some s=>
   rw [hr] at h
   simp at h; subst h
   by_cases e:us=[]
   ·subst e; simp [J93] at hr; subst hr; simp
   ·obtain⟨h1,h2⟩:=Q85 hr e
    subst h1
    simp at h2 ⊢
    exact h2
 | n+1,u::us,c::cs,ds,h,h0=>by
  simp only [J93] at h
  cases hr:J93 n (u::us) cs with
  | none=>rw [hr] at h; cases h
  | some s=>
   rw [hr] at h
   simp at h; subst h
   obtain⟨h1,h2⟩:=Q85 hr (by simp)
   subst h1
   refine⟨?_,by simp at h2 ⊢; omega⟩
   rw [show n+1+(u::us).length=(n+(u::us).length)+1 by omega,List.drop_succ_cons,List.take_succ_cons]
   simp

theorem H7 {x y:Operand} {T i off k:Nat} {t:TypeId} {cs ds:List AV} (hT:Yg P T k=true) (ho:o.op=.store T x y:=by rfl) (hu:ev l y=u:=by rfl) (hx:ev l x=.ptr i off:=by rfl) (hi:lk L i=some (.box t cs):=by rfl)
  (hc:u.flatOk=true:=by rfl) (h6:J93 off u.cells cs=some ds:=by rfl) (hk:u.cells.length=k:=by rfl) (h5:Nat.blt 0 k=true:=by rfl) :
  Gy P o l L (Is .junk ((i,.box t ds)::L)):=by
 subst hu
 have h7:(ev l y).cells≠[]:=fun e=>by rw [e] at hk; subst hk; cases h5
 obtain⟨rfl,h2⟩:=Q85 h6 h7
 rw [hk] at h2
 have h3:off+k≤cs.length:=h2
 rw [hk]
 intro a w β K Q h0 hf hK
 have h1:=hf.ev x
 rw [hx] at h1
 obtain⟨b,hb,h8⟩:=h1.inv_ptr
 obtain⟨old,h4,h9,a0⟩:=J65 h0 hi hb
 obtain⟨c1,c2,c3⟩:=(hf.ev y).cells hc
 have hr:=Hc3 (P:=P) (off:=off) hT (c1.trans hk) c3 h4 (by omega)
 unfold Oper.wp
 have a1:(execOp a.eval o).run P w=.ok .skip (w.setRow b (old.toList.take off++(a.eval y).cells.toList++old.toList.drop (off+k)).toArray):=by
  simp [execOp,ho,h8,hr]
 rw [a1]
 refine hK _ _ _ _ β ⟨rfl,rfl⟩ (h0.set hi hb h4 _ ?_ ?_) (Step.set h0 hi hb _) .junk
 ·simp [c1]; omega
 ·intro j u v hu hv
  exact R34 (by rw [Array.length_toList]; exact h9) (by rw [Array.length_toList]; exact c1) hk h3 (fun j u v hu hv=>a0 j u v hu (by simpa using hv)) (fun j u v hu hv=>c2 j u v hu (by simpa using hv)) j u v hu (by simpa using hv)

/-! ### Slices: lengths and elements -/
theorem D.len {w:World} {S:Nat→Nat→Prop} {k:Nat} {xs:List AV} {x:Value} (h:D w S (.list k xs) x):∃ ao cap,x=.slice ao xs.length cap∧xs.length≤cap∧cap≤maxLen:=by
 cases h with
 | nil h=>exact⟨_,_,rfl,by simp,h⟩
 | list vals h0 hm=>exact⟨_,_,rfl,h0,hm⟩

theorem G4a:∀ (xs ys:List AV),flat (xs++ys)=flat xs++flat ys
 | [],_=>rfl
 | x::xs,ys=>by simp [flat,G4a xs ys]
theorem D.lst_list {w:World} {S:Nat→Nat→Prop} {k:Nat} {xs ys:List AV} {v:Value} (h:D w S (.lst k xs ys) v):D w S (.list k xs) v:=by
 cases h with
 | lnil h=>exact .nil h
 | lst vals h0 hm hk hS h=>
  rw [G4a] at hS h
  exact .list vals (by omega) hm (fun x hx=>hk x (Mo.2 (.inl hx))) (fun j hj=>hS j (by rw [Mi]; omega)) (fun j u hu=>h j u (by rw [Md (M6 hu).1]; exact hu))
def Qa:AV→Option (Nat×List AV)
 | .list k xs=>some (k,xs)
 | .lst k xs _=>some (k,xs)
 | .own _ _ k xs=>some (k,xs)
 | .sc (.slice none 0 0)=>some (1,[])
 | _=>none

theorem V.Qa {w:World} {β:Gx} {L:Loc} {u:AV} {k:Nat} {xs:List AV} {x:Value} (h:V w β L u x) (ha:Qa u=some (k,xs)):D w (Jk w β L) (.list k xs) x:=by
 cases u with
 | list k' xs'=>simp [Go.Proofs.YtgcpimpnpcdmmaaGreat.Qa] at ha; obtain⟨rfl,rfl⟩:=ha; exact h.inv_list
 | lst k' xs' ys'=>
  simp [Go.Proofs.YtgcpimpnpcdmmaaGreat.Qa] at ha; obtain⟨rfl,rfl⟩:=ha
  cases h with
  | data h=>exact h.lst_list
 | own i ver k' xs'=>
  simp [Go.Proofs.YtgcpimpnpcdmmaaGreat.Qa] at ha; obtain⟨rfl,rfl⟩:=ha
  cases h with
  | data h=>cases h
  | own hd _=>exact hd
 | sc v=>
  have:=h.inv_sc
  subst this
  cases x with
  | slice ao n c=>
   cases ao with
   | none=>
    cases n with
    | zero=>
     cases c with
     | zero=>simp [Go.Proofs.YtgcpimpnpcdmmaaGreat.Qa] at ha; obtain⟨rfl,rfl⟩:=ha; exact .nil (Nat.zero_le _)
     | succ c=>simp [Go.Proofs.YtgcpimpnpcdmmaaGreat.Qa] at ha
    | succ n=>simp [Go.Proofs.YtgcpimpnpcdmmaaGreat.Qa] at ha
   | some a=>simp [Go.Proofs.YtgcpimpnpcdmmaaGreat.Qa] at ha
  | _=>simp [Go.Proofs.YtgcpimpnpcdmmaaGreat.Qa] at ha
 | _=>simp [Go.Proofs.YtgcpimpnpcdmmaaGreat.Qa] at ha

theorem Z3c {x:Operand} {T E k k':Nat} {xs:List AV} (hT:sliceB P T E k'=true) (ho:o.op=.call { callee:=.builtin .len,args:=#[x],argTypes:=#[T] }:=by rfl) (hx:Qa (ev l x)=some (k,xs):=by rfl):Gy P o l L (Is (.sc (.int .i64 xs.length)) L):=
 Hh fun a w β _ hf=>by
  obtain⟨ao,cap,h1,_⟩:=((hf.ev x).Qa hx).len
  exact⟨.int .i64 xs.length,by simp [execOp,ho,resolve,invoke,builtin,Builtin.len_,underlying,(sliceB.out hT).1,h1,goInt],.sc⟩

theorem Zaf {N:Cfg} {Q:Post} {ops:Array Oper} {rest:List Oper} {d:Nat} {x:Operand} {T E k k':Nat} {xs:List AV} (hT:sliceB P T E k'=true) (hk:xs.length≤maxLen→JL P N ops rest Q ((d,.sc (.int .i64 xs.length))::l) L) (ho:o.op=.call { callee:=.builtin .len,args:=#[x],argTypes:=#[T] }:=by rfl) (hx:Qa (ev l x)=some (k,xs):=by rfl) (hg:o.guard=none:=by rfl) (hd:o.dst=some d:=by rfl) (hn:Nat.blt d N.n=true:=by rfl):JL P N ops (o::rest) Q l L:=by
 intro n w0 β0 L0 a w β hs
 obtain⟨ao,cap,h1,h2,h3⟩:=((hs.frame.ev x).Qa hx).len
 exact G0 (Z3c hT ho hx) (hk (Nat.le_trans h2 h3)) hg hd hn (by unfold G66; rw [ho]) n w0 β0 L0 a w β hs

theorem J0 {k:Nat}:∀ {xs:List AV},(∀ x∈xs,x.cells.length=k)→(flat xs).length=xs.length*k
 | [],_=>by simp [flat]
 | x::r,h=>by
  simp only [flat,Mi,Me,h x (by simp),J0 (xs:=r) (fun y hy=>h y (by simp [hy]))]
  rw [Nat.add_mul]; omega


theorem R78 {k:Nat}:∀ {xs:List AV},(∀ x∈xs,x.cells.length=k)→∀ {i:Nat} {y:AV},xs[i]? = some y→∀ j,j < k→(flat xs)[i*k+j]? = y.cells[j]?
 | [],_,i,y,hy,_,_=>by simp at hy
 | x::r,h,i,y,hy,j,hj=>by
  have hx:=h x (by simp)
  cases i with
  | zero=>
   simp at hy; subst hy
   simp only [flat,Nat.zero_mul,Nat.zero_add]
   rw [Md (by omega)]
  | succ i=>
   simp at hy
   simp only [flat]
   rw [Mc (by rw [hx,Nat.add_mul]; omega),hx]
   rw [show (i+1)*k+j - k=i*k+j by rw [Nat.add_mul]; omega]
   exact R78 (fun z hz=>h z (by simp [hz])) hy j hj

theorem D.elem {w:World} {S:Nat→Nat→Prop} {k:Nat} {xs:List AV} {b off n cap i:Nat} {y:AV} (h:D w S (.list k xs) (.slice (some ⟨b,off,none⟩) n cap)) (hy:xs[i]? = some y) :
  D w S (.dptr y.cells) (.pointer (some ⟨b,off+i*k,none⟩)):=by
 cases h with
 | nil=>simp at hy
 | list vals h0 hm hk hS h=>
  have hi:i < xs.length:=by
   rcases Kz i xs.length with h | h
   ·exact h
   ·simp [List.getElem?_eq_none h] at hy
  have h1:y.cells.length=k:=hk y (M9 hy)
  refine .dptr (fun j=>vals (i*k+j)) (fun j hj=>?_) (fun j u hu=>?_)
  ·have:=hS (i*k+j) (by
    rw [J0 hk]
    have:(i+1)*k≤xs.length*k:=Nat.mul_le_mul_right k hi
    rw [Nat.add_mul] at this; omega)
   rw [show off+i*k+j=off+(i*k+j) by omega]; exact this
  ·have hj:j < k:=by
    rcases Kz j k with h | h
    ·exact h
    ·simp [List.getElem?_eq_none (show y.cells.length≤j by omega)] at hu
   exact h _ u ((R78 hk hy j hj).trans hu)

theorem D.addr {w:World} {S:Nat→Nat→Prop} {k i:Nat} {xs:List AV} {x:Value} {y:AV} (h:D w S (.list k xs) x) (hy:xs[i]? = some y) :
  ∃ b off cap,x=.slice (some ⟨b,off,none⟩) xs.length cap:=by
 cases h with
 | nil=>simp at hy
 | list=>exact⟨_,_,_,rfl⟩

theorem Z78 {x ix:Operand} {T E k:Nat} {kd:IntKind} {n:Int} {m:Nat} {xs:List AV} {y:AV} (ho:o.op=.indexAddr T x ix) (hx:Qa (ev l x)=some (k,xs)) (hi:ev l ix=.sc (.int kd n)) (hT:sliceB P T E k=true) (hy:xs[m]? = some y) (hm:n=(m:Int)):Gy P o l L (Is (.dptr y.cells) L):=
 Hh fun a w β _ hf=>by
  subst hm
  have h1:=(hf.ev x).Qa hx
  have h2:=hf.ev ix
  rw [hi] at h2
  obtain⟨b,off,cap,h0⟩:=h1.addr hy
  rw [h0] at h1
  have h3:m < xs.length:=by
   rcases Kz m xs.length with h | h
   ·exact h
   ·simp [List.getElem?_eq_none h] at hy
  have hr:=Q9 (sliceB.out hT).2 w
  refine⟨.pointer (some ⟨b,off+m*k,none⟩),?_,.data (h1.elem hy)⟩
  simp [execOp,ho,Instr.indexAt,h2.inv_sc,asIntOf,underlying,(sliceB.out hT).1,h0,h3,hr,Addr.add_lit]
end mem
set_option linter.unusedVariables false

/-! ### Guarded operations -/
inductive Un (c:Bool):AV→AV→Prop
 | all {c':Bool} {y:AV} (h:c=true→c'=true):Un c (.opt c' y) y
 | part {e:Bool} {y:AV}:Un c (.opt (c&&e) y) (.opt e y)

def Jaa (c:Bool) (l:Fr):Fr→Prop
 | []=>True
 | (t,y)::r=>Un c (look l t) y∧Jaa c l r

theorem Rda (us l:Fr) (t:Nat):(∃ y,(t,y)∈us∧look (us++l) t=y)∨look (us++l) t=look l t:=by
 induction us with
 | nil=>exact .inr rfl
 | cons p r ih=>
  obtain⟨i,y⟩:=p
  by_cases e:i=t
  ·subst e; exact .inl ⟨y,by simp,by simp [look]⟩
  ·have hb:Nat.beq i t=false:=by
    cases hb:Nat.beq i t with
    | false=>rfl
    | true=>exact absurd (Kx hb) e
   simp only [List.cons_append,look,hb,cond_false]
   rcases ih with ⟨y',h1,h2⟩ | h
   ·exact .inl ⟨y',List.mem_cons_of_mem _ h1,h2⟩
   ·exact .inr h

theorem Jaa.mem {c:Bool} {l us:Fr} (h:Jaa c l us) {t:Nat} {y:AV} (hm:(t,y)∈us):Un c (look l t) y:=by
 induction us with
 | nil=>cases hm
 | cons p r ih=>
  obtain⟨i,z⟩:=p
  rcases Mr.1 hm with e | hm
  ·cases e; exact h.1
  ·exact ih h.2 hm

theorem Q8.un {a:Act} {w:World} {β:Gx} {L:Loc} {l us:Fr} (h:Q8 a w β L l) (hu:Jaa true l us):Q8 a w β L (us++l):=by
 refine⟨fun t=>?_⟩
 rcases Rda us l t with ⟨y,hm,e⟩ | e
 ·rw [e]
  have hv:=h.tmp t
  have h0:=hu.mem hm
  generalize look l t=z at h0 hv
  cases h0 with
  | all hc=>
   rw [hc rfl] at hv
   exact hv.inv_opt
  | part=>simpa using hv
 ·rw [e]; exact h.tmp t

section guards
variable {P:Program} {N:Cfg} {Q:Post} {l:Fr} {L:Loc} {ops:Array Oper} {o:Oper} {rest:List Oper} {u:AV}

inductive J3a:AV→Bool→Bool→Prop
 | sct {b:Bool}:J3a (.sc (.bool b)) true b
 | scf {b:Bool}:J3a (.sc (.bool b)) false (!b)
 | optt {c b:Bool}:J3a (.opt c (.sc (.bool b))) true (c&&b)
 | optf {c b:Bool}:J3a (.opt c (.sc (.bool b))) false (c&&!b)

theorem J3a.wanted {a:Act} {w:World} {β:Gx} {j:Nat} {dj:Tmp} {want c:Bool} (hf:Q8 a w β L l) (h0:dj < a.tmps.size) (hg:o.guard=some (j,want)) (hj:(ops[j]?).bind (·.dst)=some dj) (h:J3a (look l dj) want c) :
  Region.wanted o (yielded ops a.tmps)=c:=by
 have hv:=hf.tmp dj
 rw [Array.getD_eq_getD_getElem?,Array.getElem?_eq_getElem h0,Option.getD_some] at hv
 generalize look l dj=z at h hv
 cases h with
 | @sct=>
  have:=hv.inv_sc
  simp only [Region.wanted,hg,yielded,hj,Option.bind_some,Array.getElem?_eq_getElem h0,this]
  cases c <;> rfl
 | @scf b=>
  have:=hv.inv_sc
  simp only [Region.wanted,hg,yielded,hj,Option.bind_some,Array.getElem?_eq_getElem h0,this]
  cases b <;> rfl
 | @optt c' b=>
  cases c' with
  | true=>
   have:=(hv.inv_opt).inv_sc
   simp only [Region.wanted,hg,yielded,hj,Option.bind_some,Array.getElem?_eq_getElem h0,this]
   cases b <;> rfl
  | false=>
   have:=hv.inv_opt0
   simp only [Region.wanted,hg,yielded,hj,Option.bind_some,Array.getElem?_eq_getElem h0,this,undef]
   rfl
 | @optf c' b=>
  cases c' with
  | true=>
   have:=(hv.inv_opt).inv_sc
   simp only [Region.wanted,hg,yielded,hj,Option.bind_some,Array.getElem?_eq_getElem h0,this]
   cases b <;> rfl
  | false=>
   have:=hv.inv_opt0
   simp only [Region.wanted,hg,yielded,hj,Option.bind_some,Array.getElem?_eq_getElem h0,this,undef]
   rfl

theorem Gi {j dj d:Nat} {want c:Bool} {gv:AV} (us:Fr) (hg:o.guard=some (j,want)) (hj:(ops[j]?).bind (·.dst)=some dj) (h3:look l dj=gv) (h4:J3a gv want c) (h5:Jaa c l us) (h:c=true→Gy P o (us++l) L (Is u L)) (hk:JL P N ops rest Q ((d,.opt c u)::l) L)
  (h6:Nat.blt dj N.n=true:=by rfl) (hd:o.dst=some d:=by rfl) (hn:Nat.blt d N.n=true:=by rfl) (h7:G66 o=true:=by rfl) :
  JL P N ops (o::rest) Q l L:=by
 subst h3
 intro n w0 β0 L0 a w β hs
 have hw:=h4.wanted (ops:=ops) hs.frame (Kv (by simpa [Nat.blt_eq] using h6) hs.size) hg hj
 have h1:d < a.tmps.size:=Kv (by simpa [Nat.blt_eq] using hn) hs.size
 refine wpListIn_step fun K hK=>?_
 rw [hw]
 cases c with
 | true=>
  rw [if_pos rfl]
  refine H88 h7 (h rfl a w β K _ hs.sat (hs.frame.un h5) ?_)
  intro u' L' v w' β' hr h2 h0 hv
  obtain⟨rfl,rfl⟩:=hr
  rw [hd]
  exact hK _ _ (hk n w0 β0 L0 _ w' β' ⟨h2,hs.step.trans h0,(hs.frame.step h0).put h1 (.opt (fun _=>hv) (fun e=>by cases e)),by rw [Act.put_size]; exact hs.size,hs.base,by rw [Act.put_defers']; exact hs.defers.step h0⟩)
 | false=>
  rw [if_neg (by simp),hd]
  exact⟨fun _ _=>trivial,hK _ _ (hk n w0 β0 L0 _ w β ⟨hs.sat,hs.step,hs.frame.put h1 (.opt (fun e=>by cases e) (fun _=>rfl)),by rw [Act.put_size]; exact hs.size,hs.base,by rw [Act.put_defers']; exact hs.defers⟩)⟩
def Z9a:AV→AV
 | .opt _ y=>y
 | v=>v
def Q17 (l:Fr):List Nat→Fr
 | []=>[]
 | t::r=>(t,Z9a (look l t))::Q17 l r
def grd (ops:Array Oper) (l:Fr) (o:Oper):Option (Bool×AV):=o.guard.bind fun g=>((ops[g.1]?).bind (·.dst)).map fun d=>(g.2,look l d)
def Z5d (ops:Array Oper) (n:Nat) (o:Oper):Bool:=match o.guard.bind fun g=>(ops[g.1]?).bind (·.dst) with
 | some d=>Nat.blt d n
 | none=>true
theorem Y99 {ops:Array Oper} {l:Fr} {o:Oper} {n:Nat} {want:Bool} {gv:AV} (h:grd ops l o=some (want,gv)) (hn:Z5d ops n o=true):∃ j d,o.guard=some (j,want)∧(ops[j]?).bind (·.dst)=some d∧look l d=gv∧Nat.blt d n=true:=by
 unfold grd at h
 unfold Z5d at hn
 obtain⟨g,h1,h2⟩:=Option.bind_eq_some_iff.1 h
 obtain⟨d,h3,h4⟩:=Option.map_eq_some_iff.1 h2
 obtain⟨j,w⟩:=g
 cases h4
 refine⟨j,d,h1,h3,rfl,?_⟩
 rw [h1] at hn
 simp only [Option.bind_some] at hn
 rw [h3] at hn
 exact hn
theorem Ua {c:Bool} {y:AV}:Un c (.opt c y) y:=.all id
theorem JLo (v:AV) (ts:List Nat) {d:Nat} {want c:Bool} {gv:AV} (hg:grd ops l o=some (want,gv)) (h0:J3a gv want c) (h5:Jaa c l (Q17 l ts)) (h:c=true→Gy P o (Q17 l ts++l) L (Is v L)) (hd:o.dst=some d) (hk:JL P N ops rest Q ((d,.opt c v)::l) L)
  (h6:Z5d ops N.n o=true:=by rfl) (hn:Nat.blt d N.n=true:=by rfl) (h7:G66 o=true:=by rfl):JL P N ops (o::rest) Q l L:=by
 obtain⟨j,dj,h1,h2,h3,h4⟩:=Y99 hg h6
 exact Gi (Q17 l ts) h1 h2 h3 h0 h5 h hk h4 hd hn h7
end guards

/-! ### Forgetting -/
mutual
def AV.refs (ok:Nat→Bool):AV→Bool
 | .ptr i _=>ok i
 | .own i _ _ _=>ok i
 | .ms i _ _ _=>ok i
 | .mp i=>ok i
 | .it i=>ok i
 | .vec i _ _ _=>ok i
 | .vptr i _ _ _=>ok i
 | .vsl i _ _ _ _=>ok i
 | .vcap i _ _ _ _=>ok i
 | .nst i _ _ _ last=>ok i&&last.refs ok
 | .nptr i _ _ u=>ok i&&u.refs ok
 | .agg cs=>Qb ok cs
 | .tup cs=>Qb ok cs
 | .fn _ cs=>Qb ok cs
 | .bfn _ cs=>Qb ok cs
 | .opt _ x=>x.refs ok
 | _=>true
def Qb (ok:Nat→Bool):List AV→Bool
 | []=>true
 | x::r=>x.refs ok&&Qb ok r
end

theorem G13 {ok:Nat→Bool}:∀ {cs:List AV},Qb ok cs=true→∀ u∈cs,u.refs ok=true
 | x::r,h,u,hu=>by
  simp only [Qb,Mk] at h
  rcases Mr.1 hu with rfl | hu
  ·exact h.1
  ·exact G13 h.2 u hu

inductive Conv (ok:Nat→Bool):AV→AV→Prop
 | same {u:AV} (h:u.refs ok=true):Conv ok u u
 | junk {u:AV}:Conv ok u .junk
 | list {u:AV} {k:Nat} {xs:List AV} (h:Qa u=some (k,xs)):Conv ok u (.list k xs)
 | nil {k:Nat}:Conv ok (.sc (.slice none 0 0)) (.list k [])

theorem Conv.eq {ok:Nat→Bool} {u u':AV} (h:u=u') (hr:u'.refs ok=true):Conv ok u u':=by subst h; exact .same hr

def J5.like:J5→J5→Prop
 | .box t _,.box t' _=>t=t'
 | .spare t k ver hw,.spare t' k' ver' h0=>t=t'∧k=k'∧ver=ver'∧hw=h0
 | .map t _,.map t' _=>t=t'
 | .vec t k ver xs,.vec t' k' ver' xs'=>t=t'∧k=k'∧ver=ver'∧xs.length=xs'.length
 | .iter m _ _,.iter m' _ _=>m=m'
 | _,_=>False

theorem J5.like.keeps {o o':J5} (h:o.like o') (i:Nat):o.keeps i ↔ o'.keeps i:=by
 cases o <;> cases o' <;> simp_all [J5.like,J5.keeps]

structure Jcf (L L':Loc):Prop where
 like:∀ id o',lk L' id=some o'→∃ o,lk L id=some o∧o.like o'

theorem Jcf.some {L L':Loc} (h:Jcf L L') {id:Nat} (hs:(lk L' id).isSome=true):(lk L id).isSome=true:=by
 obtain⟨o',h0⟩:=Kt hs
 obtain⟨o,ho,_⟩:=h.like id o' h0
 rw [ho]; rfl

theorem Jcf.stab {w:World} {β:Gx} {L L':Loc} (h:Jcf L L') {b i:Nat} (hs:Jk w β L b i):Jk w β L' b i:=
 ⟨hs.lt,hs.seen,fun id o' hid hb=>by
  obtain⟨o,ho,hl⟩:=h.like id o' hid
  exact(hl.keeps i).1 (hs.kept id o ho hb)⟩

theorem V.drop {w:World} {β:Gx} {L L':Loc} (hd:Jcf L L') {u:AV} {v:Value} (h:V w β L u v):u.refs (fun i=>(lk L' i).isSome)=true→V w β L' u v:=by
 have mono:∀ {u v},D w (Jk w β L) u v→D w (Jk w β L') u v:=fun h=>h.mono fun b i hs=>⟨hd.stab hs,rfl⟩
 have mem:∀ {cs:List AV},Qb (fun i=>(lk L' i).isSome) cs=true→∀ (j:Nat) u,cs[j]? = some u→u.refs (fun i=>(lk L' i).isSome)=true:=
  fun h j u hu=>G13 h u (M9 hu)
 induction h with
 | data h=>exact fun _=>.data (mono h)
 | agg hl _ ih=>exact fun hr=>.agg hl fun j u v hu hv=>ih j u v hu hv (mem (by simpa [AV.refs] using hr) j u hu)
 | tup hl _ ih=>exact fun hr=>.tup hl fun j u v hu hv=>ih j u v hu hv (mem (by simpa [AV.refs] using hr) j u hu)
 | fn hl _ ih=>exact fun hr=>.fn hl fun j u v hu hv=>ih j u v hu hv (mem (by simpa [AV.refs] using hr) j u hu)
 | bfn hl _ ih=>exact fun hr=>.bfn hl fun j u v hu hv=>ih j u v hu hv (mem (by simpa [AV.refs] using hr) j u hu)
 | opt _ h0 ih=>exact fun hr=>.opt (fun e=>ih e (by simpa [AV.refs] using hr)) h0
 | ptr hi h=>
  intro hr
  obtain⟨o',h3⟩:=Kt (show (lk L' _).isSome=true by simpa [AV.refs] using hr)
  obtain⟨o,ho,hl⟩:=hd.like _ o' h3
  rw [hi] at ho; cases ho
  cases o' <;> simp [J5.like] at hl
  subst hl
  exact .ptr h3 h
 | ms hi h hn hm=>
  intro hr
  obtain⟨o',h3⟩:=Kt (show (lk L' _).isSome=true by simpa [AV.refs] using hr)
  obtain⟨o,ho,hl⟩:=hd.like _ o' h3
  rw [hi] at ho; cases ho
  cases o' <;> simp [J5.like] at hl
  subst hl
  exact .ms h3 h hn hm
 | mp hi h=>
  intro hr
  obtain⟨o',h3⟩:=Kt (show (lk L' _).isSome=true by simpa [AV.refs] using hr)
  obtain⟨o,ho,hl⟩:=hd.like _ o' h3
  rw [hi] at ho; cases ho
  cases o' <;> simp [J5.like] at hl
  subst hl
  exact .mp h3 h
 | it hi h=>
  intro hr
  obtain⟨o',h3⟩:=Kt (show (lk L' _).isSome=true by simpa [AV.refs] using hr)
  obtain⟨o,ho,hl⟩:=hd.like _ o' h3
  rw [hi] at ho; cases ho
  cases o' <;> simp [J5.like] at hl
  subst hl
  exact .it h3 h
 | vptr hp hv=>
  intro hr
  obtain⟨t,k,ver',xs,hi,h4,hx⟩:=hp
  obtain⟨o',h3⟩:=Kt (show (lk L' _).isSome=true by simpa [AV.refs] using hr)
  obtain⟨o,ho,hl⟩:=hd.like _ o' h3
  rw [hi] at ho; cases ho
  cases o' <;> simp [J5.like] at hl
  obtain⟨rfl,rfl,rfl,hl⟩:=hl
  exact .vptr ⟨t,k,ver',_,h3,h4,hx⟩ hv
 | vsl hp hv=>
  intro hr
  obtain⟨t,ver',xs,hi,h4,hx⟩:=hp
  obtain⟨o',h3⟩:=Kt (show (lk L' _).isSome=true by simpa [AV.refs] using hr)
  obtain⟨o,ho,hl⟩:=hd.like _ o' h3
  rw [hi] at ho; cases ho
  cases o' <;> simp [J5.like] at hl
  obtain⟨rfl,rfl,rfl,hl⟩:=hl
  exact .vsl ⟨t,ver',_,h3,h4,fun e=>⟨by rw [← hl]; exact(hx e).1,(hx e).2⟩⟩ hv
 | vcap hp hv=>
  intro hr
  obtain⟨t,ver',xs,hi,h4,hx⟩:=hp
  obtain⟨o',h3⟩:=Kt (show (lk L' _).isSome=true by simpa [AV.refs] using hr)
  obtain⟨o,ho,hl⟩:=hd.like _ o' h3
  rw [hi] at ho; cases ho
  cases o' <;> simp [J5.like] at hl
  obtain⟨rfl,rfl,rfl,hl⟩:=hl
  exact .vcap ⟨t,ver',_,h3,h4,hx⟩ hv
 | nst vs hi h4 h5 h6 _ hv ih=>
  intro hr
  simp only [AV.refs,Mk] at hr
  obtain⟨o',h3⟩:=Kt hr.1
  obtain⟨o,ho,hl⟩:=hd.like _ o' h3
  rw [hi] at ho; cases ho
  cases o' <;> simp [J5.like] at hl
  obtain⟨rfl,rfl,rfl,rfl⟩:=hl
  exact .nst vs h3 h4 h5 (fun e j u x hu hx=>mono (h6 e j u x hu hx)) (fun x e h0 hx=>ih x e h0 hx hr.2) hv
 | nptr b vs hi h4 h5 _ hv ih=>
  intro hr
  simp only [AV.refs,Mk] at hr
  obtain⟨o',h3⟩:=Kt hr.1
  obtain⟨o,ho,hl⟩:=hd.like _ o' h3
  rw [hi] at ho; cases ho
  cases o' <;> simp [J5.like] at hl
  obtain⟨rfl,rfl,rfl,rfl⟩:=hl
  exact .nptr b vs h3 h4 h5 (fun x e hx=>ih x e hx hr.2) hv
 | vec hp hv=>
  intro hr
  obtain⟨t,ver',xs,hi,h4,hx⟩:=hp
  obtain⟨o',h3⟩:=Kt (show (lk L' _).isSome=true by simpa [AV.refs] using hr)
  obtain⟨o,ho,hl⟩:=hd.like _ o' h3
  rw [hi] at ho; cases ho
  cases o' <;> simp [J5.like] at hl
  obtain⟨rfl,rfl,rfl,hl⟩:=hl
  exact .vec ⟨t,ver',_,h3,h4,fun e=>⟨(hx e).1.trans hl,(hx e).2⟩⟩ hv
 | own h7 hp=>
  intro hr
  obtain⟨t,ver',hw,hi,h4,hx⟩:=hp
  obtain⟨o',h3⟩:=Kt (show (lk L' _).isSome=true by simpa [AV.refs] using hr)
  obtain⟨o,ho,hl⟩:=hd.like _ o' h3
  rw [hi] at ho; cases ho
  cases o' <;> simp [J5.like] at hl
  obtain⟨rfl,rfl,rfl,rfl⟩:=hl
  refine .own (mono h7) ⟨t,ver',hw,h3,h4,fun e=>?_⟩
  obtain⟨a1,a2,vals,a3,a4⟩:=hx e
  exact⟨a1,a2,vals,a3,fun j u hu=>by
   obtain⟨x,h1,h2⟩:=a4 j u hu
   exact⟨x,h1,mono h2⟩⟩

theorem V.conv {w:World} {β:Gx} {L L':Loc} (hd:Jcf L L') {u u':AV} {v:Value} (h:V w β L u v) (hc:Conv (fun i=>(lk L' i).isSome) u u'):V w β L' u' v:=by
 cases hc with
 | same hr=>exact h.drop hd hr
 | junk=>exact .junk
 | list ha=>exact .data ((h.Qa ha).mono fun b i hs=>⟨hd.stab hs,rfl⟩)
 | nil=>rw [h.inv_sc]; exact .data (.nil (Nat.zero_le _))

inductive H04 (ok:Nat→Bool):J5→J5→Prop
 | same {t k ver hw:Nat}:H04 ok (.spare t k ver hw) (.spare t k ver hw)
 | map {t:Nat} {es:List (Value×AV)}:H04 ok (.map t es) (.map t es)
 | iter {n:Nat} {m:AV} {es:List Nat} (h:m.refs ok=true):H04 ok (.iter m n es) (.iter m n es)
 | vec {t k ver:Nat} {xs:List AV}:H04 ok (.vec t k ver xs) (.vec t k ver xs)
 | box {t:Nat} {cs cs':List AV} (hl:cs.length=cs'.length) (h:∀ (j:Nat) u u',cs[j]? = some u→cs'[j]? = some u'→Conv ok u u'):H04 ok (.box t cs) (.box t cs')

theorem H04.boxEq {ok:Nat→Bool} {t:Nat} {cs cs':List AV} (h:cs=cs') (hr:Qb ok cs'=true):H04 ok (.box t cs) (.box t cs'):=by
 subst h
 exact .box rfl fun j u u' hu h0=>by
  rw [hu] at h0; cases h0
  exact .same (G13 hr u (M9 hu))
def Q07 (ok:Nat→Bool) (l:Fr):Fr→Prop
 | []=>True
 | (t,u)::r=>Conv ok (look l t) u∧Q07 ok l r
def H2b (ok:Nat→Bool) (L:Loc):Loc→Prop
 | []=>True
 | (id,o')::r=>(∃ o,lk L id=some o∧H04 ok o o')∧H2b ok L r
def allIn (L:Loc):List Nat→Bool
 | []=>true
 | i::r=>(lk L i).isSome&&allIn L r

structure Fits (B:List Nat) (l:Fr) (L:Loc) (l':Fr) (L':Loc):Prop where
 fr:Q07 (fun i=>(lk L' i).isSome) l l'
 loc:H2b (fun i=>(lk L' i).isSome) L L'
 base:allIn L' B=true

theorem H2b.get {ok:Nat→Bool} {L:Loc}:∀ {L':Loc},H2b ok L L'→∀ {id:Nat} {o':J5},lk L' id=some o'→∃ o,lk L id=some o∧H04 ok o o'
 | (i,x)::r,h,id,o',ho=>by
  rw [Gh] at ho
  by_cases e:i=id
  ·subst e; simp at ho; subst ho; exact h.1
  ·rw [if_neg e] at ho; exact h.2.get ho

theorem Q07.get {ok:Nat→Bool} {l:Fr}:∀ {l':Fr},Q07 ok l l'→∀ t,Conv ok (look l t) (look l' t)
 | [],_,t=>by simpa [look] using Conv.junk
 | (i,x)::r,h,t=>by
  by_cases e:i=t
  ·subst e; simpa [look] using h.1
  ·have hb:Nat.beq i t=false:=by
    cases hb:Nat.beq i t with
    | false=>rfl
    | true=>exact absurd (Kx hb) e
   simpa [look,hb] using h.2.get t

theorem R58 {L:Loc}:∀ {B:List Nat},allIn L B=true→∀ i∈B,(lk L i).isSome=true
 | i::r,h,j,hj=>by
  simp only [allIn,Mk] at h
  rcases Mr.1 hj with rfl | hj
  ·exact h.1
  ·exact R58 h.2 j hj

theorem H04.like {ok:Nat→Bool} {o o':J5} (h:H04 ok o o'):o.like o':=by cases h <;> simp [J5.like]

theorem Fits.drop {B:List Nat} {l l':Fr} {L L':Loc} (h:Fits B l L l' L'):Jcf L L':=
 ⟨fun id o' h0=>by obtain⟨o,h1,h2⟩:=h.loc.get h0; exact⟨o,h1,h2.like⟩⟩

theorem R6.fits {N:Cfg} {w0 w:World} {β0 β:Gx} {L0 L L':Loc} {a:Act} {l l':Fr} (hs:R6 N w0 β0 L0 a w β l L) (h:Fits N.base l L l' L'):R6 N w0 β0 L0 a w β l' L':=by
 have hd:=h.drop
 have hb:∀ id,(lk L0 id).isSome=true→(lk L' id).isSome=true:=fun id hid=>R58 h.base id (hs.base id hid)
 have keep:∀ id o0 o,lk L0 id=some o0→lk L id=some o→∃ o',lk L' id=some o'∧o.like o':=by
  intro id o0 o h0 ho
  obtain⟨o',h5⟩:=Kt (hb id (by rw [h0]; rfl))
  obtain⟨o2,h6,hl⟩:=hd.like id o' h5
  rw [ho] at h6; cases h6
  exact⟨o',h5,hl⟩
 refine⟨⟨hs.sat.hid,fun id b hid hb=>hs.sat.bnd id b (hd.some hid) hb,fun id b j hid hb=>hs.sat.apart id b j (hd.some hid) hb,fun id id' b h1 h2=>hs.sat.inj id id' b (hd.some h1) (hd.some h2),fun id o' h5=>?_⟩,?_,⟨fun t=>(hs.frame.tmp t).conv hd (h.fr.get t)⟩,hs.size,hs.base,hs.defers.sub fun id D h1 h2=>⟨id,hd.some h1,h2⟩⟩
 ·obtain⟨o,ho,hc⟩:=h.loc.get h5
  have h0:=hs.sat.obj id o ho
  cases hc with
  | same=>exact h0
  | map=>
   obtain⟨b,h1,h2⟩:=h0
   exact⟨b,h1,h2.mono rfl fun h=>h.mono fun b i hs=>⟨hd.stab hs,rfl⟩⟩
  | vec=>
   obtain⟨h9,h0⟩:=h0
   refine⟨h9,?_⟩
   rcases h0 with h0 | ⟨b,h1,vs,h2,h3,h4⟩
   ·exact .inl h0
   ·exact .inr ⟨b,h1,vs,h2,h3,fun j u v hu hv=>(h4 j u v hu hv).mono fun b i hs=>⟨hd.stab hs,rfl⟩⟩
  | iter hm=>
   obtain⟨b,h1,bm,h2,h4⟩:=h0
   exact⟨b,h1,bm,h2.drop hd hm,h4⟩
  | box hl hc=>
   obtain⟨b,h1,vs,h2,h3,h4⟩:=h0
   refine⟨b,h1,vs,h2,h3.trans hl,fun j u' v h7 hv=>?_⟩
   rename_i cs cs'
   have hj:j < cs.length:=by
    rcases Kz j cs'.length with h | h
    ·omega
    ·simp [List.getElem?_eq_none h] at h7
   exact(h4 j cs[j] v (by simp [hj]) hv).conv hd (hc j _ _ (by simp [hj]) h7)
 ·have st:=hs.step
  refine⟨st.os,st.tape,st.output,st.size,st.hid,fun b i h0=>⟨hd.stab (st.stab b i h0).1,(st.stab b i h0).2⟩,fun b h8 hf=>⟨(st.far b h8 hf).1,fun id hid=>(st.far b h8 hf).2 id (hd.some hid)⟩,fun id t cs h0=>?_,fun id t cs h0=>?_,fun id t n cs h0=>?_,fun id t k ver xs h0=>?_,fun id t k ver hw h0=>?_⟩
  ·obtain⟨e,cs',h1⟩:=st.box id t cs h0
   obtain⟨o',h2,h3⟩:=keep id _ _ h0 h1
   cases o' <;> simp [J5.like] at h3
   subst h3
   exact⟨e,_,h2⟩
  ·obtain⟨e,cs',h1⟩:=st.map id t cs h0
   obtain⟨o',h2,h3⟩:=keep id _ _ h0 h1
   cases o' <;> simp [J5.like] at h3
   subst h3
   exact⟨e,_,h2⟩
  ·obtain⟨e,n',cs',h1⟩:=st.iter id t n cs h0
   obtain⟨o',h2,h3⟩:=keep id _ _ h0 h1
   cases o' <;> simp [J5.like] at h3
   subst h3
   exact⟨e,_,_,h2⟩
  ·obtain⟨v',xs',h1,a0,r⟩:=st.vec id t k ver xs h0
   obtain⟨o',h2,h3⟩:=keep id _ _ h0 h1
   cases o' <;> simp [J5.like] at h3
   obtain⟨rfl,rfl,rfl,h4⟩:=h3
   exact⟨v',_,h2,a0,fun e=>⟨h4.symm.trans (r e).1,(r e).2⟩⟩
  ·obtain⟨v',a1,h1,r⟩:=st.spare id t k ver hw h0
   obtain⟨o',h2,h3⟩:=keep id _ _ h0 h1
   cases o' <;> simp [J5.like] at h3
   obtain⟨rfl,rfl,rfl,rfl⟩:=h3
   exact⟨v',a1,h2,r⟩

section flow
variable {P:Program} {N:Cfg} {Q:Post} {l:Fr} {L:Loc}

theorem Qn {c:Code} {l':Fr} {L':Loc} (h:Fits N.base l L l' L') (hk:JC P N c Q l' L'):JC P N c Q l L:=
 fun n w0 β0 L0 a w β hs=>hk n w0 β0 L0 a w β (hs.fits h)
theorem Ya5 {body:Code} {X:Type} (I:X→Prop) (F:X→Fr) (M:X→Loc) (μ:X→Nat) (x0:X) (h0:I x0) (hf:Fits N.base l L (F x0) (M x0))
  (hr:∀ x,I x→∀ K:Fr→Loc→Prop,(∀ l L x',I x'→μ x' < μ x→Fits N.base l L (F x') (M x')→K l L)→JC P N body (Q.seq K) (F x) (M x)):JC P N (.loop body) Q l L:=by
 intro n w0 β0 L0 a w β hs b k cs h7 hb h5
 have key:∀ m x a w β,μ x=m→I x→R6 N w0 β0 L0 a w β (F x) (M x) →
   ∃ e a' w',Q.out N w0 β0 L0 e a' w'∧ArrivesIn (Machine.fenced P (FR N.ro)) P (lone (b.atR a (.code body::.inLoop body::k)) cs w) b k cs e a' w':=by
  intro m
  induction m using Nat.strongRecOn with
  | _ m ih=>
   intro x a w β hn hI hs
   obtain⟨e,a₁,w₁,hq,h4⟩:=hr x hI (fun l L=>∃ x',I x'∧μ x' < μ x∧Fits N.base l L (F x') (M x')) (fun l L x' h1 h2 h3=>⟨x',h1,h2,h3⟩) n w0 β0 L0 a w β hs b (.inLoop body::k) cs h7 hb h5
   cases e with
   | normal=>
    obtain⟨β',l',L',h8,x',h9,a0,h6⟩:=hq
    obtain⟨e₂,a₂,w₂,hq₂,harr₂⟩:=ih (μ x') (hn ▸ a0) x' a₁ w₁ β' rfl h9 (h8.fits h6)
    exact⟨e₂,a₂,w₂,hq₂,.of_steps (StepsIn.trans h4 (.one (fenced_calm hb h5 rfl) stepR_inLoop)) harr₂⟩
   | exit id=>exact⟨.exit id,a₁,w₁,hq,.pass (x:=.inLoop body) rfl (fun _ _=>.inl (by simp)) h4⟩
   | goto l=>exact hq.elim
   | ret=>exact⟨.ret,a₁,w₁,hq,.pass (x:=.inLoop body) rfl (fun _ _=>.inl (by simp)) h4⟩
   | panic ch=>exact hq.elim
   | outgrown=>exact hq.elim
 obtain⟨e,a',w',hq,h4⟩:=key _ x0 a w β rfl h0 (hs.fits hf)
 exact⟨e,a',w',hq,.of_steps (.one (fenced_calm hb h5 rfl) stepR_loop) h4⟩
end flow

/-! ### Shorter forms, for printed texts -/
section short
variable {P:Program} {N:Cfg} {Q:Post} {l:Fr} {L:Loc} {ops:Array Oper} {o:Oper} {rest:List Oper}
theorem Js {x y:Code} (h:∀ {K:Fr→Loc→Prop},(∀ {l L},JC P N y Q l L→K l L)→JC P N x (Q.seq K) l L):JC P N (.seq x y) Q l L:=G4 fun K hK=>h (hK _ _)
theorem Jr {id:Nat} {ops:List Oper} {y:Code} (h:∀ {K:Fr→Loc→Prop},(∀ {l L},JC P N y Q l L→K l L)→JL P N ops.toArray ops (Q.seq K) l L):JC P N (.seq (.region id ops.toArray false) y) Q l L:=G4 fun K hK=>G2 (h (hK _ _))
def Za1 (o:Oper):Bool:=match o.op with
 | .move _ | .assign _=>true
 | _=>false
def Za4 (l:Fr) (o:Oper):AV:=match o.op with
 | .move x | .assign x=>ev l x
 | _=>.junk
theorem A_mv (v:AV) (hm:Za1 o=true) (hx:Za4 l o=v):Gy P o l L (Is v L):=by
 intro a w β K R h0 hf hK
 unfold Za1 at hm
 unfold Za4 at hx
 subst hx
 cases ho:o.op <;> rw [ho] at hm <;> first | cases hm | skip
 all_goals
  unfold Oper.wp
  simp only [execOp,ho,Sem.run_pure]
  refine hK _ _ _ w β ⟨rfl,rfl⟩ h0 (Step.refl w β L) ?_
  rw [ho]
  exact hf.ev _
theorem JLm (v:AV) {d:Nat} (hd:o.dst=some d) (hk:JL P N ops rest Q ((d,v)::l) L) (hm:Za1 o=true:=by rfl) (hx:Za4 l o=v:=by rfl) (hg:o.guard=none:=by rfl) (hn:Nat.blt d N.n=true:=by rfl) (h0:G66 o=true:=by rfl):JL P N ops (o::rest) Q l L:=G0 (A_mv v hm hx) hk hg hd hn h0
theorem JCc {c:Operand} {x y:Code} {b:Bool} {β:Type} {A B R:β} (hc:ev l c=.sc (.bool b)) (h:(bif b then A else B)=R) (ht:A=R→b=true→JC P N x Q l L) (hf:B=R→b=false→JC P N y Q l L):JC P N (.cond c x y) Q l L:=
 Gp hc (fun e=>ht (by rw [← h,e]; rfl) e) (fun e=>hf (by rw [← h,e]; rfl) e)
end short

/-! ### The beginning and the end of a call -/
def H3c:Nat→List AV→Fr
 | _,[]=>[]
 | n,a::r=>(n,a)::H3c (n+1) r

theorem J5e:∀ (n:Nat) (aQ:List AV) (t:Nat),look (H3c n aQ) t=if n≤t then (aQ[t - n]?).getD .junk else .junk
 | n,[],t=>by simp [H3c,look]
 | n,a::r,t=>by
  by_cases e:n=t
  ·subst e; simp [H3c,look]
  ·have hb:Nat.beq n t=false:=by
    cases hb:Nat.beq n t with
    | false=>rfl
    | true=>exact absurd (Kx hb) e
   simp only [H3c,look,hb,cond_false,J5e (n+1) r t]
   by_cases h:n≤t
   ·rw [if_pos h,if_pos (by omega)]
    rw [show t - n=(t - (n+1))+1 by omega,List.getElem?_cons_succ]
   ·rw [if_neg h,if_neg (by omega)]

def Post.fin (F:Fr→Loc→Prop):Post:=⟨F,F,fun _ _ _=>False⟩

theorem Q5a {w:World} {D:Nat} {o o':Obj} (hD:w.heap[D]? = some o) (ho:(∀ vs t f,o≠.cells vs t f)∧∀ e n,o≠.map e n) (h0:(∀ vs t f,o'≠.cells vs t f)∧∀ e n,o'≠.map e n) (b i:Nat):G4b (w.putObj D o') b i=G4b w b i:=by
 by_cases e:b=D
 ·subst e
  unfold G4b R41 World.cell?
  simp only [World.putObj_heap_same (Ku hD).1,hD]
  cases o <;> cases o' <;> simp_all
 ·exact Q1 (w:=w) (World.putObj_heap_other e)
theorem Hc2 {w:World} {β:Gx} {L:Loc} {D B:Nat} {o o':Obj} (hD:w.heap[D]? = some o) (ho:(∀ vs t f,o≠.cells vs t f)∧∀ e n,o≠.map e n) (h0:(∀ vs t f,o'≠.cells vs t f)∧∀ e n,o'≠.map e n) (hL:∀ id,(lk L id).isSome=true→β id≠some D)
  (w0:World) (β0:Gx) (L0:Loc) (hB:w0.heap.size≤B) (h5:B≤D) (hs:Step w0 β0 L0 w β L):Step w0 β0 L0 (w.putObj D o') β L:=by
 have hx:∀ id b,(lk L id).isSome=true→β id=some b→(w.putObj D o').heap[b]? = w.heap[b]? := fun id b h1 h2=>World.putObj_heap_other fun e=>hL id h1 (by rw [h2,e])
 refine⟨hs.os,hs.tape,hs.output,by rw [World.putObj_size]; exact hs.size,hs.hid,fun b i h=>?_,fun b hb hf=>?_,hs.box,hs.map,hs.iter,fun id t k ver xs h=>?_,fun id t k ver hw h=>?_⟩
 ·obtain⟨h1,h2⟩:=hs.stab b i h
  exact⟨⟨by rw [World.putObj_size]; exact h1.lt,h1.seen,h1.kept⟩,(Q5a hD ho h0 _ _).trans h2⟩
 ·obtain⟨h1,h2⟩:=hs.far b hb hf
  exact⟨(World.putObj_heap_other (by omega)).trans h1,h2⟩
 ·obtain⟨v',xs',h1,h2,h3⟩:=hs.vec id t k ver xs h
  refine⟨v',xs',h1,h2,fun e=>?_⟩
  obtain⟨a1,a2,a3⟩:=h3 e
  refine⟨a1,a2,fun b hb=>?_⟩
  rw [← a3 b hb]
  have:=hx id b (by rw [h1]; rfl) (a2.trans hb)
  unfold World.shape?
  rw [this]
 ·obtain⟨v',h4,h1,h2,h3⟩:=hs.spare id t k ver hw h
  refine⟨v',h4,h1,h2,fun e=>?_⟩
  obtain⟨a1,a2,a3⟩:=h3 e
  exact⟨a1,a2,fun b hb=>(hx id b (by rw [h1]; rfl) (a2.trans hb)).trans (a3 b hb)⟩
theorem H0e {w:World} {β:Gx} {L:Loc} {D:Nat} {o o':Obj} (hD:w.heap[D]? = some o) (ho:(∀ vs t f,o≠.cells vs t f)∧∀ e n,o≠.map e n) (h0:(∀ vs t f,o'≠.cells vs t f)∧∀ e n,o'≠.map e n) (hL:∀ id,(lk L id).isSome=true→β id≠some D):Hf7 w β L (w.putObj D o') β L:=by
 have hx:∀ id b,(lk L id).isSome=true→β id=some b→(w.putObj D o').heap[b]? = w.heap[b]? := fun id b h1 h2=>World.putObj_heap_other fun e=>hL id h1 (by rw [h2,e])
 exact⟨fun b i h=>⟨⟨by rw [World.putObj_size]; exact h.lt,h.seen,h.kept⟩,Q5a hD ho h0 _ _⟩,fun _ _ cs h=>⟨rfl,cs,h⟩,fun _ _ es h=>⟨rfl,es,h⟩,fun _ _ n es h=>⟨rfl,n,es,h⟩,
  fun id _ _ ver xs h=>⟨ver,xs,h,Mb,fun _=>⟨rfl,rfl,fun b hb=>G23 (hx id b (by rw [h]; rfl) hb)⟩⟩,
  fun id _ _ ver hw h=>⟨ver,hw,h,Mb,fun _=>⟨rfl,rfl,fun b hb=>hx id b (by rw [h]; rfl) hb⟩⟩⟩
theorem J19 {w:World} {β:Gx} {L:Loc} {D:Nat} {o o':Obj} (hD:w.heap[D]? = some o) (ho:(∀ vs t f,o≠.cells vs t f)∧∀ e n,o≠.map e n) (h0:(∀ vs t f,o'≠.cells vs t f)∧∀ e n,o'≠.map e n) (hL:∀ id,(lk L id).isSome=true→β id≠some D)
  (h:Sat w β L):Sat (w.putObj D o') β L:=
 ⟨fun b i hh=>by rw [World.putObj_size]; exact h.hid b i hh,fun id b h1 h2=>by rw [World.putObj_size]; exact h.bnd id b h1 h2,h.apart,h.inj,
  fun id o hi=>(h.obj id o hi).stepW (H0e hD ho h0 hL) (fun b hb=>World.putObj_heap_other fun e=>hL id (by rw [hi]; rfl) (by rw [hb,e]))⟩

theorem R6.leaves {F:Fence} {n:Nat} {P:Program} {fn:Func} {R:Ending→World→Prop} {N:Cfg} {w0:World} {β0 β:Gx} {L0 L:Loc} {l:Fr} {tmps:Array Value} :
  ∀ {ds:List Deferred} {w:World},R6 N w0 β0 L0 { tmps:=tmps,defers:=ds } w β l L→(∀ w'',R6 N w0 β0 L0 { tmps:=tmps,defers:=[] } w'' β l L→LeavesIn F n P fn tmps R [] .returning w'')→LeavesInM F n P fn tmps R ds .returning w
 | [],w,hs,h=>h w hs
 | d::ds,w,hs,h=>by
  obtain⟨D,rfl,hB,hD,hL⟩:=hs.defers.each d (List.mem_cons_self ..)
  refine⟨by simp,.inl ⟨D,w.putObj D (.deferred none),rfl,run_takeDeferred hD,R6.leaves ?_ h⟩⟩
  have hn:=List.nodup_cons.1 hs.defers.nodup
  refine⟨J19 hD (by simp) (by simp) hL hs.sat,Hc2 hD (by simp) (by simp) hL w0 β0 L0 (Mb) hB hs.step,⟨fun t=>(hs.frame.tmp t).stepW (H0e hD (by simp) (by simp) hL)⟩,hs.size,hs.base,fun h=>(by have:=hs.defers.top h; cases this),hn.2,fun d' h0=>?_⟩
  obtain⟨D',rfl,h1,h2,h3⟩:=hs.defers.each d' (List.mem_cons_of_mem _ h0)
  exact⟨D',rfl,h1,(World.putObj_heap_other (fun e=>hn.1 (by rw [← e]; exact h0))).trans h2,h3⟩
theorem J25 {P:Program} {f:FuncId} {fn:Func} {c:Code} {args:List AV} {L0:Loc} {R:AV→Loc→Prop} {base:List Nat} {F:Fr→Loc→Prop} (hf:P.funcs[f]? = some fn) (hb:fn.body=some c)
  (h0:∀ id,(lk L0 id).isSome=true→id∈base)
  (hF:∀ w0 β0 a w β l L,R6 ⟨fn.ntmps,base,none⟩ w0 β0 L0 a w β l L→F l L→∃ v r L',(results fn a.tmps).run P w=.ok v w∧Sat w β L'∧Step w0 β0 L0 w β L'∧V w β L' r v∧R r L')
  (h:JC P ⟨fn.ntmps,base,none⟩ c (.fin F) (H3c 0 args) L0):Hx P f args L0 R:=by
 intro w β vs h6 hl hv
 refine callsIn_wide.1 (callsIn_of_wp_marks (F:=Fence.wide) (n:=0) hf hb trivial (Code.wpIn_mono (fun e a' w' q=>?_) (h 0 w β L0 _ w β ⟨h6,Step.refl _ _ _,⟨fun t=>?_⟩,?_,h0,.nil⟩)))
 ·have fin:(∃ β' l' L',R6 ⟨fn.ntmps,base,none⟩ w β L0 a' w' β' l' L'∧F l' L')→LeavesInM Fence.wide 0 P fn a'.tmps (fun e w'=>∃ v r β' L',e=.returned v∧Sat w' β' L'∧Step w β L0 w' β' L'∧V w' β' L' r v∧R r L') a'.defers .returning w':=by
   rintro⟨β',l',L',hs,hq⟩
   refine R6.leaves (tmps:=a'.tmps) (ds:=a'.defers) hs fun w'' h7=>?_
   obtain⟨v,r,L'',h1,h2,h3,h4,h5⟩:=hF w β _ w'' β' l' L' h7 hq
   exact⟨v,h1,v,r,β',L'',rfl,h2,h3,h4,h5⟩
  cases e with
  | normal=>exact fin q
  | ret=>exact fin q
  | exit i=>obtain⟨_,_,_,_,hq⟩:=q; exact hq.elim
  | goto l=>exact q.elim
  | panic c=>exact q.elim
  | outgrown=>exact q.elim
 ·rw [J5e]
  simp only [Nat.zero_le,if_true,Nat.sub_zero]
  cases hu:args[t]? with
  | none=>exact .junk
  | some u=>
   have ht:t < vs.size:=by
    rcases Kz t args.length with h | h
    ·omega
    ·simp [List.getElem?_eq_none h] at hu
   have e:(vs++Array.replicate (fn.ntmps - vs.size) undef).getD t undef=vs[t]:=by
    rw [Array.getD_eq_getD_getElem?,Array.getElem?_append_left ht]; simp [ht]
   rw [e]
   exact hv t u _ hu (by simp [ht])
 ·simp; omega

end Go.Proofs.YtgcpimpnpcdmmaaGreat
