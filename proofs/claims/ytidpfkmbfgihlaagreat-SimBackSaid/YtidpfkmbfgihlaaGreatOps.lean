/-
 What each operation does to an abstract state: moves,tests,sums,loads,stores,new variables.
-/
import Derived.Test.YtidpfkmbfgihlaaGreatCore
namespace Go.Proofs.YtidpfkmbfgihlaaGreat
open Go.RowKit

/-! ### Reading off what a value can be -/
section inv
variable {w:World} {β:H4} {L:Loc}

theorem V.inv_dptr {cs:List AV} {x:Value} (h:V w β L (.dptr cs) x):D w (Jt w β L) (.dptr cs) x:=by
 cases h with | data h=>exact h
theorem V.inv_list {k:Nat} {xs:List AV} {x:Value} (h:V w β L (.list k xs) x):D w (Jt w β L) (.list k xs) x:=by
 cases h with | data h=>exact h
theorem V.inv_ptr {i off:Nat} {x:Value} (h:V w β L (.ptr i off) x):∃ b,β i=some b∧x=.pointer (some ⟨b,off,none⟩):=by
 cases h with
 | data h=>cases h
 | ptr hi h=>exact⟨_,h,rfl⟩
theorem V.inv_mp {i:Nat} {x:Value} (h:V w β L (.mp i) x):∃ b,β i=some b∧x=.map (some b):=by
 cases h with
 | data h=>cases h
 | mp hi h=>exact⟨_,h,rfl⟩
theorem V.inv_agg {cs:List AV} {x:Value} (h:V w β L (.agg cs) x):∃ vs:Array Value,x=.agg vs∧vs.size=cs.length∧∀ (j:Nat) u v,cs[j]? = some u→vs[j]? = some v→V w β L u v:=by
 cases h with
 | data h=>cases h with | agg hl h=>exact⟨_,rfl,hl,fun j u v hu hv=>.data (h j u v hu hv)⟩
 | agg hl h=>exact⟨_,rfl,hl,h⟩
theorem V.inv_tup {cs:List AV} {x:Value} (h:V w β L (.tup cs) x):∃ vs:Array Value,x=.tuple vs∧vs.size=cs.length∧∀ (j:Nat) u v,cs[j]? = some u→vs[j]? = some v→V w β L u v:=by
 cases h with
 | data h=>cases h with | tup hl h=>exact⟨_,rfl,hl,fun j u v hu hv=>.data (h j u v hu hv)⟩
 | tup hl h=>exact⟨_,rfl,hl,h⟩
theorem V.inv_fn {f:FuncId} {cs:List AV} {x:Value} (h:V w β L (.fn f cs) x):∃ vs:Array Value,x=.func (.func f) #[] vs∧vs.size=cs.length∧∀ (j:Nat) u v,cs[j]? = some u→vs[j]? = some v→V w β L u v:=by
 cases h with
 | data h=>cases h with | fn hl h=>exact⟨_,rfl,hl,fun j u v hu hv=>.data (h j u v hu hv)⟩
 | fn hl h=>exact⟨_,rfl,hl,h⟩
theorem V.inv_opt {x:AV} {v:Value} (h:V w β L (.opt true x) v):V w β L x v:=by
 cases h with
 | data h=>cases h with | opt h=>exact .data (h rfl)
 | opt h=>exact h rfl
theorem V.inv_opt0 {x:AV} {v:Value} (h:V w β L (.opt false x) v):v=undef:=by
 cases h with
 | data h=>cases h with | opt _ h=>exact h rfl
 | opt _ h=>exact h rfl

theorem V.cell {u:AV} {v:Value} (h:V w β L u v) (hc:u.isCell=true):v.oneCell'=true:=by
 cases h with
 | data h=>cases h <;> first | rfl | (simp [AV.isCell] at hc; done) | exact hc
 | own hd _=>cases hd <;> rfl
 | vec _ hv=>exact hv
 | vptr _ hv=>exact hv
 | vsl _ hv=>exact hv
 | vcap _ hv=>exact hv
 | nst _ _ _ _ _ _ hv=>exact hv
 | nptr _ _ _ _ _ _ hv=>exact hv
 | _=>first | rfl | (simp [AV.isCell] at hc; done)

def AV.flatOk (u:AV):Bool:=u.cells.all AV.isCell

theorem V.cells {u:AV} {v:Value} (h:V w β L u v) (hc:u.flatOk=true) :
  v.cells.size=u.cells.length∧(∀ (j:Nat) a b,u.cells[j]? = some a→v.cells[j]? = some b→V w β L a b)∧∀ b∈v.cells.toList,b.oneCell'=true:=by
 have one:∀ (u:AV) (v:Value),V w β L u v→u.isCell=true→u.cells=[u] →
   v.cells.size=u.cells.length∧(∀ (j:Nat) a b,u.cells[j]? = some a→v.cells[j]? = some b→V w β L a b)∧∀ b∈v.cells.toList,b.oneCell'=true:=by
  intro u v hv hu he
  have h1:=hv.cell hu
  have h2:v.cells=#[v]:=by cases v <;> first | rfl | simp [Value.oneCell'] at h1
  rw [h2,he]
  refine⟨rfl,fun j a b ha hb=>?_,fun b hb=>by simp at hb; subst hb; exact h1⟩
  cases j with
  | zero=>simp at ha hb; subst ha; subst hb; exact hv
  | succ j=>simp at ha
 by_cases hagg:∃ cs,u=.agg cs
 ·obtain⟨cs,rfl⟩:=hagg
  obtain⟨vs,rfl,hl,hh⟩:=h.inv_agg
  refine⟨hl,hh,fun b hb=>?_⟩
  obtain⟨j,hj,e⟩:=List.mem_iff_getElem.1 hb
  have hj':j < vs.size:=by simpa [Value.cells] using hj
  have hj2:j < cs.length:=by omega
  have hv:=hh j cs[j] vs[j] (by simp [hj2]) (by simp [hj'])
  have hcc:cs[j].isCell=true:=by
   simp only [AV.flatOk,AV.cells,List.all_eq_true] at hc
   exact hc _ (List.getElem_mem hj2)
  have:=hv.cell hcc
  simp only [Value.cells,Array.getElem_toList] at e
  rw [← e]; exact this
 ·have he:u.cells=[u]:=by cases u <;> first | rfl | exact absurd ⟨_,rfl⟩ hagg
  refine one u v h ?_ he
  simpa [AV.flatOk,he] using hc
end inv

/-! ### Facts on types, asked of the program by the kernel -/
def Jj (P:Program) (T f off:Nat):Bool:=
 match P.underlying T with
 | some (.struct fs)=>match fs[f]? with
  | some fld=>fld.offset==off&&(match P.info? fld.type with | some i=>i.size != 0 | none=>false)
  | none=>false
 | _=>false
def Y4 (P:Program) (T:Nat):Bool:=
 match P.underlying T with
 | some (.struct _) | some (.array _ _) | none=>false
 | _=>true
def Gf2 (P:Program) (T k:Nat):Bool:=
 (match P.underlying T with
 | some (.struct _) | some (.array _ _)=>true
 | _=>false)&&(match P.info? T with | some i=>i.size==k | none=>false)
def Yt (P:Program) (T k:Nat):Bool:=match P.info? T with | some i=>i.size==k | none=>false
def Ja4 (P:Program) (T:Nat) (k:IntKind):Bool:=match P.underlying T with | some (.int k')=>decide (k'=k) | _=>false
def sliceB (P:Program) (T E k:Nat):Bool:=(match P.underlying T with | some (.slice e)=>e==E | _=>false)&&Yt P E k
def Y1 (P:Program) (T k:Nat):Bool:=match P.info? T with | some i=>(match i.zero with | some z=>z.cells.size==k | none=>false) | none=>false
def Z5 (P:Program) (E k by_:Nat):Bool:=match P.info? E with | some i=>i.size==k&&i.bytes==by_&&(match i.zero with | some z=>z.cells.size==k | none=>false)&&decide (0 < k) | none=>false
def H7 (P : Program) (f : FuncId) : Bool := match P.funcs[f]? with | some fn => !(fn.name == "runtime.NumGoroutine") && fn.body.isSome | none => false
def Q1f (P:Program) (T:Nat):Bool:=match P.underlying T with | some .bool=>true | _=>false
def Y78 (P:Program) (T:Nat):Bool:=match P.underlying T with | some .string=>true | _=>false

section facts
variable {P:Program}
theorem Yt.out {T k:Nat} (h:Yt P T k=true):∃ i,P.info? T=some i∧i.size=k:=by
 unfold Yt at h; split at h
 ·exact⟨_,‹_›,by simpa using h⟩
 ·cases h
theorem Qe {T k:Nat} (h:Yt P T k=true) (w:World):(sizeOf T).run P w=.ok k w:=by
 obtain⟨i,hi,rfl⟩:=Yt.out h
 simp [sizeOf,typeInfo,hi]
theorem Gf2.size {T k:Nat} (h:Gf2 P T k=true):Yt P T k=true:=by
 simp only [Gf2,Bool.and_eq_true] at h
 exact h.2
theorem J18 {T k:Nat} (h:Gf2 P T k=true) (w:World):(isAgg T).run P w=.ok true w:=by
 simp only [Gf2,Bool.and_eq_true] at h
 have h1:=h.1
 split at h1
 ·simp [isAgg,underlying,‹P.underlying T=_›]
 ·simp [isAgg,underlying,‹P.underlying T=_›]
 ·cases h1
theorem H3c {T:Nat} (h:Y4 P T=true) (w:World):(isAgg T).run P w=.ok false w:=by
 unfold Y4 at h
 split at h
 ·cases h
 ·cases h
 ·cases h
 ·rename_i h1 h2 h3
  cases hu:P.underlying T with
  | none=>exact absurd hu h3
  | some d=>cases d <;> first | (simp [isAgg,underlying,hu]; done) | exact absurd hu (h1 _) | exact absurd hu (h2 _ _)
theorem Ja4.out {T:Nat} {k:IntKind} (h:Ja4 P T k=true):P.underlying T=some (.int k):=by
 unfold Ja4 at h; split at h
 ·rename_i k' hk; have:=of_decide_eq_true h; subst this; exact hk
 ·cases h
theorem Q1f.out {T:Nat} (h:Q1f P T=true):P.underlying T=some .bool:=by
 unfold Q1f at h; split at h
 ·assumption
 ·cases h
theorem Y78.out {T:Nat} (h:Y78 P T=true):P.underlying T=some .string:=by
 unfold Y78 at h; split at h
 ·assumption
 ·cases h
theorem sliceB.out {T E k:Nat} (h:sliceB P T E k=true):P.underlying T=some (.slice E)∧Yt P E k=true:=by
 simp only [sliceB,Bool.and_eq_true] at h
 refine⟨?_,h.2⟩
 have:=h.1
 split at this
 ·rename_i e he; simp at this; subst this; exact he
 ·cases this
theorem Z5.out {E k b:Nat} (h:Z5 P E k b=true):∃ i z,P.info? E=some i∧i.size=k∧i.bytes=b∧i.zero=some z∧z.cells.size=k∧0 < k:=by
 unfold Z5 at h
 split at h
 ·rename_i i hi
  simp only [Bool.and_eq_true,beq_iff_eq,decide_eq_true_eq] at h
  obtain⟨⟨⟨h1,h2⟩,h3⟩,h4⟩:=h
  split at h3
  ·rename_i z hz; exact⟨i,z,hi,h1,h2,hz,by simpa using h3,h4⟩
  ·cases h3
 ·cases h
theorem Jj.out {T f off:Nat} (h:Jj P T f off=true):∃ fs fld i,P.underlying T=some (.struct fs)∧fs[f]? = some fld∧fld.offset=off∧P.info? fld.type=some i∧i.size≠0:=by
 unfold Jj at h
 split at h
 ·rename_i fs hfs
  split at h
  ·rename_i fld hfld
   simp only [Bool.and_eq_true,beq_iff_eq] at h
   obtain⟨h1,h2⟩:=h
   split at h2
   ·rename_i i hi; exact⟨fs,fld,i,hfs,hfld,h1,hi,by simpa using h2⟩
   ·cases h2
  ·cases h
 ·cases h
theorem J19 {T f off b o:Nat} (h:Jj P T f off=true) (w:World):(Instr.fieldAt T (.pointer (some ⟨b,o,none⟩)) f).run P w=.ok (.pointer (some ⟨b,o+off,none⟩)) w:=by
 obtain⟨fs,fld,i,h1,h2,rfl,h3,h4⟩:=Jj.out h
 simp [Instr.fieldAt,underlying,h1,h2,Instr.sureAddr,fieldPlace,sizeOf,typeInfo,h3,h4,Addr.add_lit]
end facts

/-! ### Operations that leave the world alone -/
section pure_
variable {P:Program} {o:Oper} {l:Fr} {L:Loc} {u:AV}

theorem Hi (h:∀ (a:Act) (w:World) (β:H4),Sat w β L→Q8 a w β L l→∃ v,(execOp a.eval o).run P w=.ok (.value v) w∧V w β L u v):H0 P o l L (Is u L):=by
 intro a w β K Q hsat hf hK
 obtain⟨v,hr,hv⟩:=h a w β hsat hf
 unfold Oper.wp
 rw [hr]
 exact hK u L v w β ⟨rfl,rfl⟩ hsat (Step.refl _ _ _) hv

theorem G6 {x:Operand} (ho:o.op=.move x:=by rfl) (hx:ev l x=u:=by rfl):H0 P o l L (Is u L):=
 Hi fun a w β _ hf=>⟨a.eval x,by simp [execOp,ho],hx ▸ hf.ev x⟩
theorem G7 {x:Operand} (ho:o.op=.assign x:=by rfl) (hx:ev l x=u:=by rfl):H0 P o l L (Is u L):=
 Hi fun a w β _ hf=>⟨a.eval x,by simp [execOp,ho],hx ▸ hf.ev x⟩
theorem Hk {x:Operand} (k:Nat) (ho:o.op=.assign x:=by rfl) (hx:ev l x=.sc (.slice none 0 0):=by rfl):H0 P o l L (Is (.list k []) L):=
 Hi fun a w β _ hf=>⟨a.eval x,by simp [execOp,ho],by
  have h:=hf.ev x
  rw [hx] at h
  rw [h.inv_sc]
  exact .data (.nil (Nat.zero_le _))⟩
theorem G28 {c x y:Operand} {b d:Bool} (ho:o.op=.pick c x y:=by rfl) (hc:ev l c=.sc (.bool b):=by rfl) (hx:ev l x=.sc (.bool true):=by rfl) (hy:ev l y=.opt (!b) (.sc (.bool d)):=by rfl) :
  H0 P o l L (Is (.sc (.bool (b||d))) L):=
 Hi fun a w β _ hf=>by
  have h:=hf.ev c
  have h1:=hf.ev x
  have h2:=hf.ev y
  rw [hc] at h
  rw [hx] at h1
  rw [hy] at h2
  have hb:=h.inv_sc
  have h1':=h1.inv_sc
  cases b
  ·have h2':=(V.inv_opt h2).inv_sc
   exact⟨.bool d,by simp [execOp,ho,hb,asBool,h2'],.sc⟩
  ·exact⟨.bool true,by simp [execOp,ho,hb,asBool,h1'],.sc⟩
theorem Rm {c x y:Operand} {b d:Bool} (ho:o.op=.pick c x y:=by rfl) (hc:ev l c=.sc (.bool b):=by rfl) (hx:ev l x=.opt b (.sc (.bool d)):=by rfl) (hy:ev l y=.sc (.bool false):=by rfl) :
  H0 P o l L (Is (.sc (.bool (b&&d))) L):=
 Hi fun a w β _ hf=>by
  have h:=hf.ev c
  have h1:=hf.ev x
  have h2:=hf.ev y
  rw [hc] at h
  rw [hx] at h1
  rw [hy] at h2
  have hb:=h.inv_sc
  have h2':=h2.inv_sc
  cases b
  ·exact⟨.bool false,by simp [execOp,ho,hb,asBool,h2'],.sc⟩
  ·have h1':=(V.inv_opt h1).inv_sc
   exact⟨.bool d,by simp [execOp,ho,hb,asBool,h1'],.sc⟩

/-! arithmetic -/
theorem H88 {x y:Operand} {T T':TypeId} {op:BinOp} {p q r:Value} (hr:∀ (P:Program) (w:World),(do eqGuard op T x y p q; binOp op T p q).run P w=.ok r w) (hx:ev l x=.sc p) (hy:ev l y=.sc q) (ho:o.op=.binOp op T x y T'):H0 P o l L (Is (.sc r) L):=
 Hi fun a w β _ hf=>by
  have h1:=hf.ev x
  have h2:=hf.ev y
  rw [hx] at h1
  rw [hy] at h2
  refine⟨r,?_,.sc⟩
  have:=hr P w
  simp only [execOp,ho,h1.inv_sc,h2.inv_sc]
  rw [Sem.run_bind,this]
  rfl

section arith
variable {x y:Operand} {T T':TypeId} {k:IntKind} {m n:Int}
theorem Jf {z:Int} (hz:k.wrap (m+n)=z) (ho:o.op=.binOp .add T x y T':=by rfl) (hx:ev l x=.sc (.int k m):=by rfl) (hy:ev l y=.sc (.int k n):=by rfl):H0 P o l L (Is (.sc (.int k z)) L):=
 H88 (fun P w=>by subst hz; simp [eqGuard,binOp,Op.intArith]) hx hy ho
theorem H49 {z:Int} (hz:k.wrap (m - n)=z) (ho:o.op=.binOp .sub T x y T':=by rfl) (hx:ev l x=.sc (.int k m):=by rfl) (hy:ev l y=.sc (.int k n):=by rfl):H0 P o l L (Is (.sc (.int k z)) L):=
 H88 (fun P w=>by subst hz; simp [eqGuard,binOp,Op.intArith]) hx hy ho
theorem Jc2 {z:Int} (hz:k.wrap (m*n)=z) (ho:o.op=.binOp .mul T x y T':=by rfl) (hx:ev l x=.sc (.int k m):=by rfl) (hy:ev l y=.sc (.int k n):=by rfl):H0 P o l L (Is (.sc (.int k z)) L):=
 H88 (fun P w=>by subst hz; simp [eqGuard,binOp,Op.intArith]) hx hy ho
theorem H02 {z:Int} (h0:n≠0) (hz:m.tmod n=z) (ho:o.op=.binOp .rem T x y T':=by rfl) (hx:ev l x=.sc (.int k m):=by rfl) (hy:ev l y=.sc (.int k n):=by rfl):H0 P o l L (Is (.sc (.int k z)) L):=
 H88 (fun P w=>by subst hz; simp [eqGuard,binOp,Op.intDiv,h0]) hx hy ho
theorem Qg (ho:o.op=.binOp .lss T x y T':=by rfl) (hx:ev l x=.sc (.int k m):=by rfl) (hy:ev l y=.sc (.int k n):=by rfl):H0 P o l L (Is (.sc (.bool (decide (m < n)))) L):=
 H88 (fun P w=>by simp [eqGuard,binOp,Op.intCmp]) hx hy ho
theorem J06 (ho:o.op=.binOp .leq T x y T':=by rfl) (hx:ev l x=.sc (.int k m):=by rfl) (hy:ev l y=.sc (.int k n):=by rfl):H0 P o l L (Is (.sc (.bool (decide (m≤n)))) L):=
 H88 (fun P w=>by simp [eqGuard,binOp,Op.intCmp]) hx hy ho
theorem Gb9 (ho:o.op=.binOp .gtr T x y T':=by rfl) (hx:ev l x=.sc (.int k m):=by rfl) (hy:ev l y=.sc (.int k n):=by rfl):H0 P o l L (Is (.sc (.bool (decide (n < m)))) L):=
 H88 (fun P w=>by simp [eqGuard,binOp,Op.intCmp]) hx hy ho
theorem Gfb (ho:o.op=.binOp .geq T x y T':=by rfl) (hx:ev l x=.sc (.int k m):=by rfl) (hy:ev l y=.sc (.int k n):=by rfl):H0 P o l L (Is (.sc (.bool (decide (n≤m)))) L):=
 H88 (fun P w=>by simp [eqGuard,binOp,Op.intCmp]) hx hy ho
theorem Q0 (ho:o.op=.binOp .eql T x y T':=by rfl) (hx:ev l x=.sc (.int k m):=by rfl) (hy:ev l y=.sc (.int k n):=by rfl):H0 P o l L (Is (.sc (.bool (decide (m=n)))) L):=
 H88 (fun P w=>by simp [eqGuard,binOp,Op.intCmp]; by_cases e:m=n <;> simp [e]) hx hy ho
theorem Ge8 (ho:o.op=.binOp .neq T x y T':=by rfl) (hx:ev l x=.sc (.int k m):=by rfl) (hy:ev l y=.sc (.int k n):=by rfl):H0 P o l L (Is (.sc (.bool (decide (m≠n)))) L):=
 H88 (fun P w=>by simp [eqGuard,binOp,Op.intCmp]; by_cases e:m=n <;> simp [e]) hx hy ho
theorem Qx {b:Bool} (ho:o.op=.unOp .not T x:=by rfl) (hx:ev l x=.sc (.bool b):=by rfl):H0 P o l L (Is (.sc (.bool (!b))) L):=
 Hi fun a w β _ hf=>by
  have h1:=hf.ev x
  rw [hx] at h1
  exact⟨.bool (!b),by simp [execOp,ho,h1.inv_sc,Op.unary],.sc⟩
theorem G6a {k':IntKind} {z:Int} (hT:Ja4 P T' k'=true) (hS:Ja4 P T k=true) (hz:k'.wrap m=z) (ho:o.op=.convert T T' x:=by rfl) (hx:ev l x=.sc (.int k m):=by rfl):H0 P o l L (Is (.sc (.int k' z)) L):=
 Hi fun a w β _ hf=>by
  have h1:=hf.ev x
  rw [hx] at h1
  exact⟨.int k' z,by subst hz; simp [execOp,ho,h1.inv_sc,convert,underlying,Ja4.out hT,Ja4.out hS,Conv.intToInt],.sc⟩
end arith

/-! addresses and loads -/
theorem Yee {x:Operand} {T f off:Nat} {cs:List AV} (hT:Jj P T f off=true) (ho:o.op=.fieldAddr T x f:=by rfl) (hx:ev l x=.dptr cs:=by rfl):H0 P o l L (Is (.dptr (cs.drop off)) L):=
 Hi fun a w β _ hf=>by
  have h1:=hf.ev x
  rw [hx] at h1
  have h2:=h1.inv_dptr
  obtain⟨ax,hax⟩:∃ ax,a.eval x=ax:=⟨_,rfl⟩
  rw [hax] at h2
  cases h2 with
  | dptr vals hS h=>
   rename_i b o'
   refine⟨.pointer (some ⟨b,o'+off,none⟩),by simp [execOp,ho,hax,J19 hT],.data (.dptr (fun j=>vals (off+j)) (fun j hj=>?_) (fun j u hu=>?_))⟩
   ·simp only [List.length_drop] at hj
    have:=hS (off+j) (by omega)
    rw [Nat.add_assoc]; exact this
   ·rw [List.getElem?_drop] at hu
    exact h _ _ hu
theorem Hh {x:Operand} {T f off i o':Nat} (hT:Jj P T f off=true) (ho:o.op=.fieldAddr T x f:=by rfl) (hx:ev l x=.ptr i o':=by rfl):H0 P o l L (Is (.ptr i (o'+off)) L):=
 Hi fun a w β _ hf=>by
  have h1:=hf.ev x
  rw [hx] at h1
  obtain⟨ax,hax⟩:∃ ax,a.eval x=ax:=⟨_,rfl⟩
  rw [hax] at h1
  cases h1 with
  | data h=>cases h
  | ptr hi h=>exact⟨_,by simp only [execOp,ho,hax,Sem.run_bind,J19 hT]; rfl,.ptr hi h⟩

theorem Gbd {T b o':Nat} {v:Value} (hT:Y4 P T=true) {w:World} (h:w.cell? ⟨b,o',none⟩=some v):(Instr.loadAt T (.pointer (some ⟨b,o',none⟩))).run P w=.ok v w:=by
 simp [Instr.loadAt,Instr.sureAddr,loadVar,H3c hT,h]

theorem Gef {T k b o':Nat} {vs:List Value} (hT:Gf2 P T k=true) (hl:vs.length=k) {w:World} (h:∀ (j:Nat) v,vs[j]? = some v→w.cell? ⟨b,o'+j,none⟩=some v) :
  (Instr.loadAt T (.pointer (some ⟨b,o',none⟩))).run P w=.ok (.agg vs.toArray) w:=by
 subst hl
 have:=run_loadCells_list (P:=P) w ⟨b,o',none⟩ vs (fun j v hv=>by rw [Addr.add_lit]; exact h j v hv)
 simp [Instr.loadAt,Instr.sureAddr,loadVar,J18 hT,Qe (Gf2.size hT),this]

theorem Gg {x:Operand} {T:Nat} {cs:List AV} (hT:Y4 P T=true) (ho:o.op=.load T x:=by rfl) (hx:ev l x=.dptr cs:=by rfl) (h0:cs[0]? = some u:=by rfl):H0 P o l L (Is u L):=
 Hi fun a w β _ hf=>by
  have h1:=hf.ev x
  rw [hx] at h1
  have h2:=h1.inv_dptr
  obtain⟨ax,hax⟩:∃ ax,a.eval x=ax:=⟨_,rfl⟩
  rw [hax] at h2
  cases h2 with
  | dptr vals hS h=>
   have hlt:0 < cs.length:=by
    cases cs with
    | nil=>simp at h0
    | cons=>simp
   have hc:=(hS 0 hlt).2
   simp only [Nat.add_zero] at hc
   exact⟨vals 0,by simp [execOp,ho,hax,Gbd hT hc],.data (h 0 u h0)⟩
def takeN:Nat→List AV→Option (List AV)
 | 0,_=>some []
 | _+1,[]=>none
 | n+1,c::r=>match takeN n r with
  | some s=>some (c::s)
  | none=>none
theorem J90:∀ {k:Nat} {cs ds:List AV},takeN k cs=some ds→ds=cs.take k∧k≤cs.length
 | 0,cs,ds,h=>by simp [takeN] at h; subst h; simp
 | k+1,[],ds,h=>by simp [takeN] at h
 | k+1,c::r,ds,h=>by
  simp only [takeN] at h
  cases hr:takeN k r with
  | none=>rw [hr] at h; cases h
  | some s=>
   rw [hr] at h
   simp at h; subst h
   obtain⟨h1,h2⟩:=J90 hr
   subst h1
   exact⟨rfl,by simpa using h2⟩

theorem Gi {x:Operand} {T k:Nat} {cs ds:List AV} (hT:Gf2 P T k=true) (ho:o.op=.load T x:=by rfl) (hx:ev l x=.dptr cs:=by rfl) (hds:takeN k cs=some ds:=by rfl):H0 P o l L (Is (.agg ds) L):=
 Hi fun a w β _ hf=>by
  have h1:=hf.ev x
  rw [hx] at h1
  have h2:=h1.inv_dptr
  obtain⟨rfl,hk'⟩:=J90 hds
  obtain⟨ax,hax⟩:∃ ax,a.eval x=ax:=⟨_,rfl⟩
  rw [hax] at h2
  cases h2 with
  | dptr vals hS h=>
   rename_i b o'
   refine⟨.agg ((List.range k).map vals).toArray,?_,.data (.agg (by simp; omega) (fun j u v hu hv=>?_))⟩
   ·have:=Gef (P:=P) (b:=b) (o':=o') (vs:=(List.range k).map vals) hT (by simp) (w:=w) (fun j v hv=>by
     have hj:j < k:=by
      rcases Nat.lt_or_ge j k with h | h
      ·exact h
      ·simp [List.getElem?_eq_none (show ((List.range k).map vals).length≤j by simpa using h)] at hv
     simp [hj] at hv
     rw [← hv]
     exact(hS j (by omega)).2)
    simp [execOp,ho,hax,this]
   ·have hj:j < k:=by
     rcases Nat.lt_or_ge j k with h | h
     ·exact h
     ·simp [List.getElem?_take,Nat.not_lt.2 h] at hu
    simp [hj] at hv
    rw [List.getElem?_take,if_pos hj] at hu
    rw [← hv]
    exact h j u hu

theorem J27 {w:World} {β:H4} {i b:Nat} {t:TypeId} {cs:List AV} (hsat:Sat w β L) (hi:lk L i=some (.box t cs)) (hb:β i=some b) :
  ∃ vs:Array Value,w.heap[b]? = some (.cells vs t (0,0))∧vs.size=cs.length∧∀ (j:Nat) u v,cs[j]? = some u→vs[j]? = some v→V w β L u v:=by
 obtain⟨b',hb',h⟩:=hsat.obj i _ hi
 rw [hb] at hb'; cases hb'
 exact h

theorem Hx {x:Operand} {T i off:Nat} {t:TypeId} {cs:List AV} (hT:Y4 P T=true) (ho:o.op=.load T x:=by rfl) (hx:ev l x=.ptr i off:=by rfl) (hi:lk L i=some (.box t cs):=by rfl) (h0:cs[off]? = some u:=by rfl):H0 P o l L (Is u L):=
 Hi fun a w β hsat hf=>by
  have h1:=hf.ev x
  rw [hx] at h1
  obtain⟨b,hb,hax⟩:=h1.inv_ptr
  obtain⟨vs,hv1,hv2,hv3⟩:=J27 hsat hi hb
  have hoff:off < vs.size:=by
   rw [hv2]
   rcases Nat.lt_or_ge off cs.length with h | h
   ·exact h
   ·simp [List.getElem?_eq_none h] at h0
  have hc:w.cell? ⟨b,off,none⟩=some vs[off]:=by rw [cell_of_row w b off vs t (0,0) hv1]; simp [hoff]
  exact⟨vs[off],by simp [execOp,ho,hax,Gbd hT hc],hv3 off u _ h0 (by simp [hoff])⟩
theorem Ga3 {x:Operand} {T k i off:Nat} {t:TypeId} {cs ds:List AV} (hT:Gf2 P T k=true) (ho:o.op=.load T x:=by rfl) (hx:ev l x=.ptr i off:=by rfl) (hi:lk L i=some (.box t cs):=by rfl) (hds:takeN k (cs.drop off)=some ds:=by rfl) :
  H0 P o l L (Is (.agg ds) L):=
 Hi fun a w β hsat hf=>by
  have h1:=hf.ev x
  rw [hx] at h1
  obtain⟨rfl,hk0⟩:=J90 hds
  obtain⟨b,hb,hax⟩:=h1.inv_ptr
  obtain⟨vs,hv1,hv2,hv3⟩:=J27 hsat hi hb
  refine⟨.agg ((vs.toList.drop off).take k).toArray,?_,.agg (by simp at hk0 ⊢; omega) (fun j u v hu hv=>?_)⟩
  ·have:=Gef (P:=P) (b:=b) (o':=off) (vs:=(vs.toList.drop off).take k) hT (by simp at hk0 ⊢; omega) (w:=w) (fun j v hv=>by
    rw [cell_of_row w b (off+j) vs t (0,0) hv1]
    have hj:j < k:=by
     rcases Nat.lt_or_ge j k with h | h
     ·exact h
     ·simp [List.getElem?_take,Nat.not_lt.2 h] at hv
    rw [List.getElem?_take,if_pos hj,List.getElem?_drop] at hv
    simpa using hv)
   simp [execOp,ho,hax,this]
  ·have hj:j < k:=by
    rcases Nat.lt_or_ge j k with h | h
    ·exact h
    ·simp [List.getElem?_take,Nat.not_lt.2 h] at hu
   rw [List.getElem?_take,if_pos hj,List.getElem?_drop] at hu
   refine hv3 (off+j) u v hu ?_
   simpa [List.getElem?_take,hj,List.getElem?_drop] using hv
end pure_
end Go.Proofs.YtidpfkmbfgihlaaGreat
