/-
 What each operation does to an abstract state: What operations do to an abstract state:
-/
import Derived.Test.YtibhpogonkdiaaaGreatCore
set_option linter.unusedVariables false
set_option linter.unusedSimpArgs false
set_option linter.unnecessarySimpa false
namespace Go.Proofs.YtibhpogonkdiaaaGreat
open Go.RowKit

/-! ### Reading off what a value can be -/
section inv
variable {w:World} {β:Gu} {L:Loc}

theorem V.inv_dptr {cs:List AV} {x:Value} (h:V w β L (.dptr cs) x):D w (Hv w β L) (.dptr cs) x:=by
 cases h with | data h=>exact h
theorem V.inv_list {k:Nat} {xs:List AV} {x:Value} (h:V w β L (.list k xs) x):D w (Hv w β L) (.list k xs) x:=by
 cases h with | data h=>exact h
theorem V.inv_ptr {i off:Nat} {x:Value} (h:V w β L (.ptr i off) x):∃ b,β i=some b∧x=.pointer (some ⟨b,off,none⟩):=by
 cases h with
 | data h=>cases h
 | ptr hi h=>exact⟨_,h,rfl⟩
theorem V.inv_mp {i:Nat} {x:Value} (h:V w β L (.mp i) x):∃ b,β i=some b∧x=.map (some b):=by
 cases h with
 | data h=>cases h
 | mp hi h=>exact⟨_,h,rfl⟩
theorem V.inv_agg {cs:List AV} {x:Value} (h:V w β L (.agg cs) x):∃ vs:Array Value,x=.agg vs∧vs.size=cs.length∧∀ (j:Nat) u v,cs[j]? = some u→vs[j]? = some v→V w β L u v:=by
 cases h with
 | data h=>cases h with | agg hl h=>exact⟨_,rfl,hl,fun j u v hu hv=>.data (h j u v hu hv)⟩
 | agg hl h=>exact⟨_,rfl,hl,h⟩
theorem V.inv_tup {cs:List AV} {x:Value} (h:V w β L (.tup cs) x):∃ vs:Array Value,x=.tuple vs∧vs.size=cs.length∧∀ (j:Nat) u v,cs[j]? = some u→vs[j]? = some v→V w β L u v:=by
 cases h with
 | data h=>cases h with | tup hl h=>exact⟨_,rfl,hl,fun j u v hu hv=>.data (h j u v hu hv)⟩
 | tup hl h=>exact⟨_,rfl,hl,h⟩
theorem V.inv_fn {f:FuncId} {cs:List AV} {x:Value} (h:V w β L (.fn f cs) x):∃ vs:Array Value,x=.func (.func f) #[] vs∧vs.size=cs.length∧∀ (j:Nat) u v,cs[j]? = some u→vs[j]? = some v→V w β L u v:=by
 cases h with
 | data h=>cases h with | fn hl h=>exact⟨_,rfl,hl,fun j u v hu hv=>.data (h j u v hu hv)⟩
 | fn hl h=>exact⟨_,rfl,hl,h⟩
theorem V.inv_opt {x:AV} {v:Value} (h:V w β L (.opt true x) v):V w β L x v:=by
 cases h with
 | data h=>cases h with | opt h=>exact .data (h rfl)
 | opt h=>exact h rfl
theorem V.inv_opt0 {x:AV} {v:Value} (h:V w β L (.opt false x) v):v=undef:=by
 cases h with
 | data h=>cases h with | opt _ h=>exact h rfl
 | opt _ h=>exact h rfl

theorem V.cell {u:AV} {v:Value} (h:V w β L u v) (hc:u.isCell=true):v.oneCell'=true:=by
 cases h with
 | data h=>cases h <;> first | rfl | (simp [AV.isCell] at hc; done) | exact hc
 | own hd _=>cases hd <;> rfl
 | vec _ hv=>exact hv
 | vptr _ hv=>exact hv
 | vsl _ hv=>exact hv
 | vcap _ hv=>exact hv
 | nst _ _ _ _ _ _ hv=>exact hv
 | nptr _ _ _ _ _ _ hv=>exact hv
 | _=>first | rfl | (simp [AV.isCell] at hc; done)

def AV.flatOk (u:AV):Bool:=u.cells.all AV.isCell

theorem V.cells {u:AV} {v:Value} (h:V w β L u v) (hc:u.flatOk=true) :
  v.cells.size=u.cells.length∧(∀ (j:Nat) a b,u.cells[j]? = some a→v.cells[j]? = some b→V w β L a b)∧∀ b∈v.cells.toList,b.oneCell'=true:=by
 have one:∀ (u:AV) (v:Value),V w β L u v→u.isCell=true→u.cells=[u] →
   v.cells.size=u.cells.length∧(∀ (j:Nat) a b,u.cells[j]? = some a→v.cells[j]? = some b→V w β L a b)∧∀ b∈v.cells.toList,b.oneCell'=true:=by
  intro u v hv hu he
  have h1:=hv.cell hu
  have h2:v.cells=#[v]:=by cases v <;> first | rfl | simp [Value.oneCell'] at h1
  rw [h2,he]
  refine⟨rfl,fun j a b ha hb=>?_,fun b hb=>by simp at hb; subst hb; exact h1⟩
  cases j with
  | zero=>simp at ha hb; subst ha; subst hb; exact hv
  | succ j=>simp at ha
 by_cases h0:∃ cs,u=.agg cs
 ·obtain⟨cs,rfl⟩:=h0
  obtain⟨vs,rfl,hl,hh⟩:=h.inv_agg
  refine⟨hl,hh,fun b hb=>?_⟩
  obtain⟨j,hj,e⟩:=List.mem_iff_getElem.1 hb
  have h4:j < vs.size:=by simpa [Value.cells] using hj
  have h3:j < cs.length:=by omega
  have hv:=hh j cs[j] vs[j] (by simp [h3]) (by simp [h4])
  have h5:cs[j].isCell=true:=by
   simp only [AV.flatOk,AV.cells,List.all_eq_true] at hc
   exact hc _ (List.getElem_mem h3)
  have:=hv.cell h5
  simp only [Value.cells,Array.getElem_toList] at e
  rw [← e]; exact this
 ·have he:u.cells=[u]:=by cases u <;> first | rfl | exact absurd ⟨_,rfl⟩ h0
  refine one u v h ?_ he
  simpa [AV.flatOk,he] using hc
end inv

/-! ### Facts on types, asked of the program by the kernel -/
def Ju (P:Program) (T f off:Nat):Bool:=
 match P.underlying T with
 | some (.struct fs)=>match fs[f]? with
  | some fld=>fld.offset==off&&(match P.info? fld.type with | some i=>i.size != 0 | none=>false)
  | none=>false
 | _=>false
def R9 (P:Program) (T:Nat):Bool:=
 match P.underlying T with
 | some (.struct _) | some (.array _ _) | none=>false
 | _=>true
def Gb8 (P:Program) (T k:Nat):Bool:=
 (match P.underlying T with
 | some (.struct _) | some (.array _ _)=>true
 | _=>false)&&(match P.info? T with | some i=>i.size==k | none=>false)
def Re (P:Program) (T k:Nat):Bool:=match P.info? T with | some i=>i.size==k | none=>false
def J34 (P:Program) (T:Nat) (k:IntKind):Bool:=match P.underlying T with | some (.int k')=>decide (k'=k) | _=>false
def sliceB (P:Program) (T E k:Nat):Bool:=(match P.underlying T with | some (.slice e)=>e==E | _=>false)&&Re P E k
def Qo (P:Program) (T k:Nat):Bool:=match P.info? T with | some i=>(match i.zero with | some z=>z.cells.size==k | none=>false) | none=>false
def Rw (P:Program) (E k by_:Nat):Bool:=match P.info? E with | some i=>i.size==k&&i.bytes==by_&&(match i.zero with | some z=>z.cells.size==k | none=>false)&&decide (0 < k) | none=>false
def Hh (P : Program) (f : FuncId) : Bool := match P.funcs[f]? with | some fn => !(fn.name == "runtime.NumGoroutine") && fn.body.isSome | none => false
def J73 (P:Program) (T:Nat):Bool:=match P.underlying T with | some .bool=>true | _=>false
section facts
variable {P:Program}
theorem Re.out {T k:Nat} (h:Re P T k=true):∃ i,P.info? T=some i∧i.size=k:=by
 unfold Re at h; split at h
 ·exact⟨_,‹_›,by simpa using h⟩
 ·cases h
theorem Jv {T k:Nat} (h:Re P T k=true) (w:World):(sizeOf T).run P w=.ok k w:=by
 obtain⟨i,hi,rfl⟩:=Re.out h
 simp [sizeOf,typeInfo,hi]
theorem Gb8.size {T k:Nat} (h:Gb8 P T k=true):Re P T k=true:=by
 simp only [Gb8,Ma] at h
 exact h.2
theorem H12 {T k:Nat} (h:Gb8 P T k=true) (w:World):(isAgg T).run P w=.ok true w:=by
 simp only [Gb8,Ma] at h
 have h1:=h.1
 split at h1
 ·simp [isAgg,underlying,‹P.underlying T=_›]
 ·simp [isAgg,underlying,‹P.underlying T=_›]
 ·cases h1
theorem Ge5 {T:Nat} (h:R9 P T=true) (w:World):(isAgg T).run P w=.ok false w:=by
 unfold R9 at h
 split at h
 ·cases h
 ·cases h
 ·cases h
 ·rename_i h1 h2 h3
  cases hu:P.underlying T with
  | none=>exact absurd hu h3
  | some d=>cases d <;> first | (simp [isAgg,underlying,hu]; done) | exact absurd hu (h1 _) | exact absurd hu (h2 _ _)
theorem J34.out {T:Nat} {k:IntKind} (h:J34 P T k=true):P.underlying T=some (.int k):=by
 unfold J34 at h; split at h
 ·rename_i k' hk; have:=Ks h; subst this; exact hk
 ·cases h
theorem J73.out {T:Nat} (h:J73 P T=true):P.underlying T=some .bool:=by
 unfold J73 at h; split at h
 ·assumption
 ·cases h
theorem sliceB.out {T E k:Nat} (h:sliceB P T E k=true):P.underlying T=some (.slice E)∧Re P E k=true:=by
 simp only [sliceB,Ma] at h
 refine⟨?_,h.2⟩
 have:=h.1
 split at this
 ·rename_i e he; simp at this; subst this; exact he
 ·cases this
theorem Rw.out {E k b:Nat} (h:Rw P E k b=true):∃ i z,P.info? E=some i∧i.size=k∧i.bytes=b∧i.zero=some z∧z.cells.size=k∧0 < k:=by
 unfold Rw at h
 split at h
 ·rename_i i hi
  simp only [Ma,beq_iff_eq,Mb] at h
  obtain⟨⟨⟨h1,h2⟩,h3⟩,h4⟩:=h
  split at h3
  ·rename_i z hz; exact⟨i,z,hi,h1,h2,hz,by simpa using h3,h4⟩
  ·cases h3
 ·cases h
theorem Ju.out {T f off:Nat} (h:Ju P T f off=true):∃ fs fld i,P.underlying T=some (.struct fs)∧fs[f]? = some fld∧fld.offset=off∧P.info? fld.type=some i∧i.size≠0:=by
 unfold Ju at h
 split at h
 ·rename_i fs h3
  split at h
  ·rename_i fld h0
   simp only [Ma,beq_iff_eq] at h
   obtain⟨h1,h2⟩:=h
   split at h2
   ·rename_i i hi; exact⟨fs,fld,i,h3,h0,h1,hi,by simpa using h2⟩
   ·cases h2
  ·cases h
 ·cases h
theorem H8b {T f off b o:Nat} (h:Ju P T f off=true) (w:World):(Instr.fieldAt T (.pointer (some ⟨b,o,none⟩)) f).run P w=.ok (.pointer (some ⟨b,o+off,none⟩)) w:=by
 obtain⟨fs,fld,i,h1,h2,rfl,h3,h4⟩:=Ju.out h
 simp [Instr.fieldAt,underlying,h1,h2,Instr.sureAddr,fieldPlace,sizeOf,typeInfo,h3,h4,Addr.add_lit]
end facts

/-! ### Operations that leave the world alone -/
section pure_
variable {P:Program} {o:Oper} {l:Fr} {L:Loc} {u:AV}

theorem Hj (h:∀ (a:Act) (w:World) (β:Gu),Sat w β L→Jt a w β L l→∃ v,(execOp a.eval o).run P w=.ok (.value v) w∧V w β L u v):Gz P o l L (Is u L):=by
 intro a w β K Q h0 hf hK
 obtain⟨v,hr,hv⟩:=h a w β h0 hf
 unfold Oper.wp
 rw [hr]
 exact hK u L v w β ⟨rfl,rfl⟩ h0 (Step.refl _ _ _) hv

theorem G5 {x:Operand} (ho:o.op=.move x:=by rfl) (hx:ev l x=u:=by rfl):Gz P o l L (Is u L):=
 Hj fun a w β _ hf=>⟨a.eval x,by simp [execOp,ho],hx ▸ hf.ev x⟩
theorem G7 {x:Operand} (ho:o.op=.assign x:=by rfl) (hx:ev l x=u:=by rfl):Gz P o l L (Is u L):=
 Hj fun a w β _ hf=>⟨a.eval x,by simp [execOp,ho],hx ▸ hf.ev x⟩
theorem Qj {x:Operand} (k:Nat) (ho:o.op=.assign x:=by rfl) (hx:ev l x=.sc (.slice none 0 0):=by rfl):Gz P o l L (Is (.list k []) L):=
 Hj fun a w β _ hf=>⟨a.eval x,by simp [execOp,ho],by
  have h:=hf.ev x
  rw [hx] at h
  rw [h.inv_sc]
  exact .data (.nil (Nat.zero_le _))⟩
theorem G27 {c x y:Operand} {b d:Bool} (ho:o.op=.pick c x y:=by rfl) (hc:ev l c=.sc (.bool b):=by rfl) (hx:ev l x=.sc (.bool true):=by rfl) (hy:ev l y=.opt (!b) (.sc (.bool d)):=by rfl) :
  Gz P o l L (Is (.sc (.bool (b||d))) L):=
 Hj fun a w β _ hf=>by
  have h:=hf.ev c
  have h1:=hf.ev x
  have h2:=hf.ev y
  rw [hc] at h
  rw [hx] at h1
  rw [hy] at h2
  have hb:=h.inv_sc
  have h0:=h1.inv_sc
  cases b
  ·have h3:=(V.inv_opt h2).inv_sc
   exact⟨.bool d,by simp [execOp,ho,hb,asBool,h3],.sc⟩
  ·exact⟨.bool true,by simp [execOp,ho,hb,asBool,h0],.sc⟩
theorem Qr {c x y:Operand} {b d:Bool} (ho:o.op=.pick c x y:=by rfl) (hc:ev l c=.sc (.bool b):=by rfl) (hx:ev l x=.opt b (.sc (.bool d)):=by rfl) (hy:ev l y=.sc (.bool false):=by rfl) :
  Gz P o l L (Is (.sc (.bool (b&&d))) L):=
 Hj fun a w β _ hf=>by
  have h:=hf.ev c
  have h1:=hf.ev x
  have h2:=hf.ev y
  rw [hc] at h
  rw [hx] at h1
  rw [hy] at h2
  have hb:=h.inv_sc
  have h0:=h2.inv_sc
  cases b
  ·exact⟨.bool false,by simp [execOp,ho,hb,asBool,h0],.sc⟩
  ·have h3:=(V.inv_opt h1).inv_sc
   exact⟨.bool d,by simp [execOp,ho,hb,asBool,h3],.sc⟩

/-! arithmetic -/
theorem H1f {x y:Operand} {T T':TypeId} {op:BinOp} {p q r:Value} (hr:∀ (P:Program) (w:World),(do eqGuard op T x y p q; binOp op T p q).run P w=.ok r w) (hx:ev l x=.sc p) (hy:ev l y=.sc q) (ho:o.op=.binOp op T x y T'):Gz P o l L (Is (.sc r) L):=
 Hj fun a w β _ hf=>by
  have h1:=hf.ev x
  have h2:=hf.ev y
  rw [hx] at h1
  rw [hy] at h2
  refine⟨r,?_,.sc⟩
  have:=hr P w
  simp only [execOp,ho,h1.inv_sc,h2.inv_sc]
  rw [Sem.run_bind,this]
  rfl

section arith
variable {x y:Operand} {T T':TypeId} {k:IntKind} {m n:Int}
theorem Hz {z:Int} (hz:k.wrap (m+n)=z) (ho:o.op=.binOp .add T x y T':=by rfl) (hx:ev l x=.sc (.int k m):=by rfl) (hy:ev l y=.sc (.int k n):=by rfl):Gz P o l L (Is (.sc (.int k z)) L):=
 H1f (fun P w=>by subst hz; simp [eqGuard,binOp,Op.intArith]) hx hy ho
theorem H35 {z:Int} (hz:k.wrap (m - n)=z) (ho:o.op=.binOp .sub T x y T':=by rfl) (hx:ev l x=.sc (.int k m):=by rfl) (hy:ev l y=.sc (.int k n):=by rfl):Gz P o l L (Is (.sc (.int k z)) L):=
 H1f (fun P w=>by subst hz; simp [eqGuard,binOp,Op.intArith]) hx hy ho
theorem Ha9 {z:Int} (hz:k.wrap (m*n)=z) (ho:o.op=.binOp .mul T x y T':=by rfl) (hx:ev l x=.sc (.int k m):=by rfl) (hy:ev l y=.sc (.int k n):=by rfl):Gz P o l L (Is (.sc (.int k z)) L):=
 H1f (fun P w=>by subst hz; simp [eqGuard,binOp,Op.intArith]) hx hy ho
theorem Ya1 {z:Int} (h0:n≠0) (hz:k.wrap (m.tdiv n)=z) (ho:o.op=.binOp .quo T x y T':=by rfl) (hx:ev l x=.sc (.int k m):=by rfl) (hy:ev l y=.sc (.int k n):=by rfl):Gz P o l L (Is (.sc (.int k z)) L):=
 H1f (fun P w=>by subst hz; simp [eqGuard,binOp,Op.intDiv,h0]) hx hy ho
theorem H52 {z:Int} (h0:n≠0) (hz:m.tmod n=z) (ho:o.op=.binOp .rem T x y T':=by rfl) (hx:ev l x=.sc (.int k m):=by rfl) (hy:ev l y=.sc (.int k n):=by rfl):Gz P o l L (Is (.sc (.int k z)) L):=
 H1f (fun P w=>by subst hz; simp [eqGuard,binOp,Op.intDiv,h0]) hx hy ho
theorem Jf (ho:o.op=.binOp .lss T x y T':=by rfl) (hx:ev l x=.sc (.int k m):=by rfl) (hy:ev l y=.sc (.int k n):=by rfl):Gz P o l L (Is (.sc (.bool (decide (m < n)))) L):=
 H1f (fun P w=>by simp [eqGuard,binOp,Op.intCmp]) hx hy ho
theorem H36 (ho:o.op=.binOp .leq T x y T':=by rfl) (hx:ev l x=.sc (.int k m):=by rfl) (hy:ev l y=.sc (.int k n):=by rfl):Gz P o l L (Is (.sc (.bool (decide (m≤n)))) L):=
 H1f (fun P w=>by simp [eqGuard,binOp,Op.intCmp]) hx hy ho
theorem G46 (ho:o.op=.binOp .gtr T x y T':=by rfl) (hx:ev l x=.sc (.int k m):=by rfl) (hy:ev l y=.sc (.int k n):=by rfl):Gz P o l L (Is (.sc (.bool (decide (n < m)))) L):=
 H1f (fun P w=>by simp [eqGuard,binOp,Op.intCmp]) hx hy ho
theorem Ge4 (ho:o.op=.binOp .geq T x y T':=by rfl) (hx:ev l x=.sc (.int k m):=by rfl) (hy:ev l y=.sc (.int k n):=by rfl):Gz P o l L (Is (.sc (.bool (decide (n≤m)))) L):=
 H1f (fun P w=>by simp [eqGuard,binOp,Op.intCmp]) hx hy ho
theorem Q6 (ho:o.op=.binOp .eql T x y T':=by rfl) (hx:ev l x=.sc (.int k m):=by rfl) (hy:ev l y=.sc (.int k n):=by rfl):Gz P o l L (Is (.sc (.bool (decide (m=n)))) L):=
 H1f (fun P w=>by simp [eqGuard,binOp,Op.intCmp]; by_cases e:m=n <;> simp [e]) hx hy ho
theorem Gf1 (ho:o.op=.binOp .neq T x y T':=by rfl) (hx:ev l x=.sc (.int k m):=by rfl) (hy:ev l y=.sc (.int k n):=by rfl):Gz P o l L (Is (.sc (.bool (decide (m≠n)))) L):=
 H1f (fun P w=>by simp [eqGuard,binOp,Op.intCmp]; by_cases e:m=n <;> simp [e]) hx hy ho
theorem G1f {b:Bool} (ho:o.op=.unOp .not T x:=by rfl) (hx:ev l x=.sc (.bool b):=by rfl):Gz P o l L (Is (.sc (.bool (!b))) L):=
 Hj fun a w β _ hf=>by
  have h1:=hf.ev x
  rw [hx] at h1
  exact⟨.bool (!b),by simp [execOp,ho,h1.inv_sc,Op.unary],.sc⟩
theorem Gca {k':IntKind} {z:Int} (hT:J34 P T' k'=true) (hS:J34 P T k=true) (hz:k'.wrap m=z) (ho:o.op=.convert T T' x:=by rfl) (hx:ev l x=.sc (.int k m):=by rfl):Gz P o l L (Is (.sc (.int k' z)) L):=
 Hj fun a w β _ hf=>by
  have h1:=hf.ev x
  rw [hx] at h1
  exact⟨.int k' z,by subst hz; simp [execOp,ho,h1.inv_sc,convert,underlying,J34.out hT,J34.out hS,Conv.intToInt],.sc⟩
end arith

/-! addresses and loads -/
theorem Y32 {x:Operand} {T f off:Nat} {cs:List AV} (hT:Ju P T f off=true) (ho:o.op=.fieldAddr T x f:=by rfl) (hx:ev l x=.dptr cs:=by rfl):Gz P o l L (Is (.dptr (cs.drop off)) L):=
 Hj fun a w β _ hf=>by
  have h1:=hf.ev x
  rw [hx] at h1
  have h2:=h1.inv_dptr
  obtain⟨ax,h0⟩:∃ ax,a.eval x=ax:=⟨_,rfl⟩
  rw [h0] at h2
  cases h2 with
  | dptr vals hS h=>
   rename_i b o'
   refine⟨.pointer (some ⟨b,o'+off,none⟩),by simp [execOp,ho,h0,H8b hT],.data (.dptr (fun j=>vals (off+j)) (fun j hj=>?_) (fun j u hu=>?_))⟩
   ·simp only [List.length_drop] at hj
    have:=hS (off+j) (by omega)
    rw [Nat.add_assoc]; exact this
   ·rw [M7] at hu
    exact h _ _ hu
theorem J7 {x:Operand} {T f off i o':Nat} (hT:Ju P T f off=true) (ho:o.op=.fieldAddr T x f:=by rfl) (hx:ev l x=.ptr i o':=by rfl):Gz P o l L (Is (.ptr i (o'+off)) L):=
 Hj fun a w β _ hf=>by
  have h1:=hf.ev x
  rw [hx] at h1
  obtain⟨ax,h0⟩:∃ ax,a.eval x=ax:=⟨_,rfl⟩
  rw [h0] at h1
  cases h1 with
  | data h=>cases h
  | ptr hi h=>exact⟨_,by simp only [execOp,ho,h0,Sem.run_bind,H8b hT]; rfl,.ptr hi h⟩

theorem G73 {T b o':Nat} {v:Value} (hT:R9 P T=true) {w:World} (h:w.cell? ⟨b,o',none⟩=some v):(Instr.loadAt T (.pointer (some ⟨b,o',none⟩))).run P w=.ok v w:=by
 simp [Instr.loadAt,Instr.sureAddr,loadVar,Ge5 hT,h]

theorem Ga5 {T k b o':Nat} {vs:List Value} (hT:Gb8 P T k=true) (hl:vs.length=k) {w:World} (h:∀ (j:Nat) v,vs[j]? = some v→w.cell? ⟨b,o'+j,none⟩=some v) :
  (Instr.loadAt T (.pointer (some ⟨b,o',none⟩))).run P w=.ok (.agg vs.toArray) w:=by
 subst hl
 have:=run_loadCells_list (P:=P) w ⟨b,o',none⟩ vs (fun j v hv=>by rw [Addr.add_lit]; exact h j v hv)
 simp [Instr.loadAt,Instr.sureAddr,loadVar,H12 hT,Jv (Gb8.size hT),this]

theorem Gf {x:Operand} {T:Nat} {cs:List AV} (hT:R9 P T=true) (ho:o.op=.load T x:=by rfl) (hx:ev l x=.dptr cs:=by rfl) (h0:cs[0]? = some u:=by rfl):Gz P o l L (Is u L):=
 Hj fun a w β _ hf=>by
  have h1:=hf.ev x
  rw [hx] at h1
  have h2:=h1.inv_dptr
  obtain⟨ax,h3⟩:∃ ax,a.eval x=ax:=⟨_,rfl⟩
  rw [h3] at h2
  cases h2 with
  | dptr vals hS h=>
   have h4:0 < cs.length:=by
    cases cs with
    | nil=>simp at h0
    | cons=>simp
   have hc:=(hS 0 h4).2
   simp only [Nat.add_zero] at hc
   exact⟨vals 0,by simp [execOp,ho,h3,G73 hT hc],.data (h 0 u h0)⟩
def takeN:Nat→List AV→Option (List AV)
 | 0,_=>some []
 | _+1,[]=>none
 | n+1,c::r=>match takeN n r with
  | some s=>some (c::s)
  | none=>none
theorem Hff:∀ {k:Nat} {cs ds:List AV},takeN k cs=some ds→ds=cs.take k∧k≤cs.length
 | 0,cs,ds,h=>by simp [takeN] at h; subst h; simp
 | k+1,[],ds,h=>by simp [takeN] at h
 | k+1,c::r,ds,h=>by
  simp only [takeN] at h
  cases hr:takeN k r with
  | none=>rw [hr] at h; cases h
  | some s=>
   rw [hr] at h
   simp at h; subst h
   obtain⟨h1,h2⟩:=Hff hr
   subst h1
   exact⟨rfl,by simpa using h2⟩

theorem Gg {x:Operand} {T k:Nat} {cs ds:List AV} (hT:Gb8 P T k=true) (ho:o.op=.load T x:=by rfl) (hx:ev l x=.dptr cs:=by rfl) (h3:takeN k cs=some ds:=by rfl):Gz P o l L (Is (.agg ds) L):=
 Hj fun a w β _ hf=>by
  have h1:=hf.ev x
  rw [hx] at h1
  have h2:=h1.inv_dptr
  obtain⟨rfl,h4⟩:=Hff h3
  obtain⟨ax,h0⟩:∃ ax,a.eval x=ax:=⟨_,rfl⟩
  rw [h0] at h2
  cases h2 with
  | dptr vals hS h=>
   rename_i b o'
   refine⟨.agg ((List.range k).map vals).toArray,?_,.data (.agg (by simp; omega) (fun j u v hu hv=>?_))⟩
   ·have:=Ga5 (P:=P) (b:=b) (o':=o') (vs:=(List.range k).map vals) hT (by simp) (w:=w) (fun j v hv=>by
     have hj:j < k:=by
      rcases Kq j k with h | h
      ·exact h
      ·simp [List.getElem?_eq_none (show ((List.range k).map vals).length≤j by simpa using h)] at hv
     simp [hj] at hv
     rw [← hv]
     exact(hS j (by omega)).2)
    simp [execOp,ho,h0,this]
   ·have hj:j < k:=by
     rcases Kq j k with h | h
     ·exact h
     ·simp [M6,Nat.not_lt.2 h] at hu
    simp [hj] at hv
    rw [M6,if_pos hj] at hu
    rw [← hv]
    exact h j u hu

theorem H99 {w:World} {β:Gu} {i b:Nat} {t:TypeId} {cs:List AV} (h1:Sat w β L) (hi:lk L i=some (.box t cs)) (hb:β i=some b) :
  ∃ vs:Array Value,w.heap[b]? = some (.cells vs t (0,0))∧vs.size=cs.length∧∀ (j:Nat) u v,cs[j]? = some u→vs[j]? = some v→V w β L u v:=by
 obtain⟨b',h0,h⟩:=h1.obj i _ hi
 rw [hb] at h0; cases h0
 exact h

theorem Jm {x:Operand} {T i off:Nat} {t:TypeId} {cs:List AV} (hT:R9 P T=true) (ho:o.op=.load T x:=by rfl) (hx:ev l x=.ptr i off:=by rfl) (hi:lk L i=some (.box t cs):=by rfl) (h0:cs[off]? = some u:=by rfl):Gz P o l L (Is u L):=
 Hj fun a w β h3 hf=>by
  have h1:=hf.ev x
  rw [hx] at h1
  obtain⟨b,hb,h4⟩:=h1.inv_ptr
  obtain⟨vs,h5,h6,h7⟩:=H99 h3 hi hb
  have h2:off < vs.size:=by
   rw [h6]
   rcases Kq off cs.length with h | h
   ·exact h
   ·simp [List.getElem?_eq_none h] at h0
  have hc:w.cell? ⟨b,off,none⟩=some vs[off]:=by rw [cell_of_row w b off vs t (0,0) h5]; simp [h2]
  exact⟨vs[off],by simp [execOp,ho,h4,G73 hT hc],h7 off u _ h0 (by simp [h2])⟩
theorem G28 {x:Operand} {T k i off:Nat} {t:TypeId} {cs ds:List AV} (hT:Gb8 P T k=true) (ho:o.op=.load T x:=by rfl) (hx:ev l x=.ptr i off:=by rfl) (hi:lk L i=some (.box t cs):=by rfl) (h3:takeN k (cs.drop off)=some ds:=by rfl) :
  Gz P o l L (Is (.agg ds) L):=
 Hj fun a w β h2 hf=>by
  have h1:=hf.ev x
  rw [hx] at h1
  obtain⟨rfl,h0⟩:=Hff h3
  obtain⟨b,hb,h4⟩:=h1.inv_ptr
  obtain⟨vs,h5,h7,h6⟩:=H99 h2 hi hb
  refine⟨.agg ((vs.toList.drop off).take k).toArray,?_,.agg (by simp at h0 ⊢; omega) (fun j u v hu hv=>?_)⟩
  ·have:=Ga5 (P:=P) (b:=b) (o':=off) (vs:=(vs.toList.drop off).take k) hT (by simp at h0 ⊢; omega) (w:=w) (fun j v hv=>by
    rw [cell_of_row w b (off+j) vs t (0,0) h5]
    have hj:j < k:=by
     rcases Kq j k with h | h
     ·exact h
     ·simp [M6,Nat.not_lt.2 h] at hv
    rw [M6,if_pos hj,M7] at hv
    simpa using hv)
   simp [execOp,ho,h4,this]
  ·have hj:j < k:=by
    rcases Kq j k with h | h
    ·exact h
    ·simp [M6,Nat.not_lt.2 h] at hu
   rw [M6,if_pos hj,M7] at hu
   refine h6 (off+j) u v hu ?_
   simpa [M6,hj,M7] using hv
end pure_

def upP (β:Gu) (i:Nat) (ob:Option Nat):Gu:={ β with at_:=fun j=>if j=i then ob else β j }

section small
variable {w w':World} {β β':Gu} {L L':Loc}

theorem G95.stepW {ob:Option Nat} {o:Je} (h:G95 w β L ob o) (hs:Gba w β L w' β' L') (hb:∀ b,ob=some b→w'.heap[b]? = w.heap[b]?):G95 w' β' L' ob o:=by
 cases o with
 | box t cs=>
  obtain⟨b,rfl,vs,h1,h2,h3⟩:=h
  exact⟨b,rfl,vs,(hb b rfl).trans h1,h2,fun j u v hu hv=>(h3 j u v hu hv).stepW hs⟩
 | spare t k ver hw=>
  rcases h with h | ⟨b,rfl,vs,h1,h2⟩
  ·exact .inl h
  ·exact .inr ⟨b,rfl,vs,(hb b rfl).trans h1,h2⟩
 | vec t k ver xs=>
  obtain⟨h0,h⟩:=h
  refine⟨h0,?_⟩
  rcases h with h | ⟨b,rfl,vs,h1,h2,h3⟩
  ·exact .inl h
  ·exact .inr ⟨b,rfl,vs,(hb b rfl).trans h1,h2,fun j u v hu hv=>(h3 j u v hu hv).mono hs.stab⟩
 | map t es=>
  obtain⟨b,rfl,h⟩:=h
  exact⟨b,rfl,h.mono (hb b rfl) fun h=>h.mono hs.stab⟩
 | iter m n seen=>
  obtain⟨b,rfl,bm,hl,h1⟩:=h
  exact⟨b,rfl,bm,hl.stepW hs,(hb b rfl).trans h1⟩
 | pin t b cs=>
  obtain⟨rfl,vs,h1,h2,h3⟩:=h
  exact⟨rfl,vs,(hb b rfl).trans h1,h2,fun j u v hu hv=>(h3 j u v hu hv).mono hs.stab⟩
theorem G95.step {ob:Option Nat} {o:Je} (h:G95 w β L ob o) (hs:Step w β L w' β' L') (hb:∀ b,ob=some b→w'.heap[b]? = w.heap[b]?):G95 w' β' L' ob o:=h.stepW hs.weak hb

theorem Gd (i j:Nat) (o:Je) (L:Loc):lk ((i,o)::L) j=if i=j then some o else lk L j:=by
 by_cases e:i=j
 ·subst e; simp [lk]
 ·have:Nat.beq i j=false:=by
   cases hb:Nat.beq i j with
   | false=>rfl
   | true=>exact absurd (Ko hb) e
  simp [lk,this,e]

theorem Ji (w:World) (o:Obj) {b:Nat} (h:b < w.heap.size):(w.alloc o).heap[b]? = w.heap[b]? := by
 show (w.heap.push o)[b]? = _
 rw [Array.getElem?_push,if_neg (by omega)]

theorem G03 {w w':World} {b:Nat} (h:w'.heap[b]? = w.heap[b]?):w'.shape? b=w.shape? b:=by
 unfold World.shape?; rw [h]

theorem Step.alloc {i:Nat} {lo:Je} (hi:lk L i=none) (h0:∀ id b,(lk L id).isSome=true→β id=some b→b < w.heap.size) (o:Obj) :
  Step w β L (w.alloc o) (upP β i (some w.heap.size)) ((i,lo)::L) where
 os:=rfl
 tape:=rfl
 output:=⟨rfl,M1⟩
 size:=by simp
 hid:=fun _ _ _=>Iff.rfl
 stab:=fun b j hs=>by
  refine⟨⟨by have:=hs.1; simp; omega,hs.seen,fun id ob hid hb=>?_⟩,?_⟩
  ·rw [Gd] at hid
   by_cases e:i=id
   ·subst e; simp [upP] at hb; have:=hs.1; omega
   ·rw [if_neg e] at hid
    simp only [upP,if_neg (Ne.symm e)] at hb
    exact hs.kept id ob hid hb
  ·exact Jh (w:=w) (Ji w o hs.1)
 far:=fun b hb hf=>by
  refine⟨Ji w o hb,fun id hid e=>?_⟩
  rw [Gd] at hid
  by_cases e':i=id
  ·subst e'; simp [upP] at e; omega
  ·rw [if_neg e'] at hid
   simp only [upP,if_neg (Ne.symm e')] at e
   exact hf id hid e
 box:=fun id t cs hid=>by
  have e:i≠id:=fun e=>by subst e; rw [hi] at hid; cases hid
  exact⟨by simp [upP,Ne.symm e],cs,by rw [Gd,if_neg e]; exact hid⟩
 map:=fun id t cs hid=>by
  have e:i≠id:=fun e=>by subst e; rw [hi] at hid; cases hid
  exact⟨by simp [upP,Ne.symm e],cs,by rw [Gd,if_neg e]; exact hid⟩
 iter:=fun id t n cs hid=>by
  have e:i≠id:=fun e=>by subst e; rw [hi] at hid; cases hid
  exact⟨by simp [upP,Ne.symm e],n,cs,by rw [Gd,if_neg e]; exact hid⟩
 vec:=fun id t k ver xs hid=>by
  have e:i≠id:=fun e=>by subst e; rw [hi] at hid; cases hid
  refine⟨ver,xs,by rw [Gd,if_neg e]; exact hid,M1,fun _=>⟨rfl,by simp [upP,Ne.symm e],fun b hb=>G03 (Ji w o (h0 id b (by rw [hid]; rfl) hb))⟩⟩
 spare:=fun id t k ver hw hid=>by
  have e:i≠id:=fun e=>by subst e; rw [hi] at hid; cases hid
  refine⟨ver,hw,by rw [Gd,if_neg e]; exact hid,M1,fun _=>⟨rfl,by simp [upP,Ne.symm e],fun b hb=>Ji w o (h0 id b (by rw [hid]; rfl) hb)⟩⟩

theorem Sat.alloc {i:Nat} {lo:Je} (h5:Sat w β L) (hi:lk L i=none) (o:Obj)
  (ho:∀ (_:Step w β L (w.alloc o) (upP β i (some w.heap.size)) ((i,lo)::L)),G95 (w.alloc o) (upP β i (some w.heap.size)) ((i,lo)::L) (some w.heap.size) lo) :
  Sat (w.alloc o) (upP β i (some w.heap.size)) ((i,lo)::L):=by
 have hs:=Step.alloc (lo:=lo) hi h5.bnd o
 refine⟨fun b i h=>by have:=h5.hid b i h; simp; omega,fun id b hid hb=>?_,fun id b j hid hb h=>?_,fun id id' b h1 h2 h3 h4=>?_,fun id ob hid=>?_⟩
 ·rw [Gd] at hid
  by_cases e:i=id
  ·subst e; simp [upP] at hb; simp; omega
  ·rw [if_neg e] at hid
   simp only [upP,if_neg (Ne.symm e)] at hb
   have:=h5.bnd id b hid hb
   simp; omega
 ·rw [Gd] at hid
  by_cases e:i=id
  ·subst e; simp [upP] at hb; have:=h5.hid b j h; omega
  ·rw [if_neg e] at hid
   simp only [upP,if_neg (Ne.symm e)] at hb
   exact h5.apart id b j hid hb h
 ·rw [Gd] at h1 h2
  by_cases e:i=id
  ·by_cases e':i=id'
   ·rw [← e,e']
   ·rw [if_neg e'] at h2
    subst e
    simp only [upP,if_neg (Ne.symm e')] at h4
    simp [upP] at h3
    have:=h5.bnd id' b h2 h4
    omega
  ·rw [if_neg e] at h1
   simp only [upP,if_neg (Ne.symm e)] at h3
   by_cases e':i=id'
   ·subst e'
    simp [upP] at h4
    have:=h5.bnd id b h1 h3
    omega
   ·rw [if_neg e'] at h2
    simp only [upP,if_neg (Ne.symm e')] at h4
    exact h5.inj id id' b h1 h2 h3 h4
 ·rw [Gd] at hid
  by_cases e:i=id
  ·subst e
   simp at hid; subst hid
   simpa [upP] using ho hs
  ·rw [if_neg e] at hid
   have h0:=h5.obj id ob hid
   simp only [upP,if_neg (Ne.symm e)]
   exact h0.step hs (fun b hb=>Ji w o (h5.bnd id b (by rw [hid]; rfl) hb))
end small

section mem
variable {P:Program} {o:Oper} {l:Fr} {L:Loc} {u:AV}

theorem Qo.out {T k:Nat} (h:Qo P T k=true):∃ i z,P.info? T=some i∧i.zero=some z∧z.cells.size=k:=by
 unfold Qo at h
 split at h
 ·rename_i i hi
  split at h
  ·rename_i z hz; exact⟨i,z,hi,hz,by simpa using h⟩
  ·cases h
 ·cases h

theorem Hc (i:Nat) {T:Nat} (k:Nat) (hz:Qo P T k=true) (ho:o.op=.alloc T:=by rfl) (hi:lk L i=none:=by rfl) :
  Gz P o l L (Is (.ptr i 0) ((i,.box T (List.replicate k .junk))::L)):=by
 intro a w β K Q h0 hf hK
 obtain⟨inf,z,h1,h2,h3⟩:=Qo.out hz
 unfold Oper.wp
 have hr:(execOp a.eval o).run P w=.ok (.value (.pointer (some ⟨w.heap.size,0,none⟩))) (w.alloc (.cells z.cells T)):=by
  simp [execOp,ho,Instr.alloc,zeroValue,typeInfo,h1,h2,newVar,newRow]
 rw [hr]
 refine hK _ _ _ _ (upP β i (some w.heap.size)) ⟨rfl,rfl⟩ (h0.alloc hi _ (fun hs=>⟨_,rfl,z.cells,heap_alloc_new w _,by simp [h3],fun j u v hu _=>?_⟩)) (Step.alloc hi h0.bnd _) (.ptr (t:=T) (by simp [Gd]; rfl) (by simp [upP]))
 have:u=.junk:=by
  have:=Kz hu
  exact List.eq_of_mem_replicate this
 subst this
 exact .junk

theorem Q5 (i:Nat) {T:Nat} {x:Operand} {cs:List AV} (ho:o.op=.box T x:=by rfl) (hu:ev l x=u:=by rfl) (hx:u.cells=cs:=by rfl) (hc:u.flatOk=true:=by rfl) (hi:lk L i=none:=by rfl) :
  Gz P o l L (Is (.ptr i 0) ((i,.box T cs)::L)):=by
 subst hu
 intro a w β K Q h0 hf hK
 subst hx
 unfold Oper.wp
 have hr:(execOp a.eval o).run P w=.ok (.value (.pointer (some ⟨w.heap.size,0,none⟩))) (w.alloc (.cells (a.eval x).cells T)):=by
  simp [execOp,ho,Instr.box,newVar,newRow]
 rw [hr]
 obtain⟨h1,h2,_⟩:=(hf.ev x).cells hc
 exact hK _ _ _ _ (upP β i (some w.heap.size)) ⟨rfl,rfl⟩ (h0.alloc hi _ (fun hs=>⟨_,rfl,_,heap_alloc_new w _,h1,fun j u v hu hv=>(h2 j u v hu hv).step hs⟩)) (Step.alloc hi h0.bnd _) (.ptr (t:=T) (by simp [Gd]; rfl) (by simp [upP]))

/-! ### A store -/
theorem Step.set {w:World} {β:Gu} {L:Loc} {i b:Nat} {t:TypeId} {cs cs':List AV} (h2:Sat w β L) (hi:lk L i=some (.box t cs)) (hb:β i=some b) (vs:Array Value) :
  Step w β L (w.setRow b vs) β ((i,.box t cs')::L) where
 os:=rfl
 tape:=rfl
 output:=⟨rfl,M1⟩
 size:=by simp
 hid:=fun _ _ _=>Iff.rfl
 stab:=fun b' j hs=>by
  have h0:b'≠b:=fun e=>by subst e; exact hs.kept i _ hi hb
  refine⟨⟨by simpa using hs.1,hs.seen,fun id o hid h1=>?_⟩,Jh (w:=w) (setRow_other w b b' vs h0)⟩
  rw [Gd] at hid
  by_cases e:i=id
  ·subst e; rw [hb] at h1; exact absurd (Ky h1) (Ne.symm h0)
  ·rw [if_neg e] at hid; exact hs.kept id o hid h1
 far:=fun b' h4 hf=>by
  have h0:b'≠b:=fun e=>by subst e; exact hf i (by rw [hi]; rfl) hb
  refine⟨setRow_other w b b' vs h0,fun id hid=>?_⟩
  rw [Gd] at hid
  by_cases e:i=id
  ·subst e; rw [hb]; exact fun e=>h0 (Ky e).symm
  ·rw [if_neg e] at hid; exact hf id hid
 box:=fun id t' cs'' hid=>by
  refine⟨rfl,?_⟩
  rw [Gd]
  by_cases e:i=id
  ·subst e; rw [hi] at hid; cases hid; exact⟨cs',by simp⟩
  ·exact⟨cs'',by rw [if_neg e]; exact hid⟩
 map:=fun id t' es hid=>by
  refine⟨rfl,es,?_⟩
  rw [Gd,if_neg (fun e=>by subst e; rw [hi] at hid; cases hid)]; exact hid
 iter:=fun id t' n es hid=>by
  refine⟨rfl,n,es,?_⟩
  rw [Gd,if_neg (fun e=>by subst e; rw [hi] at hid; cases hid)]; exact hid
 vec:=fun id t' k ver xs hid=>by
  have e:i≠id:=fun e=>by subst e; rw [hi] at hid; cases hid
  refine⟨ver,xs,by rw [Gd,if_neg e]; exact hid,M1,fun _=>⟨rfl,rfl,fun b' h3=>G03 (setRow_other w b b' vs (fun e'=>?_))⟩⟩
  subst e'
  exact e (h2.inj i id b' (by rw [hi]; rfl) (by rw [hid]; rfl) hb h3)
 spare:=fun id t' k ver hw hid=>by
  have e:i≠id:=fun e=>by subst e; rw [hi] at hid; cases hid
  refine⟨ver,hw,by rw [Gd,if_neg e]; exact hid,M1,fun _=>⟨rfl,rfl,fun b' h3=>setRow_other w b b' vs (fun e'=>?_)⟩⟩
  subst e'
  exact e (h2.inj i id b' (by rw [hi]; rfl) (by rw [hid]; rfl) hb h3)

theorem Sat.set {w:World} {β:Gu} {L:Loc} {i b:Nat} {t:TypeId} {cs cs':List AV} (h0:Sat w β L) (hi:lk L i=some (.box t cs)) (hb:β i=some b) {old:Array Value} (hold:w.heap[b]? = some (.cells old t (0,0))) (vs:Array Value)
  (hl:vs.size=cs'.length) (h:∀ (j:Nat) u v,cs'[j]? = some u→vs[j]? = some v→V w β L u v):Sat (w.setRow b vs) β ((i,.box t cs')::L):=by
 have hs:=Step.set (cs':=cs') h0 hi hb vs
 have h3:∀ id,(lk ((i,Je.box t cs')::L) id).isSome=true→(lk L id).isSome=true:=fun id h=>by
  rw [Gd] at h
  by_cases e:i=id
  ·subst e; rw [hi]; rfl
  ·rwa [if_neg e] at h
 refine⟨fun b i h=>by simpa using h0.hid b i h,fun id b' hid h4=>by simpa using h0.bnd id b' (h3 id hid) h4,fun id b' j hid h4=>h0.apart id b' j (h3 id hid) h4,fun id id' b' h1 h2=>h0.inj id id' b' (h3 id h1) (h3 id' h2),fun id ob hid=>?_⟩
 rw [Gd] at hid
 by_cases e:i=id
 ·subst e
  simp at hid; subst hid
  exact⟨b,hb,vs,setRow_heap w b old vs t (0,0) hold,hl,fun j u v hu hv=>(h j u v hu hv).step hs⟩
 ·rw [if_neg e] at hid
  refine(h0.obj id ob hid).step hs (fun b' h4=>setRow_other w b b' vs (fun e'=>?_))
  subst e'
  exact e (h0.inj i id b' (by rw [hi]; rfl) (by rw [hid]; rfl) hb h4)

theorem H27 {T k b off:Nat} {t:TypeId} {old:Array Value} {v:Value} (hT:Re P T k=true) (hv:v.cells.size=k) (h1:∀ x∈v.cells.toList,x.oneCell'=true) {w:World}
  (hold:w.heap[b]? = some (.cells old t (0,0))) (h0:off+k≤old.size) :
  (Instr.storeAt T (.pointer (some ⟨b,off,none⟩)) v).run P w=.ok () (w.setRow b (old.toList.take off++v.cells.toList++old.toList.drop (off+k)).toArray):=by
 have:=run_storeCells_at P b off t v.cells.toList 0 old w hold (by simpa [hv] using h0) h1
 simp only [Nat.add_zero,Array.length_toList,hv] at this
 simp [Instr.storeAt,Instr.sureAddr,storeVar,Jv hT,hv,this]

theorem Q24 {w:World} {β:Gu} {L:Loc} {off k:Nat} {cs us:List AV} {old ws:List Value} (h3:old.length=cs.length) (h4:ws.length=us.length) (hk:us.length=k) (h0:off+k≤cs.length)
  (h:∀ (j:Nat) u v,cs[j]? = some u→old[j]? = some v→V w β L u v) (h':∀ (j:Nat) u v,us[j]? = some u→ws[j]? = some v→V w β L u v) :
  ∀ (j:Nat) u v,(cs.take off++us++cs.drop (off+k))[j]? = some u→(old.take off++ws++old.drop (off+k))[j]? = some v→V w β L u v:=by
 intro j u v hu hv
 rcases Kq j off with h1 | h1
 ·rw [List.append_assoc,M3 (by simp; omega),M6,if_pos h1] at hu hv
  exact h j u v hu hv
 ·rcases Kq j (off+k) with h2 | h2
  ·rw [M3 (by simp; omega),M2 (by simp; omega)] at hu hv
   simp only [List.length_take] at hu hv
   rw [Nat.min_eq_left (by omega)] at hu hv
   exact h' _ u v hu hv
  ·rw [M2 (by simp; omega)] at hu hv
   simp only [M8,List.length_take,M7] at hu hv
   rw [Nat.min_eq_left (by omega)] at hu hv
   rw [show off+k+(j - (off+us.length))=j by omega] at hu
   rw [show off+k+(j - (off+ws.length))=j by omega] at hv
   exact h j u v hu hv

def Hbc:Nat→List AV→List AV→Option (List AV)
 | _,[],cs=>some cs
 | 0,u::us,_::cs=>match Hbc 0 us cs with
  | some s=>some (u::s)
  | none=>none
 | n+1,us,c::cs=>match Hbc n us cs with
  | some s=>some (c::s)
  | none=>none
 | _,_::_,[]=>none

theorem J89:∀ {off:Nat} {us cs ds:List AV},Hbc off us cs=some ds→us≠[]→ds=cs.take off++us++cs.drop (off+us.length)∧off+us.length≤cs.length
 | off,[],cs,ds,h,h0=>absurd rfl h0
 | 0,u::us,[],ds,h,_=>by simp [Hbc] at h
 | n+1,u::us,[],ds,h,_=>by simp [Hbc] at h
 | 0,u::us,c::cs,ds,h,_=>by
  simp only [Hbc] at h
  cases hr:Hbc 0 us cs with
  | none=>rw [hr] at h; cases h
  | some s=>
   rw [hr] at h
   simp at h; subst h
   by_cases e:us=[]
   ·subst e; simp [Hbc] at hr; subst hr; simp
   ·obtain⟨h1,h2⟩:=J89 hr e
    subst h1
    simp at h2 ⊢
    exact h2
 | n+1,u::us,c::cs,ds,h,h0=>by
  simp only [Hbc] at h
  cases hr:Hbc n (u::us) cs with
  | none=>rw [hr] at h; cases h
  | some s=>
   rw [hr] at h
   simp at h; subst h
   obtain⟨h1,h2⟩:=J89 hr (by simp)
   subst h1
   refine⟨?_,by simp at h2 ⊢; omega⟩
   rw [show n+1+(u::us).length=(n+(u::us).length)+1 by omega,List.drop_succ_cons,List.take_succ_cons]
   simp

theorem H0 {x y:Operand} {T i off k:Nat} {t:TypeId} {cs ds:List AV} (hT:Re P T k=true) (ho:o.op=.store T x y:=by rfl) (hu:ev l y=u:=by rfl) (hx:ev l x=.ptr i off:=by rfl) (hi:lk L i=some (.box t cs):=by rfl)
  (hc:u.flatOk=true:=by rfl) (h6:Hbc off u.cells cs=some ds:=by rfl) (hk:u.cells.length=k:=by rfl) (h5:Nat.blt 0 k=true:=by rfl) :
  Gz P o l L (Is .junk ((i,.box t ds)::L)):=by
 subst hu
 have h7:(ev l y).cells≠[]:=fun e=>by rw [e] at hk; subst hk; cases h5
 obtain⟨rfl,h2⟩:=J89 h6 h7
 rw [hk] at h2
 have h3:off+k≤cs.length:=h2
 rw [hk]
 intro a w β K Q h0 hf hK
 have h1:=hf.ev x
 rw [hx] at h1
 obtain⟨b,hb,h8⟩:=h1.inv_ptr
 obtain⟨old,h4,h9,a0⟩:=H99 h0 hi hb
 obtain⟨c1,c2,c3⟩:=(hf.ev y).cells hc
 have hr:=H27 (P:=P) (off:=off) hT (c1.trans hk) c3 h4 (by omega)
 unfold Oper.wp
 have a1:(execOp a.eval o).run P w=.ok .skip (w.setRow b (old.toList.take off++(a.eval y).cells.toList++old.toList.drop (off+k)).toArray):=by
  simp [execOp,ho,h8,hr]
 rw [a1]
 refine hK _ _ _ _ β ⟨rfl,rfl⟩ (h0.set hi hb h4 _ ?_ ?_) (Step.set h0 hi hb _) .junk
 ·simp [c1]; omega
 ·intro j u v hu hv
  exact Q24 (by rw [Array.length_toList]; exact h9) (by rw [Array.length_toList]; exact c1) hk h3 (fun j u v hu hv=>a0 j u v hu (by simpa using hv)) (fun j u v hu hv=>c2 j u v hu (by simpa using hv)) j u v hu (by simpa using hv)

/-! ### Slices: lengths and elements -/
theorem D.len {w:World} {S:Nat→Nat→Prop} {k:Nat} {xs:List AV} {x:Value} (h:D w S (.list k xs) x):∃ ao cap,x=.slice ao xs.length cap∧xs.length≤cap∧cap≤maxLen:=by
 cases h with
 | nil h=>exact⟨_,_,rfl,by simp,h⟩
 | list vals h0 hm=>exact⟨_,_,rfl,h0,hm⟩

theorem G16:∀ (xs ys:List AV),flat (xs++ys)=flat xs++flat ys
 | [],_=>rfl
 | x::xs,ys=>by simp [flat,G16 xs ys]
theorem D.lst_list {w:World} {S:Nat→Nat→Prop} {k:Nat} {xs ys:List AV} {v:Value} (h:D w S (.lst k xs ys) v):D w S (.list k xs) v:=by
 cases h with
 | lnil h=>exact .nil h
 | lst vals h0 hm hk hS h=>
  rw [G16] at hS h
  exact .list vals (by omega) hm (fun x hx=>hk x (Md.2 (.inl hx))) (fun j hj=>hS j (by rw [M8]; omega)) (fun j u hu=>h j u (by rw [M3 (Kw hu).1]; exact hu))
def Q0:AV→Option (Nat×List AV)
 | .list k xs=>some (k,xs)
 | .lst k xs _=>some (k,xs)
 | .own _ _ k xs=>some (k,xs)
 | .sc (.slice none 0 0)=>some (1,[])
 | _=>none

theorem V.Q0 {w:World} {β:Gu} {L:Loc} {u:AV} {k:Nat} {xs:List AV} {x:Value} (h:V w β L u x) (ha:Q0 u=some (k,xs)):D w (Hv w β L) (.list k xs) x:=by
 cases u with
 | list k' xs'=>simp [Go.Proofs.YtibhpogonkdiaaaGreat.Q0] at ha; obtain⟨rfl,rfl⟩:=ha; exact h.inv_list
 | lst k' xs' ys'=>
  simp [Go.Proofs.YtibhpogonkdiaaaGreat.Q0] at ha; obtain⟨rfl,rfl⟩:=ha
  cases h with
  | data h=>exact h.lst_list
 | own i ver k' xs'=>
  simp [Go.Proofs.YtibhpogonkdiaaaGreat.Q0] at ha; obtain⟨rfl,rfl⟩:=ha
  cases h with
  | data h=>cases h
  | own hd _=>exact hd
 | sc v=>
  have:=h.inv_sc
  subst this
  cases x with
  | slice ao n c=>
   cases ao with
   | none=>
    cases n with
    | zero=>
     cases c with
     | zero=>simp [Go.Proofs.YtibhpogonkdiaaaGreat.Q0] at ha; obtain⟨rfl,rfl⟩:=ha; exact .nil (Nat.zero_le _)
     | succ c=>simp [Go.Proofs.YtibhpogonkdiaaaGreat.Q0] at ha
    | succ n=>simp [Go.Proofs.YtibhpogonkdiaaaGreat.Q0] at ha
   | some a=>simp [Go.Proofs.YtibhpogonkdiaaaGreat.Q0] at ha
  | _=>simp [Go.Proofs.YtibhpogonkdiaaaGreat.Q0] at ha
 | _=>simp [Go.Proofs.YtibhpogonkdiaaaGreat.Q0] at ha

theorem Rf9 {x:Operand} {T E k k':Nat} {xs:List AV} (hT:sliceB P T E k'=true) (ho:o.op=.call { callee:=.builtin .len,args:=#[x],argTypes:=#[T] }:=by rfl) (hx:Q0 (ev l x)=some (k,xs):=by rfl):Gz P o l L (Is (.sc (.int .i64 xs.length)) L):=
 Hj fun a w β _ hf=>by
  obtain⟨ao,cap,h1,_⟩:=((hf.ev x).Q0 hx).len
  exact⟨.int .i64 xs.length,by simp [execOp,ho,resolve,invoke,builtin,Builtin.len_,underlying,(sliceB.out hT).1,h1,goInt],.sc⟩

theorem Y6a {N:Cfg} {Q:Post} {ops:Array Oper} {rest:List Oper} {d:Nat} {x:Operand} {T E k k':Nat} {xs:List AV} (hT:sliceB P T E k'=true) (hk:xs.length≤maxLen→JL P N ops rest Q ((d,.sc (.int .i64 xs.length))::l) L) (ho:o.op=.call { callee:=.builtin .len,args:=#[x],argTypes:=#[T] }:=by rfl) (hx:Q0 (ev l x)=some (k,xs):=by rfl) (hg:o.guard=none:=by rfl) (hd:o.dst=some d:=by rfl) (hn:Nat.blt d N.n=true:=by rfl):JL P N ops (o::rest) Q l L:=by
 intro n w0 β0 L0 a w β hs
 obtain⟨ao,cap,h1,h2,h3⟩:=((hs.frame.ev x).Q0 hx).len
 exact G0 (Rf9 hT ho hx) (hk (Nat.le_trans h2 h3)) hg hd hn (by unfold Zn; rw [ho]) n w0 β0 L0 a w β hs

theorem J0 {k:Nat}:∀ {xs:List AV},(∀ x∈xs,x.cells.length=k)→(flat xs).length=xs.length*k
 | [],_=>by simp [flat]
 | x::r,h=>by
  simp only [flat,M8,M4,h x (by simp),J0 (xs:=r) (fun y hy=>h y (by simp [hy]))]
  rw [Nat.add_mul]; omega


theorem Q5f {k:Nat}:∀ {xs:List AV},(∀ x∈xs,x.cells.length=k)→∀ {i:Nat} {y:AV},xs[i]? = some y→∀ j,j < k→(flat xs)[i*k+j]? = y.cells[j]?
 | [],_,i,y,hy,_,_=>by simp at hy
 | x::r,h,i,y,hy,j,hj=>by
  have hx:=h x (by simp)
  cases i with
  | zero=>
   simp at hy; subst hy
   simp only [flat,Nat.zero_mul,Nat.zero_add]
   rw [M3 (by omega)]
  | succ i=>
   simp at hy
   simp only [flat]
   rw [M2 (by rw [hx,Nat.add_mul]; omega),hx]
   rw [show (i+1)*k+j - k=i*k+j by rw [Nat.add_mul]; omega]
   exact Q5f (fun z hz=>h z (by simp [hz])) hy j hj

theorem D.elem {w:World} {S:Nat→Nat→Prop} {k:Nat} {xs:List AV} {b off n cap i:Nat} {y:AV} (h:D w S (.list k xs) (.slice (some ⟨b,off,none⟩) n cap)) (hy:xs[i]? = some y) :
  D w S (.dptr y.cells) (.pointer (some ⟨b,off+i*k,none⟩)):=by
 cases h with
 | nil=>simp at hy
 | list vals h0 hm hk hS h=>
  have hi:i < xs.length:=by
   rcases Kq i xs.length with h | h
   ·exact h
   ·simp [List.getElem?_eq_none h] at hy
  have h1:y.cells.length=k:=hk y (Kz hy)
  refine .dptr (fun j=>vals (i*k+j)) (fun j hj=>?_) (fun j u hu=>?_)
  ·have:=hS (i*k+j) (by
    rw [J0 hk]
    have:(i+1)*k≤xs.length*k:=Nat.mul_le_mul_right k hi
    rw [Nat.add_mul] at this; omega)
   rw [show off+i*k+j=off+(i*k+j) by omega]; exact this
  ·have hj:j < k:=by
    rcases Kq j k with h | h
    ·exact h
    ·simp [List.getElem?_eq_none (show y.cells.length≤j by omega)] at hu
   exact h _ u ((Q5f hk hy j hj).trans hu)

theorem D.addr {w:World} {S:Nat→Nat→Prop} {k i:Nat} {xs:List AV} {x:Value} {y:AV} (h:D w S (.list k xs) x) (hy:xs[i]? = some y) :
  ∃ b off cap,x=.slice (some ⟨b,off,none⟩) xs.length cap:=by
 cases h with
 | nil=>simp at hy
 | list=>exact⟨_,_,_,rfl⟩

theorem Y31 {x ix:Operand} {T E k:Nat} {kd:IntKind} {n:Int} {m:Nat} {xs:List AV} {y:AV} (ho:o.op=.indexAddr T x ix) (hx:Q0 (ev l x)=some (k,xs)) (hi:ev l ix=.sc (.int kd n)) (hT:sliceB P T E k=true) (hy:xs[m]? = some y) (hm:n=(m:Int)):Gz P o l L (Is (.dptr y.cells) L):=
 Hj fun a w β _ hf=>by
  subst hm
  have h1:=(hf.ev x).Q0 hx
  have h2:=hf.ev ix
  rw [hi] at h2
  obtain⟨b,off,cap,h0⟩:=h1.addr hy
  rw [h0] at h1
  have h3:m < xs.length:=by
   rcases Kq m xs.length with h | h
   ·exact h
   ·simp [List.getElem?_eq_none h] at hy
  have hr:=Jv (sliceB.out hT).2 w
  refine⟨.pointer (some ⟨b,off+m*k,none⟩),?_,.data (h1.elem hy)⟩
  simp [execOp,ho,Instr.indexAt,h2.inv_sc,asIntOf,underlying,(sliceB.out hT).1,h0,h3,hr,Addr.add_lit]
end mem
end Go.Proofs.YtibhpogonkdiaaaGreat
