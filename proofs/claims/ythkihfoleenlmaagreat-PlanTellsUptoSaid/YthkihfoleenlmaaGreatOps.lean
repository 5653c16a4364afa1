/- What each operation does to an abstract state: -/
import Derived.Test.YthkihfoleenlmaaGreatCore
namespace Go.Proofs.YthkihfoleenlmaaGreat
open Go.RowKit

/-! ### Reading off what a value can be -/
section inv
variable {w:World} {β:H4} {L:Loc}

theorem V.inv_dptr {cs:List AV} {x:Value} (h:V w β L (.dptr cs) x):D w (Ji w β L) (.dptr cs) x:=by
 cases h with | data h=>exact h
theorem V.inv_list {k:Nat} {xs:List AV} {x:Value} (h:V w β L (.list k xs) x):D w (Ji w β L) (.list k xs) x:=by
 cases h with | data h=>exact h
theorem V.inv_ptr {i off:Nat} {x:Value} (h:V w β L (.ptr i off) x):∃ b,β i=some b/\x=.pointer (some ⟨b,off,none⟩):=by
 cases h with
 | data h=>cases h
 | ptr hi h=>exact⟨_,h,rfl⟩
theorem V.inv_mp {i:Nat} {x:Value} (h:V w β L (.mp i) x):∃ b,β i=some b/\x=.map (some b):=by
 cases h with
 | data h=>cases h
 | mp hi h=>exact⟨_,h,rfl⟩
theorem V.inv_agg {cs:List AV} {x:Value} (h:V w β L (.agg cs) x):∃ vs:Array Value,x=.agg vs/\vs.size=cs.length/\∀ (j:Nat) u v,cs[j]? = some u→vs[j]? = some v→V w β L u v:=by
 cases h with
 | data h=>cases h with | agg hl h=>exact⟨_,rfl,hl,fun j u v hu hv=>.data (h j u v hu hv)⟩
 | agg hl h=>exact⟨_,rfl,hl,h⟩
theorem V.inv_tup {cs:List AV} {x:Value} (h:V w β L (.tup cs) x):∃ vs:Array Value,x=.tuple vs/\vs.size=cs.length/\∀ (j:Nat) u v,cs[j]? = some u→vs[j]? = some v→V w β L u v:=by
 cases h with
 | data h=>cases h with | tup hl h=>exact⟨_,rfl,hl,fun j u v hu hv=>.data (h j u v hu hv)⟩
 | tup hl h=>exact⟨_,rfl,hl,h⟩
theorem V.inv_fn {f:FuncId} {cs:List AV} {x:Value} (h:V w β L (.fn f cs) x):∃ vs:Array Value,x=.func (.func f) #[] vs/\vs.size=cs.length/\∀ (j:Nat) u v,cs[j]? = some u→vs[j]? = some v→V w β L u v:=by
 cases h with
 | data h=>cases h with | fn hl h=>exact⟨_,rfl,hl,fun j u v hu hv=>.data (h j u v hu hv)⟩
 | fn hl h=>exact⟨_,rfl,hl,h⟩
theorem V.inv_opt {x:AV} {v:Value} (h:V w β L (.opt true x) v):V w β L x v:=by
 cases h with
 | data h=>cases h with | opt h=>exact .data (h rfl)
 | opt h=>exact h rfl
theorem V.inv_opt0 {x:AV} {v:Value} (h:V w β L (.opt false x) v):v=undef:=by
 cases h with
 | data h=>cases h with | opt _ h=>exact h rfl
 | opt _ h=>exact h rfl

theorem V.cell {u:AV} {v:Value} (h:V w β L u v) (hc:u.isCell=true):v.oneCell'=true:=by
 cases h with
 | data h=>cases h <;> first | rfl | (simp [AV.isCell] at hc; done) | exact hc | (next hb _=>rcases hb with ⟨_,rfl⟩ | ⟨_,_,_,_,_,rfl,_⟩ <;> rfl) | (next hf _=>obtain⟨_,_,_,_,_,⟨rfl,_⟩ | ⟨_,_,_,_,_,rfl,_⟩⟩:=hf <;> rfl)
 | own hd _=>cases hd <;> rfl
 | vec _ hv=>exact hv
 | vptr _ hv=>exact hv
 | vsl _ hv=>exact hv
 | vcap _ hv=>exact hv
 | nst _ _ _ _ _ _ hv=>exact hv
 | nptr _ _ _ _ _ _ hv=>exact hv
 | _=>first | rfl | (simp [AV.isCell] at hc; done)

def AV.flatOk (u:AV):Bool:=u.cells.all AV.isCell

theorem V.cells {u:AV} {v:Value} (h:V w β L u v) (hc:u.flatOk=true) :
  v.cells.size=u.cells.length/\(∀ (j:Nat) a b,u.cells[j]? = some a→v.cells[j]? = some b→V w β L a b)/\∀ b∈v.cells.toList,b.oneCell'=true:=by
 have one:∀ (u:AV) (v:Value),V w β L u v→u.isCell=true→u.cells=[u] →
   v.cells.size=u.cells.length/\(∀ (j:Nat) a b,u.cells[j]? = some a→v.cells[j]? = some b→V w β L a b)/\∀ b∈v.cells.toList,b.oneCell'=true:=by
  intro u v hv hu he
  have h1:=hv.cell hu
  have h2:v.cells=#[v]:=by cases v <;> first | rfl | simp [Value.oneCell'] at h1
  rw [h2,he]
  refine⟨rfl,fun j a b ha hb=>?_,fun b hb=>by simp at hb; subst hb; exact h1⟩
  cases j with
  | zero=>simp at ha hb; subst ha; subst hb; exact hv
  | succ j=>simp at ha
 by_cases h0:∃ cs,u=.agg cs
 .obtain⟨cs,rfl⟩:=h0
  obtain⟨vs,rfl,hl,hh⟩:=h.inv_agg
  refine⟨hl,hh,fun b hb=>?_⟩
  obtain⟨j,hj,e⟩:=List.mem_iff_getElem.1 hb
  have h4:j < vs.size:=by simpa [Value.cells] using hj
  have h3:j < cs.length:=by omega
  have hv:=hh j cs[j] vs[j] (by simp [h3]) (by simp [h4])
  have h5:cs[j].isCell=true:=by
   simp only [AV.flatOk,AV.cells,List.all_eq_true] at hc
   exact hc _ (List.getElem_mem h3)
  have:=hv.cell h5
  simp only [Value.cells,Array.getElem_toList] at e
  rw [← e]; exact this
 .have he:u.cells=[u]:=by cases u <;> first | rfl | exact absurd ⟨_,rfl⟩ h0
  refine one u v h ?_ he
  simpa [AV.flatOk,he] using hc
end inv

/-! ### Facts on types, asked of the program by the kernel -/
def Jm (P:Program) (T f off:Nat):Bool:=
 match P.underlying T with
 | some (.struct fs)=>match fs[f]? with
  | some fld=>fld.offset==off&&(match P.info? fld.type with | some i=>i.size != 0 | none=>false)
  | none=>false
 | _=>false
def Jc (P:Program) (T:Nat):Bool:=
 match P.underlying T with
 | some (.struct _) | some (.array _ _) | none=>false
 | _=>true
def iC (P:Program) (T k:Nat):Bool:=
 (match P.underlying T with
 | some (.struct _) | some (.array _ _)=>true
 | _=>false)&&(match P.info? T with | some i=>i.size==k | none=>false)
def Rc (P:Program) (T k:Nat):Bool:=match P.info? T with | some i=>i.size==k | none=>false
def GW (P:Program) (T:Nat) (k:IntKind):Bool:=match P.underlying T with | some (.int k')=>decide (k'=k) | _=>false
def sliceB (P:Program) (T E k:Nat):Bool:=(match P.underlying T with | some (.slice e)=>e==E | _=>false)&&Rc P E k
def Yf (P:Program) (T k:Nat):Bool:=match P.info? T with | some i=>(match i.zero with | some z=>z.cells.size==k | none=>false) | none=>false
def Qo (P:Program) (E k by_:Nat):Bool:=match P.info? E with | some i=>i.size==k&&i.bytes==by_&&(match i.zero with | some z=>z.cells.size==k | none=>false)&&decide (0 < k) | none=>false
def H7 (P : Program) (f : FuncId) : Bool := match P.funcs[f]? with | some fn => !(fn.name == "runtime.NumGoroutine") && fn.body.isSome | none => false
def RT (P:Program) (T:Nat):Bool:=match P.underlying T with | some .bool=>true | _=>false
def J1b (P:Program) (T:Nat):Bool:=match P.underlying T with | some .string=>true | _=>false

section facts
variable {P:Program}
theorem Rc.out {T k:Nat} (h:Rc P T k=true):∃ i,P.info? T=some i/\i.size=k:=by
 unfold Rc at h; split at h
 .exact⟨_,‹_›,by simpa using h⟩
 .cases h
theorem Qn {T k:Nat} (h:Rc P T k=true) (w:World):(sizeOf T).run P w=.ok k w:=by
 obtain⟨i,hi,rfl⟩:=Rc.out h
 simp [sizeOf,typeInfo,hi]
theorem iC.size {T k:Nat} (h:iC P T k=true):Rc P T k=true:=by
 simp only [iC,Pp] at h
 exact h.2
theorem wG {T k:Nat} (h:iC P T k=true) (w:World):(isAgg T).run P w=.ok true w:=by
 simp only [iC,Pp] at h
 have h1:=h.1
 split at h1
 .simp [isAgg,underlying,‹P.underlying T=_›]
 .simp [isAgg,underlying,‹P.underlying T=_›]
 .cases h1
theorem mP {T:Nat} (h:Jc P T=true) (w:World):(isAgg T).run P w=.ok false w:=by
 unfold Jc at h
 split at h
 .cases h
 .cases h
 .cases h
 .rename_i h1 h2 h3
  cases hu:P.underlying T with
  | none=>exact absurd hu h3
  | some d=>cases d <;> first | (simp [isAgg,underlying,hu]; done) | exact absurd hu (h1 _) | exact absurd hu (h2 _ _)
theorem GW.out {T:Nat} {k:IntKind} (h:GW P T k=true):P.underlying T=some (.int k):=by
 unfold GW at h; split at h
 .rename_i k' hk; have:=P6 h; subst this; exact hk
 .cases h
theorem RT.out {T:Nat} (h:RT P T=true):P.underlying T=some .bool:=by
 unfold RT at h; split at h
 .assumption
 .cases h
theorem J1b.out {T:Nat} (h:J1b P T=true):P.underlying T=some .string:=by
 unfold J1b at h; split at h
 .assumption
 .cases h
theorem sliceB.out {T E k:Nat} (h:sliceB P T E k=true):P.underlying T=some (.slice E)/\Rc P E k=true:=by
 simp only [sliceB,Pp] at h
 refine⟨?_,h.2⟩
 have:=h.1
 split at this
 .rename_i e he; simp at this; subst this; exact he
 .cases this
theorem Qo.out {E k b:Nat} (h:Qo P E k b=true):∃ i z,P.info? E=some i/\i.size=k/\i.bytes=b/\i.zero=some z/\z.cells.size=k/\0 < k:=by
 unfold Qo at h
 split at h
 .rename_i i hi
  simp only [Pp,beq_iff_eq,Pq] at h
  obtain⟨⟨⟨h1,h2⟩,h3⟩,h4⟩:=h
  split at h3
  .rename_i z hz; exact⟨i,z,hi,h1,h2,hz,by simpa using h3,h4⟩
  .cases h3
 .cases h
theorem Jm.out {T f off:Nat} (h:Jm P T f off=true):∃ fs fld i,P.underlying T=some (.struct fs)/\fs[f]? = some fld/\fld.offset=off/\P.info? fld.type=some i/\i.size≠0:=by
 unfold Jm at h
 split at h
 .rename_i fs h3
  split at h
  .rename_i fld h0
   simp only [Pp,beq_iff_eq] at h
   obtain⟨h1,h2⟩:=h
   split at h2
   .rename_i i hi; exact⟨fs,fld,i,h3,h0,h1,hi,by simpa using h2⟩
   .cases h2
  .cases h
 .cases h
theorem wH {T f off b o:Nat} (h:Jm P T f off=true) (w:World):(Instr.fieldAt T (.pointer (some ⟨b,o,none⟩)) f).run P w=.ok (.pointer (some ⟨b,o+off,none⟩)) w:=by
 obtain⟨fs,fld,i,h1,h2,rfl,h3,h4⟩:=Jm.out h
 simp [Instr.fieldAt,underlying,h1,h2,Instr.sureAddr,fieldPlace,sizeOf,typeInfo,h3,h4,Addr.add_lit]
end facts

/-! ### Operations that leave the world alone -/
section pure_
variable {P:Program} {o:Oper} {l:Fr} {L:Loc} {u:AV}

theorem Hm (h:∀ (a:Act) (w:World) (β:H4),Sat w β L→Jx a w β L l→∃ v,(execOp a.eval o).run P w=.ok (.value v) w/\V w β L u v):H2 P o l L (Is u L):=by
 intro a w β K Q h0 hf hK
 obtain⟨v,hr,hv⟩:=h a w β h0 hf
 unfold Oper.wp
 rw [hr]
 exact hK u L v w β ⟨rfl,rfl⟩ h0 (Step.refl _ _ _) hv

theorem G3 {x:Operand} (ho:o.op=.move x:=by rfl) (hx:ev l x=u:=by rfl):H2 P o l L (Is u L):=
 Hm fun a w β _ hf=>⟨a.eval x,by simp [execOp,ho],hx ▸ hf.ev x⟩
theorem G7 {x:Operand} (ho:o.op=.assign x:=by rfl) (hx:ev l x=u:=by rfl):H2 P o l L (Is u L):=
 Hm fun a w β _ hf=>⟨a.eval x,by simp [execOp,ho],hx ▸ hf.ev x⟩
theorem Qd {x:Operand} (k:Nat) (ho:o.op=.assign x:=by rfl) (hx:ev l x=.sc (.slice none 0 0):=by rfl):H2 P o l L (Is (.list k []) L):=
 Hm fun a w β _ hf=>⟨a.eval x,by simp [execOp,ho],by
  have h:=hf.ev x
  rw [hx] at h
  rw [h.inv_sc]
  exact .data (.nil (Nat.zero_le _))⟩
theorem Q03 {c x y:Operand} {b:Bool} (ho:o.op=.pick c x y:=by rfl) (hc:ev l c=.sc (.bool b):=by rfl):H2 P o l L (Is (bif b then ev l x else ev l y) L):=
 Hm fun a w β _ hf=>by
  have h:=hf.ev c
  rw [hc] at h
  refine⟨bif b then a.eval x else a.eval y,?_,?_⟩
  .simp only [execOp,ho,h.inv_sc,asBool,Sem.run_bind,Sem.run_pure,Result.andThen_ok]
   cases b <;> rfl
  .cases b
   .exact hf.ev y
   .exact hf.ev x
theorem Rm {c x y:Operand} {b d:Bool} (ho:o.op=.pick c x y:=by rfl) (hc:ev l c=.sc (.bool b):=by rfl) (hx:ev l x=.sc (.bool true):=by rfl) (hy:ev l y=.opt (!b) (.sc (.bool d)):=by rfl) :
  H2 P o l L (Is (.sc (.bool (b||d))) L):=
 Hm fun a w β _ hf=>by
  have h:=hf.ev c
  have h1:=hf.ev x
  have h2:=hf.ev y
  rw [hc] at h
  rw [hx] at h1
  rw [hy] at h2
  have hb:=h.inv_sc
  have h0:=h1.inv_sc
  cases b
  .have h3:=(V.inv_opt h2).inv_sc
   exact⟨.bool d,by simp [execOp,ho,hb,asBool,h3],.sc⟩
  .exact⟨.bool true,by simp [execOp,ho,hb,asBool,h0],.sc⟩
theorem J9 {c x y:Operand} {b d:Bool} (ho:o.op=.pick c x y:=by rfl) (hc:ev l c=.sc (.bool b):=by rfl) (hx:ev l x=.opt b (.sc (.bool d)):=by rfl) (hy:ev l y=.sc (.bool false):=by rfl) :
  H2 P o l L (Is (.sc (.bool (b&&d))) L):=
 Hm fun a w β _ hf=>by
  have h:=hf.ev c
  have h1:=hf.ev x
  have h2:=hf.ev y
  rw [hc] at h
  rw [hx] at h1
  rw [hy] at h2
  have hb:=h.inv_sc
  have h0:=h2.inv_sc
  cases b
  .exact⟨.bool false,by simp [execOp,ho,hb,asBool,h0],.sc⟩
  .have h3:=(V.inv_opt h1).inv_sc
   exact⟨.bool d,by simp [execOp,ho,hb,asBool,h3],.sc⟩

/-! arithmetic -/
theorem qB {x y:Operand} {T T':TypeId} {op:BinOp} {p q r:Value} (hr:∀ (P:Program) (w:World),(do eqGuard op T x y p q; binOp op T p q).run P w=.ok r w) (hx:ev l x=.sc p) (hy:ev l y=.sc q) (ho:o.op=.binOp op T x y T'):H2 P o l L (Is (.sc r) L):=
 Hm fun a w β _ hf=>by
  have h1:=hf.ev x
  have h2:=hf.ev y
  rw [hx] at h1
  rw [hy] at h2
  refine⟨r,?_,.sc⟩
  have:=hr P w
  simp only [execOp,ho,h1.inv_sc,h2.inv_sc]
  rw [Sem.run_bind,this]
  rfl

section arith
variable {x y:Operand} {T T':TypeId} {k:IntKind} {m n:Int}
theorem Hs {z:Int} (hz:k.wrap (m+n)=z) (ho:o.op=.binOp .add T x y T':=by rfl) (hx:ev l x=.sc (.int k m):=by rfl) (hy:ev l y=.sc (.int k n):=by rfl):H2 P o l L (Is (.sc (.int k z)) L):=
 qB (fun P w=>by subst hz; simp [eqGuard,binOp,Op.intArith]) hx hy ho
theorem kX {z:Int} (hz:k.wrap (m - n)=z) (ho:o.op=.binOp .sub T x y T':=by rfl) (hx:ev l x=.sc (.int k m):=by rfl) (hy:ev l y=.sc (.int k n):=by rfl):H2 P o l L (Is (.sc (.int k z)) L):=
 qB (fun P w=>by subst hz; simp [eqGuard,binOp,Op.intArith]) hx hy ho
theorem Jd8 {z:Int} (hz:k.wrap (m*n)=z) (ho:o.op=.binOp .mul T x y T':=by rfl) (hx:ev l x=.sc (.int k m):=by rfl) (hy:ev l y=.sc (.int k n):=by rfl):H2 P o l L (Is (.sc (.int k z)) L):=
 qB (fun P w=>by subst hz; simp [eqGuard,binOp,Op.intArith]) hx hy ho
theorem Hr (ho:o.op=.binOp .lss T x y T':=by rfl) (hx:ev l x=.sc (.int k m):=by rfl) (hy:ev l y=.sc (.int k n):=by rfl):H2 P o l L (Is (.sc (.bool (decide (m < n)))) L):=
 qB (fun P w=>by simp [eqGuard,binOp,Op.intCmp]) hx hy ho
theorem rQ (ho:o.op=.binOp .leq T x y T':=by rfl) (hx:ev l x=.sc (.int k m):=by rfl) (hy:ev l y=.sc (.int k n):=by rfl):H2 P o l L (Is (.sc (.bool (decide (m≤n)))) L):=
 qB (fun P w=>by simp [eqGuard,binOp,Op.intCmp]) hx hy ho
theorem dE (ho:o.op=.binOp .gtr T x y T':=by rfl) (hx:ev l x=.sc (.int k m):=by rfl) (hy:ev l y=.sc (.int k n):=by rfl):H2 P o l L (Is (.sc (.bool (decide (n < m)))) L):=
 qB (fun P w=>by simp [eqGuard,binOp,Op.intCmp]) hx hy ho
theorem cH (ho:o.op=.binOp .geq T x y T':=by rfl) (hx:ev l x=.sc (.int k m):=by rfl) (hy:ev l y=.sc (.int k n):=by rfl):H2 P o l L (Is (.sc (.bool (decide (n≤m)))) L):=
 qB (fun P w=>by simp [eqGuard,binOp,Op.intCmp]) hx hy ho
theorem Qc (ho:o.op=.binOp .eql T x y T':=by rfl) (hx:ev l x=.sc (.int k m):=by rfl) (hy:ev l y=.sc (.int k n):=by rfl):H2 P o l L (Is (.sc (.bool (decide (m=n)))) L):=
 qB (fun P w=>by simp [eqGuard,binOp,Op.intCmp]; by_cases e:m=n <;> simp [e]) hx hy ho
theorem aH (ho:o.op=.binOp .neq T x y T':=by rfl) (hx:ev l x=.sc (.int k m):=by rfl) (hy:ev l y=.sc (.int k n):=by rfl):H2 P o l L (Is (.sc (.bool (decide (m≠n)))) L):=
 qB (fun P w=>by simp [eqGuard,binOp,Op.intCmp]; by_cases e:m=n <;> simp [e]) hx hy ho
theorem Qj {b:Bool} (ho:o.op=.unOp .not T x:=by rfl) (hx:ev l x=.sc (.bool b):=by rfl):H2 P o l L (Is (.sc (.bool (!b))) L):=
 Hm fun a w β _ hf=>by
  have h1:=hf.ev x
  rw [hx] at h1
  exact⟨.bool (!b),by simp [execOp,ho,h1.inv_sc,Op.unary],.sc⟩
theorem Haa {k':IntKind} {z:Int} (hT:GW P T' k'=true) (hS:GW P T k=true) (hz:k'.wrap m=z) (ho:o.op=.convert T T' x:=by rfl) (hx:ev l x=.sc (.int k m):=by rfl):H2 P o l L (Is (.sc (.int k' z)) L):=
 Hm fun a w β _ hf=>by
  have h1:=hf.ev x
  rw [hx] at h1
  exact⟨.int k' z,by subst hz; simp [execOp,ho,h1.inv_sc,convert,underlying,GW.out hT,GW.out hS,Conv.intToInt],.sc⟩
end arith

/-! addresses and loads -/
theorem YW {x:Operand} {T f off:Nat} {cs:List AV} (hT:Jm P T f off=true) (ho:o.op=.fieldAddr T x f:=by rfl) (hx:ev l x=.dptr cs:=by rfl):H2 P o l L (Is (.dptr (cs.drop off)) L):=
 Hm fun a w β _ hf=>by
  have h1:=hf.ev x
  rw [hx] at h1
  have h2:=h1.inv_dptr
  obtain⟨ax,h0⟩:∃ ax,a.eval x=ax:=⟨_,rfl⟩
  rw [h0] at h2
  cases h2 with
  | dptr vals hS h=>
   rename_i b o'
   refine⟨.pointer (some ⟨b,o'+off,none⟩),by simp [execOp,ho,h0,wH hT],.data (.dptr (fun j=>vals (off+j)) (fun j hj=>?_) (fun j u hu=>?_))⟩
   .simp only [List.length_drop] at hj
    have:=hS (off+j) (by omega)
    rw [Nat.add_assoc]; exact this
   .rw [Pm] at hu
    exact h _ _ hu
theorem Z9 {x:Operand} {T f off i o':Nat} (hT:Jm P T f off=true) (ho:o.op=.fieldAddr T x f:=by rfl) (hx:ev l x=.ptr i o':=by rfl):H2 P o l L (Is (.ptr i (o'+off)) L):=
 Hm fun a w β _ hf=>by
  have h1:=hf.ev x
  rw [hx] at h1
  obtain⟨ax,h0⟩:∃ ax,a.eval x=ax:=⟨_,rfl⟩
  rw [h0] at h1
  cases h1 with
  | data h=>cases h
  | ptr hi h=>exact⟨_,by simp only [execOp,ho,h0,Sem.run_bind,wH hT]; rfl,.ptr hi h⟩

theorem gA {T b o':Nat} {v:Value} (hT:Jc P T=true) {w:World} (h:w.cell? ⟨b,o',none⟩=some v):(Instr.loadAt T (.pointer (some ⟨b,o',none⟩))).run P w=.ok v w:=by
 simp [Instr.loadAt,Instr.sureAddr,loadVar,mP hT,h]

theorem eW {T k b o':Nat} {vs:List Value} (hT:iC P T k=true) (hl:vs.length=k) {w:World} (h:∀ (j:Nat) v,vs[j]? = some v→w.cell? ⟨b,o'+j,none⟩=some v) :
  (Instr.loadAt T (.pointer (some ⟨b,o',none⟩))).run P w=.ok (.agg vs.toArray) w:=by
 subst hl
 have:=run_loadCells_list (P:=P) w ⟨b,o',none⟩ vs (fun j v hv=>by rw [Addr.add_lit]; exact h j v hv)
 simp [Instr.loadAt,Instr.sureAddr,loadVar,wG hT,Qn (iC.size hT),this]

theorem Ge {x:Operand} {T:Nat} {cs:List AV} (hT:Jc P T=true) (ho:o.op=.load T x:=by rfl) (hx:ev l x=.dptr cs:=by rfl) (h0:cs[0]? = some u:=by rfl):H2 P o l L (Is u L):=
 Hm fun a w β _ hf=>by
  have h1:=hf.ev x
  rw [hx] at h1
  have h2:=h1.inv_dptr
  obtain⟨ax,h3⟩:∃ ax,a.eval x=ax:=⟨_,rfl⟩
  rw [h3] at h2
  cases h2 with
  | dptr vals hS h=>
   have h4:0 < cs.length:=by
    cases cs with
    | nil=>simp at h0
    | cons=>simp
   have hc:=(hS 0 h4).2
   simp only [Nat.add_zero] at hc
   exact⟨vals 0,by simp [execOp,ho,h3,gA hT hc],.data (h 0 u h0)⟩
def takeN:Nat→List AV→Option (List AV)
 | 0,_=>some []
 | _+1,[]=>none
 | n+1,c::r=>match takeN n r with
  | some s=>some (c::s)
  | none=>none
theorem wE:∀ {k:Nat} {cs ds:List AV},takeN k cs=some ds→ds=cs.take k/\k≤cs.length
 | 0,cs,ds,h=>by simp [takeN] at h; subst h; simp
 | k+1,[],ds,h=>by simp [takeN] at h
 | k+1,c::r,ds,h=>by
  simp only [takeN] at h
  cases hr:takeN k r with
  | none=>rw [hr] at h; cases h
  | some s=>
   rw [hr] at h
   simp at h; subst h
   obtain⟨h1,h2⟩:=wE hr
   subst h1
   exact⟨rfl,by simpa using h2⟩

theorem Gj {x:Operand} {T k:Nat} {cs ds:List AV} (hT:iC P T k=true) (ho:o.op=.load T x:=by rfl) (hx:ev l x=.dptr cs:=by rfl) (h3:takeN k cs=some ds:=by rfl):H2 P o l L (Is (.agg ds) L):=
 Hm fun a w β _ hf=>by
  have h1:=hf.ev x
  rw [hx] at h1
  have h2:=h1.inv_dptr
  obtain⟨rfl,h4⟩:=wE h3
  obtain⟨ax,h0⟩:∃ ax,a.eval x=ax:=⟨_,rfl⟩
  rw [h0] at h2
  cases h2 with
  | dptr vals hS h=>
   rename_i b o'
   refine⟨.agg ((List.range k).map vals).toArray,?_,.data (.agg (by simp; omega) (fun j u v hu hv=>?_))⟩
   .have:=eW (P:=P) (b:=b) (o':=o') (vs:=(List.range k).map vals) hT (by simp) (w:=w) (fun j v hv=>by
     have hj:j < k:=by
      rcases P4 j k with h | h
      .exact h
      .simp [List.getElem?_eq_none (show ((List.range k).map vals).length≤j by simpa using h)] at hv
     simp [hj] at hv
     rw [← hv]
     exact(hS j (by omega)).2)
    simp [execOp,ho,h0,this]
   .have hj:j < k:=by
     rcases P4 j k with h | h
     .exact h
     .simp [Pk,Nat.not_lt.2 h] at hu
    simp [hj] at hv
    rw [Pk,if_pos hj] at hu
    rw [← hv]
    exact h j u hu

theorem wU {w:World} {β:H4} {i b:Nat} {t:TypeId} {cs:List AV} (h1:Sat w β L) (hi:lk L i=some (.box t cs)) (hb:β i=some b) :
  ∃ vs:Array Value,w.heap[b]? = some (.cells vs t (0,0))/\vs.size=cs.length/\∀ (j:Nat) u v,cs[j]? = some u→vs[j]? = some v→V w β L u v:=by
 obtain⟨b',h0,h⟩:=h1.obj i _ hi
 rw [hb] at h0; cases h0
 exact h

theorem Zp {x:Operand} {T i off:Nat} {t:TypeId} {cs:List AV} (hT:Jc P T=true) (ho:o.op=.load T x:=by rfl) (hx:ev l x=.ptr i off:=by rfl) (hi:lk L i=some (.box t cs):=by rfl) (h0:cs[off]? = some u:=by rfl):H2 P o l L (Is u L):=
 Hm fun a w β h3 hf=>by
  have h1:=hf.ev x
  rw [hx] at h1
  obtain⟨b,hb,h4⟩:=h1.inv_ptr
  obtain⟨vs,h5,h6,h7⟩:=wU h3 hi hb
  have h2:off < vs.size:=by
   rw [h6]
   rcases P4 off cs.length with h | h
   .exact h
   .simp [List.getElem?_eq_none h] at h0
  have hc:w.cell? ⟨b,off,none⟩=some vs[off]:=by rw [cell_of_row w b off vs t (0,0) h5]; simp [h2]
  exact⟨vs[off],by simp [execOp,ho,h4,gA hT hc],h7 off u _ h0 (by simp [h2])⟩
end pure_
end Go.Proofs.YthkihfoleenlmaaGreat
