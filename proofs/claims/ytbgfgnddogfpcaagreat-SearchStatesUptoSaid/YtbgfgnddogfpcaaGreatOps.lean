/- What each operation does to an abstract state: -/
import Derived.Test.YtbgfgnddogfpcaaGreatCore
namespace Go.Proofs.YtbgfgnddogfpcaaGreat
open Go.RowKit

/-! ### Reading off what a value can be -/
section inv
variable {w:World} {U:Gx} {L:Loc}

variable {cs:AD} {x:Value}
theorem V.inv_dptr (h:V w U L (.GY cs) x):D w (Hs w U L) (.GY cs) x:=by
 cases h with | data h=>exact h
theorem V.inv_list {k:Nat} {xs:AD} (h:V w U L (.list k xs) x):D w (Hs w U L) (.list k xs) x:=by
 cases h with | data h=>exact h
theorem V.inv_ptr {i off:Nat} (h:V w U L (.ptr i off) x):∃ b,U i=some b/\x=.pointer (some ⟨b,off,none⟩):=by
 cases h with
 | data h=>cases h
 | ptr hi h=>exact⟨_,h,rfl⟩
theorem V.inv_mp {i:Nat} (h:V w U L (.mp i) x):∃ b,U i=some b/\x=.map (some b):=by
 cases h with
 | data h=>cases h
 | mp hi h=>exact⟨_,h,rfl⟩
theorem V.inv_agg (h:V w U L (.agg cs) x):∃ vs:Array Value,x=.agg vs/\vs.size=cs.length/\∀ (j:Nat) u v,cs[j]? = some u->vs[j]? = some v->V w U L u v:=by
 cases h with
 | data h=>cases h with | agg hl h=>exact⟨_,rfl,hl,fun j u v hu hv=>.data (h j u v hu hv)⟩
 | agg hl h=>exact⟨_,rfl,hl,h⟩
theorem V.inv_tup (h:V w U L (.tup cs) x):∃ vs:Array Value,x=.tuple vs/\vs.size=cs.length/\∀ (j:Nat) u v,cs[j]? = some u->vs[j]? = some v->V w U L u v:=by
 cases h with
 | data h=>cases h with | tup hl h=>exact⟨_,rfl,hl,fun j u v hu hv=>.data (h j u v hu hv)⟩
 | tup hl h=>exact⟨_,rfl,hl,h⟩
theorem V.inv_fn {f:FuncId} (h:V w U L (.fn f cs) x):∃ vs:Array Value,x=.func (.func f) #[] vs/\vs.size=cs.length/\∀ (j:Nat) u v,cs[j]? = some u->vs[j]? = some v->V w U L u v:=by
 cases h with
 | data h=>cases h with | fn hl h=>exact⟨_,rfl,hl,fun j u v hu hv=>.data (h j u v hu hv)⟩
 | fn hl h=>exact⟨_,rfl,hl,h⟩
variable {v:Value}
theorem V.inv_opt {x:AV} (h:V w U L (.opt true x) v):V w U L x v:=by
 cases h with
 | data h=>cases h with | opt h=>exact .data (h rfl)
 | opt h=>exact h rfl
theorem V.inv_opt0 {x:AV} (h:V w U L (.opt false x) v):v=undef:=by
 cases h with
 | data h=>cases h with | opt _ h=>exact h rfl
 | opt _ h=>exact h rfl

theorem V.cell {u:AV} (h:V w U L u v) (hc:u.isCell=true):v.oneCell'=true:=by
 cases h with
 | data h=>cases h <;> first | rfl | (simp [AV.isCell] at hc; done) | exact hc | (next hb _=>rcases hb with ⟨_,rfl⟩ | ⟨_,_,_,_,_,rfl,_⟩ <;> rfl) | (next hf _=>obtain⟨_,_,_,_,_,⟨rfl,_⟩ | ⟨_,_,_,_,_,rfl,_⟩⟩:=hf <;> rfl)
 | own hd _=>cases hd <;> rfl
 | vec _ hv=>exact hv
 | BO _ hv=>exact hv
 | vsl _ hv=>exact hv
 | vcap _ hv=>exact hv
 | nst _ _ _ _ _ _ hv=>exact hv
 | nptr _ _ _ _ _ _ hv=>exact hv
 | _=>first | rfl | (simp [AV.isCell] at hc; done)

def AV.BI (u:AV):Bool:=u.cells.all AV.isCell

theorem V.cells {u:AV} (h:V w U L u v) (hc:u.BI=true) :
  v.cells.size=u.cells.length/\(∀ (j:Nat) a b,u.cells[j]? = some a->v.cells[j]? = some b->V w U L a b)/\∀ b∈v.cells.toList,b.oneCell'=true:=by
 have one:∀ (u:AV) (v:Value),V w U L u v->u.isCell=true->u.cells=[u] ->
   v.cells.size=u.cells.length/\(∀ (j:Nat) a b,u.cells[j]? = some a->v.cells[j]? = some b->V w U L a b)/\∀ b∈v.cells.toList,b.oneCell'=true:=by
  intro u v hv hu he;have h1:=hv.cell hu;have h2:v.cells=#[v]:=by cases v <;> first | rfl | simp [Value.oneCell'] at h1
  rw [h2,he];refine⟨rfl,fun j a b ha hb=>?_,fun b hb=>by simp at hb; subst hb; exact h1⟩;cases j with
  | zero=>simp at ha hb; subst ha; subst hb; exact hv
  | succ j=>simp at ha
 by_cases h0:∃ cs,u=.agg cs
 .obtain⟨cs,rfl⟩:=h0;obtain⟨vs,rfl,hl,hh⟩:=h.inv_agg;refine⟨hl,hh,fun b hb=>?_⟩;obtain⟨j,hj,e⟩:=List.mem_iff_getElem.1 hb;have h4:j < vs.size:=by simpa [Value.cells] using hj
  have h3:j < cs.length:=by omega
  have hv:=hh j cs[j] vs[j] (by simp [h3]) (by simp [h4]);have h5:cs[j].isCell=true:=by
   simp only [AV.BI,AV.cells,List.all_eq_true] at hc;exact hc _ (List.getElem_mem h3)
  have:=hv.cell h5;simp only [Value.cells,Array.getElem_toList] at e;rw [<- e]; exact this
 .have he:u.cells=[u]:=by cases u <;> first | rfl | exact absurd ⟨_,rfl⟩ h0
  refine one u v h ?_ he;simpa [AV.BI,he] using hc
end inv

/-! ### Facts on types, asked of the program by the kernel -/
def Jk (P:Program) (T f off:Nat):Bool:=
 match P.underlying T with
 | some (.struct fs)=>match fs[f]? with
  | some fld=>fld.offset==off&&(match P.info? fld.type with | some i=>i.size != 0 | none=>false)
  | none=>false
 | _=>false
def J9 (P:Program) (T:Nat):Bool:=
 match P.underlying T with
 | some (.struct _) | some (.array _ _) | none=>false
 | _=>true
def gQ (P:Program) (T k:Nat):Bool:=
 (match P.underlying T with
 | some (.struct _) | some (.array _ _)=>true
 | _=>false)&&(match P.info? T with | some i=>i.size==k | none=>false)
def R3 (P:Program) (T k:Nat):Bool:=match P.info? T with | some i=>i.size==k | none=>false
def JU (P:Program) (T:Nat) (k:IntKind):Bool:=match P.underlying T with | some (.int k')=>decide (k'=k) | _=>false
def sliceB (P:Program) (T E k:Nat):Bool:=(match P.underlying T with | some (.slice e)=>e==E | _=>false)&&R3 P E k
def Qx (P:Program) (T k:Nat):Bool:=match P.info? T with | some i=>(match i.zero with | some z=>z.cells.size==k | none=>false) | none=>false
def Qa (P:Program) (E k by_:Nat):Bool:=match P.info? E with | some i=>i.size==k&&i.bytes==by_&&(match i.zero with | some z=>z.cells.size==k | none=>false)&&decide (0 < k) | none=>false
def H5 (P : Program) (f : FuncId) : Bool := match P.funcs[f]? with | some fn => !(fn.name == "runtime.NumGoroutine") && fn.body.isSome | none => false
def G01 (P:Program) (T:Nat):Bool:=match P.underlying T with | some .bool=>true | _=>false
section facts
variable {P:Program}
variable {T k:Nat}
theorem R3.out (h:R3 P T k=true):∃ i,P.info? T=some i/\i.size=k:=by
 unfold R3 at h; split at h
 .exact⟨_,‹_›,by simpa using h⟩
 .cases h
theorem Q8 (h:R3 P T k=true) (w:World):(sizeOf T).run P w=.ok k w:=by
 obtain⟨i,hi,rfl⟩:=R3.out h;simp [sizeOf,typeInfo,hi]
theorem gQ.size (h:gQ P T k=true):R3 P T k=true:=by
 simp only [gQ,Pp] at h;exact h.2
theorem xN (h:gQ P T k=true) (w:World):(isAgg T).run P w=.ok true w:=by
 simp only [gQ,Pp] at h;have h1:=h.1;split at h1
 .simp [isAgg,underlying,‹P.underlying T=_›]
 .simp [isAgg,underlying,‹P.underlying T=_›]
 .cases h1
theorem oD (h:J9 P T=true) (w:World):(isAgg T).run P w=.ok false w:=by
 unfold J9 at h;split at h
 .cases h
 .cases h
 .cases h
 .rename_i h1 h2 h3;cases hu:P.underlying T with
  | none=>exact absurd hu h3
  | some d=>cases d <;> first | (simp [isAgg,underlying,hu]; done) | exact absurd hu (h1 _) | exact absurd hu (h2 _ _)
theorem JU.out {k:IntKind} (h:JU P T k=true):P.underlying T=some (.int k):=by
 unfold JU at h; split at h
 .rename_i k' hk; have:=P6 h; subst this; exact hk
 .cases h
theorem G01.out (h:G01 P T=true):P.underlying T=some .bool:=by
 unfold G01 at h; split at h
 .assumption
 .cases h
theorem sliceB.out {E:Nat} (h:sliceB P T E k=true):P.underlying T=some (.slice E)/\R3 P E k=true:=by
 simp only [sliceB,Pp] at h;refine⟨?_,h.2⟩;have:=h.1;split at this
 .rename_i e he; simp at this; subst this; exact he
 .cases this
theorem Qa.out {E b:Nat} (h:Qa P E k b=true):∃ i z,P.info? E=some i/\i.size=k/\i.bytes=b/\i.zero=some z/\z.cells.size=k/\0 < k:=by
 unfold Qa at h;split at h
 .rename_i i hi;simp only [Pp,beq_iff_eq,Pq] at h;obtain⟨⟨⟨h1,h2⟩,h3⟩,h4⟩:=h;split at h3
  .rename_i z hz; exact⟨i,z,hi,h1,h2,hz,by simpa using h3,h4⟩
  .cases h3
 .cases h
theorem Jk.out {f off:Nat} (h:Jk P T f off=true):∃ fs fld i,P.underlying T=some (.struct fs)/\fs[f]? = some fld/\fld.offset=off/\P.info? fld.type=some i/\i.size≠0:=by
 unfold Jk at h;split at h
 .rename_i fs h3;split at h
  .rename_i fld h0;simp only [Pp,beq_iff_eq] at h;obtain⟨h1,h2⟩:=h;split at h2
   .rename_i i hi; exact⟨fs,fld,i,h3,h0,h1,hi,by simpa using h2⟩
   .cases h2
  .cases h
 .cases h
theorem xO {f off b o:Nat} (h:Jk P T f off=true) (w:World):(Instr.fieldAt T (.pointer (some ⟨b,o,none⟩)) f).run P w=.ok (.pointer (some ⟨b,o+off,none⟩)) w:=by
 obtain⟨fs,fld,i,h1,h2,rfl,h3,h4⟩:=Jk.out h;simp [Instr.fieldAt,underlying,h1,h2,Instr.sureAddr,fieldPlace,sizeOf,typeInfo,h3,h4,Addr.add_lit]
end facts

/-! ### Operations that leave the world alone -/
section pure_
variable {P:Program} {o:Oper} {l:Fr} {L:Loc} {u:AV}

theorem Hj (h:∀ (a:Act) (w:World) (U:Gx),Sat w U L->Jq a w U L l->∃ v,(execOp a.eval o).run P w=.ok (.value v) w/\V w U L u v):Gy P o l L (Is u L):=by
 intro a w U K Q h0 hf hK;obtain⟨v,hr,hv⟩:=h a w U h0 hf;unfold Oper.wp;rw [hr];exact hK u L v w U ⟨rfl,rfl⟩ h0 (Step.refl _ _ _) hv

variable {x:Operand}
theorem G3 (ho:o.op=.move x:=by rfl) (hx:ev l x=u:=by rfl):Gy P o l L (Is u L):=
 Hj fun a w U _ hf=>⟨a.eval x,by simp [execOp,ho],hx ▸ hf.ev x⟩
theorem G7 (ho:o.op=.assign x:=by rfl) (hx:ev l x=u:=by rfl):Gy P o l L (Is u L):=
 Hj fun a w U _ hf=>⟨a.eval x,by simp [execOp,ho],hx ▸ hf.ev x⟩
theorem Qb (k:Nat) (ho:o.op=.assign x:=by rfl) (hx:ev l x=.sc (.slice none 0 0):=by rfl):Gy P o l L (Is (.list k []) L):=
 Hj fun a w U _ hf=>⟨a.eval x,by simp [execOp,ho],by
  have h:=hf.ev x;rw [hx] at h;rw [h.inv_sc];exact .data (.nil (Nat.zero_le _))⟩
variable {b:Bool} {c y:Operand}
theorem Qa9 (ho:o.op=.pick c x y:=by rfl) (hc:ev l c=.sc (.bool b):=by rfl):Gy P o l L (Is (bif b then ev l x else ev l y) L):=
 Hj fun a w U _ hf=>by
  have h:=hf.ev c;rw [hc] at h;refine⟨bif b then a.eval x else a.eval y,?_,?_⟩
  .simp only [execOp,ho,h.inv_sc,asBool,Sem.run_bind,Sem.run_pure,Result.andThen_ok];cases b <;> rfl
  .cases b
   .exact hf.ev y
   .exact hf.ev x
theorem Ro {d:Bool} (ho:o.op=.pick c x y:=by rfl) (hc:ev l c=.sc (.bool b):=by rfl) (hx:ev l x=.sc (.bool true):=by rfl) (hy:ev l y=.opt (!b) (.sc (.bool d)):=by rfl) :
  Gy P o l L (Is (.sc (.bool (b||d))) L):=
 Hj fun a w U _ hf=>by
  have h:=hf.ev c;have h1:=hf.ev x;have h2:=hf.ev y;rw [hc] at h;rw [hx] at h1;rw [hy] at h2;have hb:=h.inv_sc;have h0:=h1.inv_sc;cases b
  .have h3:=(V.inv_opt h2).inv_sc;exact⟨.bool d,by simp [execOp,ho,hb,asBool,h3],.sc⟩
  .exact⟨.bool true,by simp [execOp,ho,hb,asBool,h0],.sc⟩
theorem Jd {d:Bool} (ho:o.op=.pick c x y:=by rfl) (hc:ev l c=.sc (.bool b):=by rfl) (hx:ev l x=.opt b (.sc (.bool d)):=by rfl) (hy:ev l y=.sc (.bool false):=by rfl) :
  Gy P o l L (Is (.sc (.bool (b&&d))) L):=
 Hj fun a w U _ hf=>by
  have h:=hf.ev c;have h1:=hf.ev x;have h2:=hf.ev y;rw [hc] at h;rw [hx] at h1;rw [hy] at h2;have hb:=h.inv_sc;have h0:=h2.inv_sc;cases b
  .exact⟨.bool false,by simp [execOp,ho,hb,asBool,h0],.sc⟩
  .have h3:=(V.inv_opt h1).inv_sc;exact⟨.bool d,by simp [execOp,ho,hb,asBool,h3],.sc⟩

/-! arithmetic -/
theorem rD {T T':TypeId} {op:BinOp} {p q r:Value} (hr:∀ (P:Program) (w:World),(do eqGuard op T x y p q; binOp op T p q).run P w=.ok r w) (hx:ev l x=.sc p) (hy:ev l y=.sc q) (ho:o.op=.binOp op T x y T'):Gy P o l L (Is (.sc r) L):=
 Hj fun a w U _ hf=>by
  have h1:=hf.ev x;have h2:=hf.ev y;rw [hx] at h1;rw [hy] at h2;refine⟨r,?_,.sc⟩;have:=hr P w;simp only [execOp,ho,h1.inv_sc,h2.inv_sc];rw [Sem.run_bind,this];rfl

section arith
variable {x y:Operand} {T T':TypeId} {k:IntKind} {m n:Int}
variable {z:Int}
theorem Hw (hz:k.wrap (m+n)=z) (ho:o.op=.binOp .add T x y T':=by rfl) (hx:ev l x=.sc (.int k m):=by rfl) (hy:ev l y=.sc (.int k n):=by rfl):Gy P o l L (Is (.sc (.int k z)) L):=
 rD (fun P w=>by subst hz; simp [eqGuard,binOp,Op.intArith]) hx hy ho
theorem mJ (hz:k.wrap (m - n)=z) (ho:o.op=.binOp .sub T x y T':=by rfl) (hx:ev l x=.sc (.int k m):=by rfl) (hy:ev l y=.sc (.int k n):=by rfl):Gy P o l L (Is (.sc (.int k z)) L):=
 rD (fun P w=>by subst hz; simp [eqGuard,binOp,Op.intArith]) hx hy ho
theorem Q7c (hz:k.wrap (m*n)=z) (ho:o.op=.binOp .mul T x y T':=by rfl) (hx:ev l x=.sc (.int k m):=by rfl) (hy:ev l y=.sc (.int k n):=by rfl):Gy P o l L (Is (.sc (.int k z)) L):=
 rD (fun P w=>by subst hz; simp [eqGuard,binOp,Op.intArith]) hx hy ho
theorem Q7b (h0:n≠0) (hz:k.wrap (m.tdiv n)=z) (ho:o.op=.binOp .quo T x y T':=by rfl) (hx:ev l x=.sc (.int k m):=by rfl) (hy:ev l y=.sc (.int k n):=by rfl):Gy P o l L (Is (.sc (.int k z)) L):=
 rD (fun P w=>by subst hz; simp [eqGuard,binOp,Op.intDiv,h0]) hx hy ho
theorem Hy (ho:o.op=.binOp .lss T x y T':=by rfl) (hx:ev l x=.sc (.int k m):=by rfl) (hy:ev l y=.sc (.int k n):=by rfl):Gy P o l L (Is (.sc (.bool (decide (m < n)))) L):=
 rD (fun P w=>by simp [eqGuard,binOp,Op.intCmp]) hx hy ho
theorem mK (ho:o.op=.binOp .leq T x y T':=by rfl) (hx:ev l x=.sc (.int k m):=by rfl) (hy:ev l y=.sc (.int k n):=by rfl):Gy P o l L (Is (.sc (.bool (decide (m<=n)))) L):=
 rD (fun P w=>by simp [eqGuard,binOp,Op.intCmp]) hx hy ho
theorem Yi (ho:o.op=.binOp .gtr T x y T':=by rfl) (hx:ev l x=.sc (.int k m):=by rfl) (hy:ev l y=.sc (.int k n):=by rfl):Gy P o l L (Is (.sc (.bool (decide (n < m)))) L):=
 rD (fun P w=>by simp [eqGuard,binOp,Op.intCmp]) hx hy ho
theorem dG (ho:o.op=.binOp .geq T x y T':=by rfl) (hx:ev l x=.sc (.int k m):=by rfl) (hy:ev l y=.sc (.int k n):=by rfl):Gy P o l L (Is (.sc (.bool (decide (n<=m)))) L):=
 rD (fun P w=>by simp [eqGuard,binOp,Op.intCmp]) hx hy ho
theorem Q7 (ho:o.op=.binOp .eql T x y T':=by rfl) (hx:ev l x=.sc (.int k m):=by rfl) (hy:ev l y=.sc (.int k n):=by rfl):Gy P o l L (Is (.sc (.bool (decide (m=n)))) L):=
 rD (fun P w=>by simp [eqGuard,binOp,Op.intCmp]; by_cases e:m=n <;> simp [e]) hx hy ho
theorem cH (ho:o.op=.binOp .neq T x y T':=by rfl) (hx:ev l x=.sc (.int k m):=by rfl) (hy:ev l y=.sc (.int k n):=by rfl):Gy P o l L (Is (.sc (.bool (decide (m≠n)))) L):=
 rD (fun P w=>by simp [eqGuard,binOp,Op.intCmp]; by_cases e:m=n <;> simp [e]) hx hy ho
theorem Qs {b:Bool} (ho:o.op=.unOp .not T x:=by rfl) (hx:ev l x=.sc (.bool b):=by rfl):Gy P o l L (Is (.sc (.bool (!b))) L):=
 Hj fun a w U _ hf=>by
  have h1:=hf.ev x;rw [hx] at h1;exact⟨.bool (!b),by simp [execOp,ho,h1.inv_sc,Op.unary],.sc⟩
theorem J26 {k':IntKind} (hT:JU P T' k'=true) (hS:JU P T k=true) (hz:k'.wrap m=z) (ho:o.op=.convert T T' x:=by rfl) (hx:ev l x=.sc (.int k m):=by rfl):Gy P o l L (Is (.sc (.int k' z)) L):=
 Hj fun a w U _ hf=>by
  have h1:=hf.ev x;rw [hx] at h1;exact⟨.int k' z,by subst hz; simp [execOp,ho,h1.inv_sc,convert,underlying,JU.out hT,JU.out hS,Conv.intToInt],.sc⟩
end arith

/-! addresses and loads -/
variable {cs:AD} {T off:Nat}
theorem QT {f:Nat} (hT:Jk P T f off=true) (ho:o.op=.fieldAddr T x f:=by rfl) (hx:ev l x=.GY cs:=by rfl):Gy P o l L (Is (.GY (cs.drop off)) L):=
 Hj fun a w U _ hf=>by
  have h1:=hf.ev x;rw [hx] at h1;have h2:=h1.inv_dptr;obtain⟨ax,h0⟩:∃ ax,a.eval x=ax:=⟨_,rfl⟩;rw [h0] at h2;cases h2 with
  | GY vals hS h=>
   rename_i b o';refine⟨.pointer (some ⟨b,o'+off,none⟩),by simp [execOp,ho,h0,xO hT],.data (.GY (fun j=>vals (off+j)) (fun j hj=>?_) (fun j u hu=>?_))⟩
   .simp only [List.length_drop] at hj;have:=hS (off+j) (by omega);rw [Nat.add_assoc]; exact this
   .rw [Pm] at hu;exact h _ _ hu
variable {i o':Nat}
theorem Y9 {f:Nat} (hT:Jk P T f off=true) (ho:o.op=.fieldAddr T x f:=by rfl) (hx:ev l x=.ptr i o':=by rfl):Gy P o l L (Is (.ptr i (o'+off)) L):=
 Hj fun a w U _ hf=>by
  have h1:=hf.ev x;rw [hx] at h1;obtain⟨ax,h0⟩:∃ ax,a.eval x=ax:=⟨_,rfl⟩;rw [h0] at h1;cases h1 with
  | data h=>cases h
  | ptr hi h=>exact⟨_,by simp only [execOp,ho,h0,Sem.run_bind,xO hT]; rfl,.ptr hi h⟩

variable {w:World}
theorem gM {b:Nat} {v:Value} (hT:J9 P T=true) (h:w.cell? ⟨b,o',none⟩=some v):(Instr.loadAt T (.pointer (some ⟨b,o',none⟩))).run P w=.ok v w:=by
 simp [Instr.loadAt,Instr.sureAddr,loadVar,oD hT,h]

variable {k:Nat}
theorem fA {b:Nat} {vs:AK} (hT:gQ P T k=true) (hl:vs.length=k) (h:∀ (j:Nat) v,vs[j]? = some v->w.cell? ⟨b,o'+j,none⟩=some v) :
  (Instr.loadAt T (.pointer (some ⟨b,o',none⟩))).run P w=.ok (.agg vs.toArray) w:=by
 subst hl;have:=run_loadCells_list (P:=P) w ⟨b,o',none⟩ vs (fun j v hv=>by rw [Addr.add_lit]; exact h j v hv);simp [Instr.loadAt,Instr.sureAddr,loadVar,xN hT,Q8 (gQ.size hT),this]

theorem Gc (hT:J9 P T=true) (ho:o.op=.load T x:=by rfl) (hx:ev l x=.GY cs:=by rfl) (h0:cs[0]? = some u:=by rfl):Gy P o l L (Is u L):=
 Hj fun a w U _ hf=>by
  have h1:=hf.ev x;rw [hx] at h1;have h2:=h1.inv_dptr;obtain⟨ax,h3⟩:∃ ax,a.eval x=ax:=⟨_,rfl⟩;rw [h3] at h2;cases h2 with
  | GY vals hS h=>
   have h4:0 < cs.length:=by
    cases cs with
    | nil=>simp at h0
    | cons=>simp
   have hc:=(hS 0 h4).2;simp only [Nat.add_zero] at hc;exact⟨vals 0,by simp [execOp,ho,h3,gM hT hc],.data (h 0 u h0)⟩
def takeN:Nat->AD->Option AD
 | 0,_=>some []
 | _+1,[]=>none
 | n+1,c::r=>match takeN n r with
  | some s=>some (c::s)
  | none=>none
theorem xK:∀ {k:Nat} {cs ds:AD},takeN k cs=some ds->ds=cs.take k/\k<=cs.length
 | 0,cs,ds,h=>by simp [takeN] at h; subst h; simp
 | k+1,[],ds,h=>by simp [takeN] at h
 | k+1,c::r,ds,h=>by
  simp only [takeN] at h;cases hr:takeN k r with
  | none=>rw [hr] at h; cases h
  | some s=>
   rw [hr] at h;simp at h; subst h;obtain⟨h1,h2⟩:=xK hr;subst h1;exact⟨rfl,by simpa using h2⟩

theorem Gm {ds:AD} (hT:gQ P T k=true) (ho:o.op=.load T x:=by rfl) (hx:ev l x=.GY cs:=by rfl) (h3:takeN k cs=some ds:=by rfl):Gy P o l L (Is (.agg ds) L):=
 Hj fun a w U _ hf=>by
  have h1:=hf.ev x;rw [hx] at h1;have h2:=h1.inv_dptr;obtain⟨rfl,h4⟩:=xK h3;obtain⟨ax,h0⟩:∃ ax,a.eval x=ax:=⟨_,rfl⟩;rw [h0] at h2;cases h2 with
  | GY vals hS h=>
   rename_i b o';refine⟨.agg ((List.range k).map vals).toArray,?_,.data (.agg (by simp; omega) (fun j u v hu hv=>?_))⟩
   .have:=fA (P:=P) (b:=b) (o':=o') (vs:=(List.range k).map vals) hT (by simp) (w:=w) (fun j v hv=>by
     have hj:j < k:=by
      rcases P4 j k with h | h
      .exact h
      .simp [List.getElem?_eq_none (show ((List.range k).map vals).length<=j by simpa using h)] at hv
     simp [hj] at hv;rw [<- hv];exact(hS j (by omega)).2)
    simp [execOp,ho,h0,this]
   .have hj:j < k:=by
     rcases P4 j k with h | h
     .exact h
     .simp [Pk,Nat.not_lt.2 h] at hu
    simp [hj] at hv;rw [Pk,if_pos hj] at hu;rw [<- hv];exact h j u hu

variable {t:TypeId}
theorem yB {U:Gx} {b:Nat} (h1:Sat w U L) (hi:lk L i=some (.box t cs)) (hb:U i=some b) :
  ∃ vs:Array Value,w.heap[b]? = some (.cells vs t (0,0))/\vs.size=cs.length/\∀ (j:Nat) u v,cs[j]? = some u->vs[j]? = some v->V w U L u v:=by
 obtain⟨b',h0,h⟩:=h1.obj i _ hi;rw [hb] at h0; cases h0;exact h

theorem Rn (hT:J9 P T=true) (ho:o.op=.load T x:=by rfl) (hx:ev l x=.ptr i off:=by rfl) (hi:lk L i=some (.box t cs):=by rfl) (h0:cs[off]? = some u:=by rfl):Gy P o l L (Is u L):=
 Hj fun a w U h3 hf=>by
  have h1:=hf.ev x;rw [hx] at h1;obtain⟨b,hb,h4⟩:=h1.inv_ptr;obtain⟨vs,h5,h6,h7⟩:=yB h3 hi hb;have h2:off < vs.size:=by
   rw [h6];rcases P4 off cs.length with h | h
   .exact h
   .simp [List.getElem?_eq_none h] at h0
  have hc:w.cell? ⟨b,off,none⟩=some vs[off]:=by rw [cell_of_row w b off vs t (0,0) h5]; simp [h2]
  exact⟨vs[off],by simp [execOp,ho,h4,gM hT hc],h7 off u _ h0 (by simp [h2])⟩
theorem wE {ds:AD} (hT:gQ P T k=true) (ho:o.op=.load T x:=by rfl) (hx:ev l x=.ptr i off:=by rfl) (hi:lk L i=some (.box t cs):=by rfl) (h3:takeN k (cs.drop off)=some ds:=by rfl) :
  Gy P o l L (Is (.agg ds) L):=
 Hj fun a w U h2 hf=>by
  have h1:=hf.ev x;rw [hx] at h1;obtain⟨rfl,h0⟩:=xK h3;obtain⟨b,hb,h4⟩:=h1.inv_ptr;obtain⟨vs,h5,h7,h6⟩:=yB h2 hi hb;refine⟨.agg ((vs.toList.drop off).take k).toArray,?_,.agg (by simp at h0 ⊢; omega) (fun j u v hu hv=>?_)⟩
  .have:=fA (P:=P) (b:=b) (o':=off) (vs:=(vs.toList.drop off).take k) hT (by simp at h0 ⊢; omega) (w:=w) (fun j v hv=>by
    rw [cell_of_row w b (off+j) vs t (0,0) h5];have hj:j < k:=by
     rcases P4 j k with h | h
     .exact h
     .simp [Pk,Nat.not_lt.2 h] at hv
    rw [Pk,if_pos hj,Pm] at hv;simpa using hv)
   simp [execOp,ho,h4,this]
  .have hj:j < k:=by
    rcases P4 j k with h | h
    .exact h
    .simp [Pk,Nat.not_lt.2 h] at hu
   rw [Pk,if_pos hj,Pm] at hu;refine h6 (off+j) u v hu ?_;simpa [Pk,hj,Pm] using hv
end pure_
end Go.Proofs.YtbgfgnddogfpcaaGreat
