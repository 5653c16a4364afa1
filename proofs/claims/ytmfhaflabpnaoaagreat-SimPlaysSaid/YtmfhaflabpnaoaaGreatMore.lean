/-
 Calls whose result is known,closures,the small builtins,slic When two structs or arrays of plain cells are equal,and thei Points where ways meet again; Maps that count. Local structs that hold slices that are still appended to;
-/
import Derived.Test.YtmfhaflabpnaoaaGreatMapOps
namespace Go.Proofs.YtmfhaflabpnaoaaGreat
open Go.RowKit
set_option linter.unusedVariables false
set_option linter.unusedSimpArgs false

section
variable {P:Program} {o:Oper} {l:Fr} {L:Loc} {u:AV}

theorem H2.is {R:AV→Loc→Prop} (h:H2 P o l L R) {L':Loc} (hR:∀ r M,R r M→r=u∧M=L'):H2 P o l L (Is u L'):=
  fun a w β K Q hs hf hK=>h a w β K Q hs hf fun r M v w' β' hr=>hK r M v w' β' (hR r M hr)

theorem Gw {f:FuncId} {xs:List Operand} {args:List AV} {ts:Array TypeId} (ho:o.op=.call { callee:=.value (.func f),args:=xs.toArray,argTypes:=ts }) (hc:Pure P f args (·=u)) (hB:H9 P f=true) (ha:G60 l xs args):H2 P o l L (Is u L):=
  (Y47 hc hB ha ho).is fun r M h=>⟨h.2,h.1⟩

theorem G56 {f:FuncId} {x:Operand} {xs:List Operand} {args caps:List AV} {ts:Array TypeId} (ho:o.op=.call { callee:=.value x,args:=xs.toArray,argTypes:=ts }) (hx:ev l x=.fn f caps) (hc:Pure P f (args++caps) (·=u)) (hB:H9 P f=true) (ha:G60 l xs args) (h0:Qs (fun _=>false) caps=true):H2 P o l L (Is u L):=
  (Y7e hc hB ha ho hx h0).is fun r M h=>⟨h.2,h.1⟩

section small
variable {x y:Operand} {T T':TypeId} {k:IntKind} {m n:Int} {ts:Array TypeId}
theorem Yfc (ho:o.op=.call { callee:=.builtin .max,args:=#[x,y],argTypes:=ts }) (hx:ev l x=.sc (.int k m)) (hy:ev l y=.sc (.int k n)):H2 P o l L (Is (.sc (.int k (max m n))) L):=
  Hf fun a w β h0 hf=>by
    have h1:=hf.ev x
    have h2:=hf.ev y
    rw [hx] at h1; rw [hy] at h2
    refine⟨_,?_,.sc⟩
    have e:(if n > m then n else m)=max m n:=by simp only [Int.max_def]; split <;> split <;> omega
    simp [execOp,ho,resolve,invoke,builtin,Builtin.max_,Builtin.max2,h1.inv_sc,h2.inv_sc,e]
theorem Q5b {a b:Bool} (hT:Jb7 P T=true) (ho:o.op=.binOp .eql T x y T') (hx:ev l x=.sc (.bool a)) (hy:ev l y=.sc (.bool b)):H2 P o l L (Is (.sc (.bool (a==b))) L):=
  Hf fun ac w β h0 hf=>by
    have h1:=hf.ev x
    have h2:=hf.ev y
    rw [hx] at h1; rw [hy] at h2
    refine⟨_,?_,.sc⟩
    simp [execOp,ho,eqGuard,binOp,h1.inv_sc,h2.inv_sc,run_equal_bool w T a b (Jb7.out hT)]
theorem Y3e {a b:Bool} (hT:Jb7 P T=true) (ho:o.op=.binOp .neq T x y T') (hx:ev l x=.sc (.bool a)) (hy:ev l y=.sc (.bool b)):H2 P o l L (Is (.sc (.bool (!(a==b)))) L):=
  Hf fun ac w β h0 hf=>by
    have h1:=hf.ev x
    have h2:=hf.ev y
    rw [hx] at h1; rw [hy] at h2
    refine⟨_,?_,.sc⟩
    simp [execOp,ho,eqGuard,binOp,h1.inv_sc,h2.inv_sc,run_equal_bool w T a b (Jb7.out hT)]

theorem Ri {i off:Nat} (ho:o.op=.nilCheck x) (hx:ev l x=.ptr i off):H2 P o l L (Is (.ptr i off) L):=
  Hf fun ac w β h0 hf=>by
    have h1:=hf.ev x
    rw [hx] at h1
    obtain⟨b,_,e⟩:=h1.inv_ptr
    exact⟨ac.eval x,by rw [e]; simp [execOp,ho,e],h1⟩
theorem G61 {cs:List AV} (ho:o.op=.nilCheck x) (hx:ev l x=.dptr cs):H2 P o l L (Is (.dptr cs) L):=
  Hf fun ac w β h0 hf=>by
    have h1:=hf.ev x
    rw [hx] at h1
    have h2:=h1.inv_dptr
    refine⟨ac.eval x,?_,h1⟩
    generalize hv:ac.eval x=v at h2
    cases h2
    simp [execOp,ho,hv]
theorem R0 {f:FuncId} {xs:List Operand} {cs:List AV} (ho:o.op=.makeFunc (.func f) #[] xs.toArray) (hx:xs.map (ev l)=cs):H2 P o l L (Is (.fn f cs) L):=
  Hf fun ac w β h0 hf=>by
    refine⟨.func (.func f) #[] (xs.map ac.eval).toArray,by simp [execOp,ho,Instr.makeFunc],?_⟩
    subst hx
    refine .fn (vs:=(xs.map ac.eval).toArray) (by simp) fun j u v hu hv=>?_
    simp only [M9,Option.map_eq_some_iff,List.getElem?_toArray] at hu hv
    obtain⟨p,hp,rfl⟩:=hu
    obtain⟨q,hq,rfl⟩:=hv
    rw [hp] at hq; cases hq
    exact hf.ev p
end small

/-! ### Parts of slices -/
theorem Hf9 {k:Nat}:∀ {xs:List AV},(∀ x∈xs,x.cells.length=k)→∀ m,flat (xs.drop m)=(flat xs).drop (m*k)
  | [],_,m=>by simp [flat]
  | x::r,h,0=>by simp
  | x::r,h,m+1=>by
    have h1:=h x (by simp)
    rw [List.drop_succ_cons,Hf9 (fun y hy=>h y (by simp [hy])) m]
    simp only [flat]
    rw [List.drop_append,h1]
    have e:(m+1)*k=k+m*k:=by rw [Nat.succ_mul]; omega
    rw [e]
    have e1:List.drop (k+m*k) x.cells=[]:=by simp [h1]
    rw [e1]; simp
theorem G72 {k:Nat}:∀ {xs:List AV},(∀ x∈xs,x.cells.length=k)→∀ m,flat (xs.take m)=(flat xs).take (m*k)
  | [],_,m=>by simp [flat]
  | x::r,h,0=>by simp [flat]
  | x::r,h,m+1=>by
    have h1:=h x (by simp)
    rw [List.take_succ_cons]
    simp only [flat]
    rw [G72 (fun y hy=>h y (by simp [hy])) m,List.take_append,h1]
    have e:(m+1)*k=k+m*k:=by rw [Nat.succ_mul]; omega
    rw [e]
    have e1:List.take (k+m*k) x.cells=x.cells:=by rw [List.take_of_length_le]; omega
    rw [e1]; simp

theorem D.part {w:World} {S:Nat→Nat→Prop} {k m n:Nat} {xs:List AV} {a:Option Addr} {len cap:Nat} (h:D w S (.list k xs) (.slice a len cap)) (h2:m≤n) (hn:n≤xs.length) :
    D w S (.list k ((xs.drop m).take (n - m))) (.slice (if cap=m then a else a.map (·.add (m*k))) (n - m) (cap - m)):=by
  have h1:=h.len
  obtain⟨ao,c,he,h5,h6⟩:=h1
  injection he with e1 e2 e3
  subst e2; subst e3
  rcases Nat.eq_or_lt_of_le h2 with e | h7
  · subst e
    simp only [Nat.sub_self,List.take_zero]
    exact .nil (by omega)
  · have h3:¬ cap=m:=by omega
    rw [if_neg h3]
    generalize hx:xs=ys at *
    cases h with
    | nil _=>simp at hn; omega
    | @list _ b off _ _ vals h4 hm hk hS h=>
      have hl:(List.take (n - m) (List.drop m ys)).length=n - m:=by simp; omega
      have h0:flat (List.take (n - m) (List.drop m ys))=((flat ys).drop (m*k)).take ((n - m)*k):=by
        rw [G72 (fun y hy=>hk y (List.mem_of_mem_drop hy)),Hf9 hk]
      have h8:=J3 hk
      have h9:m*k+(n - m)*k≤ys.length*k:=by rw [← Nat.add_mul]; exact Nat.mul_le_mul_right _ (by omega)
      have e:(some (⟨b,off,none⟩:Addr)).map (·.add (m*k))=some ⟨b,off+m*k,none⟩:=by simp [Addr.add]
      rw [e]
      have key:D w S (.list k (List.take (n - m) (List.drop m ys))) (.slice (some ⟨b,off+m*k,none⟩) (List.take (n - m) (List.drop m ys)).length (cap - m)):=by
       refine .list (fun j=>vals (m*k+j)) (by omega) (by omega) (fun x hx=>hk x (List.mem_of_mem_drop (List.mem_of_mem_take hx))) (fun j hj=>?_) (fun j u hu=>?_)
       · rw [h0] at hj
         simp only [List.length_take,List.length_drop] at hj
         have:=hS (m*k+j) (by omega)
         rw [← Nat.add_assoc] at this
         exact this
       · rw [h0] at hu
         rw [Ma] at hu
         split at hu
         · rw [Mb] at hu
           exact h _ u hu
         · cases hu
      rwa [hl] at key

theorem Hef {T E k:Nat} (hT:sliceB P T E k=true) (a:Option Addr) (len cap m n:Nat) (lo hi:Option Value) (w:World) (h0:m≤n) (hn:n≤len) (hc:len≤cap)
    (h4:(lo=none∧m=0)∨∃ kd,lo=some (.int kd m)) (h5:(hi=none∧n=len)∨∃ kd,hi=some (.int kd n)) :
    (Instr.sliceAt T (.slice a len cap) lo hi none).run P w=.ok (.slice (if cap=m then a else a.map (·.add (m*k))) (n - m) (cap - m)) w:=by
  obtain⟨h1,h2⟩:=sliceB.out hT
  have h3:=Q9 h2 w
  have hb:∀ (kd:IntKind) (i:Nat) (y:Nat) (c:BoundsCode),i≤y→(Instr.sliceBound (.int kd (i:Int)) y c).run P w=.ok i w:=fun kd i y c hi=>by
    have:(0:Int)≤i∧(i:Int)≤y:=⟨by omega,by omega⟩
    simp [Instr.sliceBound,asIntOf,this]
  have hs:(Instr.sliceBounds true len cap lo hi none).run P w=.ok (m,n,cap) w:=by
    rcases h4 with ⟨rfl,rfl⟩ | ⟨kd,rfl⟩ <;> rcases h5 with ⟨rfl,rfl⟩ | ⟨kd',rfl⟩
    · simp [Instr.sliceBounds]
    · simp [Instr.sliceBounds,hb _ n cap _ (by omega)]
    · simp [Instr.sliceBounds,hb _ m n _ h0]
    · simp [Instr.sliceBounds,hb _ m n _ h0,hb _ n cap _ (by omega)]
  simp [Instr.sliceAt,Instr.slice,run_underlying h1,hs,h3]

theorem Rbe {x:Operand} {T E k m n:Nat} {lo hi:Option Operand} {xs:List AV} (ho:o.op=.slice T x lo hi none) (hT:sliceB P T E k=true) (hx:Qb (ev l x)=some (k,xs))
    (h2:(lo=none∧m=0)∨∃ kd p,lo=some p∧ev l p=.sc (.int kd m)) (h3:(hi=none∧n=xs.length)∨∃ kd p,hi=some p∧ev l p=.sc (.int kd n)) (h0:m≤n) (hn:n≤xs.length) :
    H2 P o l L (Is (.list k ((xs.drop m).take (n - m))) L):=
  Hf fun a w β h5 hf=>by
    have h1:=(hf.ev x).Qb hx
    obtain⟨ao,cap,he,h4,h6⟩:=h1.len
    rw [he] at h1
    refine⟨_,?_,.data (h1.part h0 hn)⟩
    simp only [execOp,ho,he,Sem.run_bind,Option.map_none]
    rw [Hef hT ao xs.length cap m n _ _ w h0 hn h4]
    · rfl
    · rcases h2 with ⟨rfl,rfl⟩ | ⟨kd,p,rfl,hp⟩
      · exact .inl ⟨rfl,rfl⟩
      · refine .inr ⟨kd,?_⟩
        have:=hf.ev p; rw [hp] at this
        simp [this.inv_sc]
    · rcases h3 with ⟨rfl,rfl⟩ | ⟨kd,p,rfl,hp⟩
      · exact .inl ⟨rfl,rfl⟩
      · refine .inr ⟨kd,?_⟩
        have:=hf.ev p; rw [hp] at this
        simp [this.inv_sc]
theorem Rf4 {x p:Operand} {T E k n:Nat} {kd:IntKind} {ni:Int} {xs:List AV} (ho:o.op=.slice T x none (some p) none) (hx:Qb (ev l x)=some (k,xs)) (hp:ev l p=.sc (.int kd ni)) (hT:sliceB P T E k=true) (hn:ni=(n:Int)) (h0:n≤xs.length) :
    H2 P o l L (Is (.list k (xs.take n)) L):=by
  subst hn
  have h:=Rbe (L:=L) (m:=0) ho hT hx (.inl ⟨rfl,rfl⟩) (.inr ⟨kd,p,rfl,hp⟩) (Nat.zero_le _) h0
  simpa using h
end

/-! ### A local variable that is not written any more -/
inductive Frz (i:Nat) (cs:List AV) (ok:Nat→Bool):AV→AV→Prop
  | conv {u u':AV} (h:Conv ok u u'):Frz i cs ok u u'
  | ptr {off:Nat}:Frz i cs ok (.ptr i off) (.dptr (cs.drop off))
def R8c (i:Nat) (cs:List AV) (ok:Nat→Bool) (l:Fr):Fr→Prop
  | []=>True
  | (t,u)::r=>Frz i cs ok (look l t) u∧R8c i cs ok l r
theorem R8c.get {i:Nat} {cs:List AV} {ok:Nat→Bool} {l:Fr}:∀ {l':Fr},R8c i cs ok l l'→∀ t,Frz i cs ok (look l t) (look l' t)
  | [],_,t=>.conv .junk
  | (t',u)::r,h,t=>by
    by_cases e:t'=t
    · subst e; simpa [look] using h.1
    · have hb:Nat.beq t' t=false:=by
        cases hb:Nat.beq t' t with
        | false=>rfl
        | true=>exact absurd (Ks hb) e
      simpa [look,hb] using h.2.get t

theorem V.freeze {w:World} {β:H5} {L L':Loc} {i off:Nat} {t:TypeId} {cs:List AV} (h0:Sat w β L) (hi:lk L i=some (.box t cs)) (hd:Qs (fun _=>false) cs=true) (h6:J32 L L') (h7:lk L' i=none) {v:Value}
    (h:V w β L (.ptr i off) v):V w β L' (.dptr (cs.drop off)) v:=by
  obtain⟨b,hb,rfl⟩:=h.inv_ptr
  obtain⟨vs,h1,h2,h3⟩:=He0 h0 hi hb
  have h8:b < w.heap.size:=h0.bnd i b (by rw [hi]; rfl) hb
  refine .data (.dptr (fun j=>(vs[off+j]?).getD undef) (fun j hj=>⟨⟨h8,h0.apart i b _ (by rw [hi]; rfl) hb,fun id o' h5 h9=>?_⟩,?_⟩) (fun j u hu=>?_))
  · obtain⟨o1,a0,_⟩:=h6.like id o' h5
    have:=h0.inj id i b (by rw [a0]; rfl) (by rw [hi]; rfl) h9 hb
    subst this
    rw [h7] at h5; cases h5
  · simp only [List.length_drop] at hj
    have h4:off+j < vs.size:=by omega
    simp [World.cell?,h1,h4]
  · rw [Mb] at hu
    have h4:off+j < vs.size:=by rw [h2]; exact(M0 hu).1
    have hv:=h3 (off+j) u vs[off+j] hu (by simp [h4])
    have hm:u∈cs:=M3 hu
    have hD:=(hv.toD (G05 hd u hm)).mono (S':=Jj w β L') fun b' i' hs=>⟨h6.stab hs,rfl⟩
    simpa [h4] using hD

theorem Rf.freeze {N:Cfg} {w0 w:World} {β0 β:H5} {L0 L L':Loc} {a:Act} {l l':Fr} (hs:Rf N w0 β0 L0 a w β l L) (i:Nat) {t:TypeId} {cs:List AV} (hi:lk L i=some (.box t cs)) (hd:Qs (fun _=>false) cs=true)
    (h2:lk L' i=none) (hl:Ge4 (fun j=>(lk L' j).isSome) L L') (hb:allIn L' N.base=true) (hf:R8c i cs (fun j=>(lk L' j).isSome) l l'):Rf N w0 β0 L0 a w β l' L':=by
  have h0:Fits N.base l L [] L':=⟨trivial,hl,hb⟩
  have h1:=hs.fits h0
  refine⟨h1.sat,h1.step,⟨fun t'=>?_⟩,h1.size,h1.base,h1.defers⟩
  have hv:=hs.frame.tmp t'
  generalize hu:look l t'=u at hv
  have hz:=hf.get t'
  rw [hu] at hz
  generalize look l' t'=u' at hz
  cases hz with
  | conv hc=>exact hv.conv h0.drop hc
  | ptr=>exact hv.freeze hs.sat hi hd h0.drop h2
theorem Gu {P:Program} {N:Cfg} {c:Code} {Q:Post} {l:Fr} {L:Loc} (l':Fr) (L':Loc) (i:Nat) {t:TypeId} {cs:List AV} (hi:lk L i=some (.box t cs)) (hd:Qs (fun _=>false) cs=true)
    (h0:lk L' i=none) (hl:Ge4 (fun j=>(lk L' j).isSome) L L') (hb:allIn L' N.base=true) (hf:R8c i cs (fun j=>(lk L' j).isSome) l l') (hk:JC P N c Q l' L'):JC P N c Q l L:=
  fun n w0 β0 L0 a w β hs=>hk n w0 β0 L0 a w β (hs.freeze i hi hd h0 hl hb hf)
theorem fzQ {P:Program} {N:Cfg} {c:Code} {Q:Post} {l:Fr} {L:Loc} (l':Fr) (L':Loc) (i:Nat) {t:TypeId} {cs:List AV} (hi:lk L i=some (.box t cs)) (hd:Qs (fun _=>false) cs=true)
    (h0:lk L' i=none) (hl:Ge4 (fun j=>(lk L' j).isSome) L L') (hb:allIn L' N.base=true) (hk:JC P N c Q l' L') (hf:R8c i cs (fun j=>(lk L' j).isSome) l l':=by repeat' (first | exact .ptr | constructor)):JC P N c Q l L:=Gu l' L' i hi hd h0 hl hb hf hk
set_option linter.unusedVariables false
set_option linter.unusedSimpArgs false

def Q2b (P:Program) (T:TypeId) (x y:Value):Option Bool:=
  match P.underlying T,x,y with
  | some .bool,.bool a,.bool b=>some (a==b)
  | some (.int _),.int k a,.int k' b=>if k=k' then some (a==b) else none
  | some .string,.string a,.string b=>some (a==b)
  | _,_,_=>none

def both:Option Bool→Option Bool→Option Bool
  | some a,some b=>some (a&&b)
  | _,_=>none

def seg (P:Program) (T:TypeId) (xs:List Value) (off:Nat):Option (List Value):=
  let r:=(xs.drop off).take (P.cellsOf T)
  if r.length=P.cellsOf T then some r else none

def J03 (P:Program):Nat→TypeId→List Value→List Value→Option Bool
  | 0,_,_,_=>none
  | m+1,T,xs,ys=>
    match P.underlying T with
    | some (.array n e)=>if (P.info? e).isSome then (List.range n).foldr (fun i r=>both (match seg P e xs (i*P.cellsOf e),seg P e ys (i*P.cellsOf e) with
        | some a,some b=>J03 P m e a b
        | _,_=>none) r) (some true) else none
    | some (.struct fs) => if P.stoodInHeld T then none else fs.toList.foldr (fun f r => if f.name = "_" then none else both (match seg P f.type xs f.offset, seg P f.type ys f.offset with
        | some a,some b=>J03 P m f.type a b
        | _,_=>none) r) (some true)
    | _=>match xs,ys with
      | [x],[y]=>Q2b P T x y
      | _,_=>none

section
variable {P:Program} (w:World)

def G3c (P:Program) (T:TypeId):Bool:=match P.underlying T with | some (.struct _) | some (.array _ _)=>true | _=>false
def Reads (P:Program) (T:TypeId) (x:Value) (xs:List Value):Prop:=if G3c P T then x=.agg xs.toArray else xs=[x]

theorem Q9a {a b:Option Bool} {r:Bool} (h:both a b=some r):∃ p q,a=some p∧b=some q∧r=(p&&q):=by
  unfold both at h
  split at h
  · cases h; exact⟨_,_,rfl,rfl,rfl⟩
  · cases h

theorem Ha4 {T off:Nat} {xs:Array Value} {s:List Value} (hi:(P.info? T).isSome=true) (hu:∃ d,P.underlying T=some d) (h:seg P T xs.toList off=some s) (h1:G3c P T=false→∃ x,s=[x]) :
    ∃ a,(part T xs off).run P w=.ok a w∧Reads P T a s:=by
  obtain⟨i,hi⟩:=Ko hi
  obtain⟨d,hu⟩:=hu
  unfold seg at h
  simp only at h
  split at h
  · rename_i hl
    cases h
    have hc:P.cellsOf T=i.size:=by simp [Program.cellsOf,hi]
    by_cases ha:G3c P T=true
    · refine⟨.agg (xs.extract off (off+i.size)),?_,?_⟩
      · have hg:(isAgg T).run P w=.ok true w:=by
          unfold G3c at ha
          split at ha
          · rename_i fs e; simp [isAgg,run_underlying e]
          · rename_i n e' e; simp [isAgg,run_underlying e]
          · cases ha
        simp [part,hg,run_sizeOf w hi,hc]
      · unfold Reads
        rw [if_pos ha,hc]
        congr 1
        apply Array.ext'
        simp [List.take_drop,Nat.add_comm]
    · have h2:G3c P T=false:=by simpa using ha
      obtain⟨x,hx⟩:=h1 h2
      refine⟨x,?_,?_⟩
      · have hg:(isAgg T).run P w=.ok false w:=by
          unfold G3c at h2
          cases d <;> simp [hu] at h2 <;> simp [isAgg,run_underlying hu]
        have h0:xs[off]? = some x:=by
          have:((xs.toList.drop off).take (P.cellsOf T))[0]? = some x:=by rw [hx]; rfl
          rw [Ma] at this
          split at this
          · simpa [Mb] using this
          · cases this
        simp [part,hg,h0]
      · unfold Reads
        rw [if_neg ha]
        exact hx
  · cases h

theorem Q93 {m T:Nat} {xs ys:List Value} {r:Bool} (ha:G3c P T=false) (h:J03 P (m+1) T xs ys=some r):∃ x y,xs=[x]∧ys=[y]∧Q2b P T x y=some r:=by
  unfold J03 at h
  split at h
  · rename_i e; simp [G3c,e] at ha
  · rename_i e; simp [G3c,e] at ha
  · split at h
    · exact⟨_,_,rfl,rfl,h⟩
    · cases h

theorem H3f {T:TypeId} {d:TypeDesc} (h:P.underlying T=some d):(P.info? T).isSome=true:=by
  obtain⟨i,hi⟩:=info_of_underlying h
  simp [hi]

theorem R16 {m T:Nat} {xs ys:List Value} {r:Bool} (h:J03 P m T xs ys=some r):∃ d,P.underlying T=some d:=by
  cases m with
  | zero=>cases h
  | succ m=>
    unfold J03 at h
    cases hu:P.underlying T with
    | some d=>exact⟨d,rfl⟩
    | none=>
      rw [hu] at h
      simp only at h
      split at h
      · unfold Q2b at h; rw [hu] at h; cases h
      · cases h

theorem J42 (d:Nat):∀ (m:Nat) (T:TypeId) (x y:Value) (xs ys:List Value) (r:Bool) (w:World),J03 P m T xs ys=some r→Reads P T x xs→Reads P T y ys→(Op.equalIn (d+m) T x y).run P w=.ok r w
  | 0,_,_,_,_,_,_,_,h,_,_=>by cases h
  | m+1,T,x,y,xs,ys,r,w,h,hx,hy=>by
    have step:∀ (T' off:Nat) (X Y:Array Value) (p:Bool) (w:World),(match seg P T' X.toList off,seg P T' Y.toList off with
        | some a,some b=>J03 P m T' a b
        | _,_=>none)=some p→∃ a b,(part T' X off).run P w=.ok a w∧(part T' Y off).run P w=.ok b w∧(Op.equalIn (d+m) T' a b).run P w=.ok p w:=by
      intro T' off X Y p w hp
      split at hp
      · rename_i a b h1 h2
        have hu:=R16 hp
        obtain⟨dd,h0⟩:=hu
        have hi:=H3f h0
        have h3:G3c P T'=false→∃ x y,a=[x]∧b=[y]∧Q2b P T' x y=some p:=fun ha=>by
          cases m with
          | zero=>cases hp
          | succ m'=>exact Q93 ha hp
        obtain⟨u,h7,h8⟩:=Ha4 w hi ⟨dd,h0⟩ h1 (fun ha=>by obtain⟨x,y,e,_,_⟩:=h3 ha; exact⟨x,e⟩)
        obtain⟨v,h9,a0⟩:=Ha4 w hi ⟨dd,h0⟩ h2 (fun ha=>by obtain⟨x,y,_,e,_⟩:=h3 ha; exact⟨y,e⟩)
        exact⟨u,v,h7,h9,J42 d m T' u v a b p w hp h8 a0⟩
      · cases hp
    have hh:=h
    unfold J03 at h
    split at h
    · rename_i n e hu
      have ha:G3c P T=true:=by simp [G3c,hu]
      unfold Reads at hx hy
      rw [if_pos ha] at hx hy
      subst hx; subst hy
      split at h
      · rename_i hi
        obtain⟨i,hi⟩:=Ko hi
        rw [show d+(m+1)=(d+m)+1 from rfl,run_equalIn_array w (d+m) xs.toArray ys.toArray hu hi]
        generalize List.range n=is at h
        clear hh
        induction is generalizing r with
        | nil=>simp at h; subst h; simp [Op.eqItems]
        | cons j is ih=>
          rw [List.foldr_cons] at h
          obtain⟨p,q,hp,hq,rfl⟩:=Q9a h
          obtain⟨a,b,p1,p2,p3⟩:=step e (j*P.cellsOf e) xs.toArray ys.toArray p w hp
          simp only [Op.eqItems,Sem.run_bind,p1,p2,p3,Result.andThen_ok]
          cases p
          · simp
          · simpa using ih q hq
      · cases h
    · rename_i fs hu
      have ha:G3c P T=true:=by simp [G3c,hu]
      unfold Reads at hx hy
      rw [if_pos ha] at hx hy
      subst hx; subst hy
      split at h
      · cases h
      · rename_i a1
        have h4:P.fieldsOf T=fs:=by simp [Program.fieldsOf,hu]
        rw [show d+(m+1)=(d+m)+1 from rfl,run_equalIn_struct w (d+m) T xs.toArray ys.toArray (by rw [h4]; exact hu) (by simpa using a1),h4]
        generalize fs.toList=fl at h
        clear hh
        induction fl generalizing r with
        | nil=>simp at h; subst h; simp [Op.eqFields]
        | cons f fl ih=>
          rw [List.foldr_cons] at h
          split at h
          · cases h
          · rename_i hn
            obtain⟨p,q,hp,hq,rfl⟩:=Q9a h
            obtain⟨a,b,p1,p2,p3⟩:=step f.type f.offset xs.toArray ys.toArray p w hp
            unfold Op.eqFields
            rw [if_pos hn]
            simp only [Sem.run_bind,p1,p2,p3,Result.andThen_ok]
            cases p
            · simp
            · simpa using ih q hq
    · rename_i h5 h6
      have ha:G3c P T=false:=by
        unfold G3c
        split
        · rename_i e; exact absurd e (h6 _)
        · rename_i e; exact absurd e (h5 _ _)
        · rfl
      obtain⟨x',y',e1,e2,hl⟩:=Q93 ha hh
      unfold Reads at hx hy
      rw [ha] at hx hy
      simp only [Bool.false_eq_true,if_false] at hx hy
      rw [e1] at hx; rw [e2] at hy
      cases hx; cases hy
      rw [show d+(m+1)=(d+m)+1 from rfl]
      unfold Q2b at hl
      split at hl
      · rename_i e; cases hl; exact run_equalIn_bool w _ _ _ _ e
      · rename_i e
        split at hl
        · rename_i ek; subst ek; cases hl; exact run_equalIn_int w _ _ _ _ _ _ e
        · cases hl
      · rename_i a b e; cases hl
        rw [run_equalIn_string w _ _ _ _ e,beq_toListBytes]
      · cases hl

def Jb6 (P:Program):Nat→TypeId→List Value→Bool
  | 0,_,_=>false
  | m+1,T,xs=>
    match P.underlying T with
    | some (.array n e)=>(P.info? e).isSome&&(List.range n).all (fun i=>match seg P e xs (i*P.cellsOf e) with
        | some a=>Jb6 P m e a
        | none=>false)
    | some (.struct fs) => fs.toList.all (fun f => f.name != "_" && match seg P f.type xs f.offset with
        | some a=>Jb6 P m f.type a
        | none=>false)
    | some .bool | some (.int _) | some .string=>match xs with
      | [_]=>true
      | _=>false
    | _=>false

theorem Reb {m T:Nat} {xs:List Value} (h:Jb6 P m T xs=true):∃ d,P.underlying T=some d∧(G3c P T=false→∃ x,xs=[x]):=by
  cases m with
  | zero=>cases h
  | succ m=>
    unfold Jb6 at h
    split at h
    · rename_i e; exact⟨_,e,fun h=>by simp [G3c,e] at h⟩
    · rename_i e; exact⟨_,e,fun h=>by simp [G3c,e] at h⟩
    all_goals first
      | (rename_i e
         split at h
         · exact⟨_,e,fun _=>⟨_,rfl⟩⟩
         · cases h)
      | cases h

theorem Q7e (em:Bool) (d:Nat):∀ (m:Nat) (T:TypeId) (x:Value) (xs:List Value) (w:World),Jb6 P m T xs=true→Reads P T x xs→(Instr.checkKey em (d+m) T x).run P w=.ok () w
  | 0,_,_,_,_,h,_=>by cases h
  | m+1,T,x,xs,w,h,hx=>by
    have step:∀ (T' off:Nat) (X:Array Value) (w:World),(match seg P T' X.toList off with
        | some a=>Jb6 P m T' a
        | none=>false)=true→∃ a,(part T' X off).run P w=.ok a w∧(Instr.checkKey em (d+m) T' a).run P w=.ok () w:=by
      intro T' off X w hp
      split at hp
      · rename_i a h1
        obtain⟨dd,h0,h3⟩:=Reb hp
        obtain⟨u,h4,h5⟩:=Ha4 w (H3f h0) ⟨dd,h0⟩ h1 h3
        exact⟨u,h4,Q7e em d m T' u a w hp h5⟩
      · cases hp
    unfold Jb6 at h
    split at h
    · rename_i n e hu
      have ha:G3c P T=true:=by simp [G3c,hu]
      unfold Reads at hx
      rw [if_pos ha] at hx
      subst hx
      simp only [Me] at h
      obtain⟨i,hi⟩:=Ko h.1
      have h2:=h.2
      have hc:i.size=P.cellsOf e:=by simp [Program.cellsOf,hi]
      rw [show d+(m+1)=(d+m)+1 from rfl,Instr.checkKey]
      simp only [Sem.run_bind,run_underlying hu,Result.andThen_ok]
      simp only [Std.Legacy.Range.forIn_eq_forIn_range',Std.Legacy.Range.size,Nat.sub_zero,Nat.add_one_sub_one,Nat.div_one]
      rw [List.range_eq_range'] at h2
      generalize List.range' 0 n=is at h2
      induction is with
      | nil=>simp
      | cons j is ih=>
        simp only [List.all_cons,Me] at h2
        obtain⟨a,p1,p2⟩:=step e (j*P.cellsOf e) xs.toArray w h2.1
        simp only [List.forIn_cons,Sem.run_bind,run_sizeOf w hi,Result.andThen_ok,p1,p2,Sem.run_pure]
        exact ih h2.2
    · rename_i fs hu
      have ha:G3c P T=true:=by simp [G3c,hu]
      unfold Reads at hx
      rw [if_pos ha] at hx
      subst hx
      rw [show d+(m+1)=(d+m)+1 from rfl,Instr.checkKey]
      simp only [Sem.run_bind,run_underlying hu,Result.andThen_ok]
      rw [← Array.forIn_toList]
      generalize fs.toList=fl at h
      induction fl with
      | nil=>simp
      | cons f fl ih=>
        simp only [List.all_cons,Me,bne_iff_ne,ne_eq] at h
        obtain⟨a,p1,p2⟩:=step f.type f.offset xs.toArray w h.1.2
        have hn:=h.1.1
        simp only [List.forIn_cons,Sem.run_bind,ne_eq,hn,not_false_eq_true,if_true,p1,p2,Result.andThen_ok,Sem.run_pure]
        exact ih h.2
    all_goals first
      | (rename_i hu
         rw [show d+(m+1)=(d+m)+1 from rfl,Instr.checkKey]
         simp [run_underlying hu]; done)
      | cases h

theorem Gc2.of_eq {k:TypeId} {κ:Type} [DecidableEq κ] (kv:κ→List Value) (h0:G3c P k=true) (inj:∀ a b,kv a=kv b→a=b) (m:Nat) (hm:m≤10000) (h6:∀ a b,J03 P m k (kv a) (kv b)=some (decide (a=b))) (h8:∀ a,Jb6 P m k (kv a)=true)
    (h5:∀ a,Instr.sameBits 10000 (.agg (kv a).toArray) (.agg (kv a).toArray)=true):Gc2 P k (fun a=>.agg (kv a).toArray) where
  inj:=fun a b h=>inj a b (by simpa using h)
  check:=fun w em a=>by
    have:=Q7e em (10000 - m) m k (.agg (kv a).toArray) (kv a) w (h8 a) (by unfold Reads; rw [if_pos h0])
    rwa [Nat.sub_add_cancel hm] at this
  find:=fun w a es he=>by
    obtain⟨dd,h4⟩:=R16 (h6 a a)
    have h9:∀ (es:List MapEntry),es≠[]→Instr.findNow dd (.agg (kv a).toArray) es 0=none:=fun es a0=>by
      cases es with
      | nil=>exact absurd rfl a0
      | cons x r=>
        have:Instr.sameNow dd (.agg (kv a).toArray) x.key=none:=by
          unfold Instr.sameNow; split <;> simp_all
        simp [Instr.findNow,this]
    have key:∀ (es:List MapEntry) (i:Nat),(∀ e∈es,∃ b,e.key=Value.agg (kv b).toArray) →
        ((Instr.findAsking k (.agg (kv a).toArray) es i).run P w=.ok none w∧∀ e∈es,e.key≠.agg (kv a).toArray)∨∃ j e,(Instr.findAsking k (.agg (kv a).toArray) es i).run P w=.ok (some (i+j,e.val)) w∧es[j]? = some e∧e.key=.agg (kv a).toArray:=by
      intro es
      induction es with
      | nil=>intro i _; exact .inl ⟨rfl,by simp⟩
      | cons x r ih=>
        intro i he
        obtain⟨b,hb⟩:=he x (by simp)
        have hq:(Op.equal k (.agg (kv a).toArray) x.key).run P w=.ok (decide (a=b)) w:=by
          rw [hb]
          have:=J42 (10000 - m) m k (.agg (kv a).toArray) (.agg (kv b).toArray) (kv a) (kv b) _ w (h6 a b) (by unfold Reads; rw [if_pos h0]) (by unfold Reads; rw [if_pos h0])
          rwa [Nat.sub_add_cancel hm] at this
        by_cases e:a=b
        · subst e
          refine .inr ⟨0,x,?_,rfl,hb⟩
          simp [Instr.findAsking,hq]
        · have hs:(Instr.findAsking k (.agg (kv a).toArray) (x::r) i).run P w=(Instr.findAsking k (.agg (kv a).toArray) r (i+1)).run P w:=by
            simp [Instr.findAsking,hq,e]
          rcases ih (i+1) (fun y hy=>he y (by simp [hy])) with ⟨h1,h2⟩ | ⟨j,y,h1,h2,h3⟩
          · refine .inl ⟨by rw [hs]; exact h1,fun y hy=>?_⟩
            rcases Mk.1 hy with rfl | hy
            · rw [hb]; intro e'; exact e (inj b a (by simpa using e')).symm
            · exact h2 y hy
          · exact .inr ⟨j+1,y,by rw [hs,h1]; congr 3; omega,by simpa using h2,h3⟩
    cases h7:es with
    | nil=>exact .inl ⟨by simp [Instr.findKey,run_underlying h4,Instr.findNow],by simp⟩
    | cons x r=>
      rw [← h7]
      have hn:=h9 es (by simp [h7])
      rcases key es 0 he with ⟨h1,h2⟩ | ⟨j,e,h1,h2,h3⟩
      · exact .inl ⟨by simp [Instr.findKey,run_underlying h4,hn,h1],h2⟩
      · exact .inr ⟨j,e,by simp [Instr.findKey,run_underlying h4,hn,h1],h2,h3⟩
  stays:=fun w a=>by simp [Instr.keyThatStays,h5 a]

/-! ### Equality of aggregates aQ an operation -/
variable {o:Oper} {l:Fr} {L:Loc}
def scs (vs:List Value):List AV:=vs.map .sc
theorem V.inv_scs {β:H5} {vs:List Value} {x:Value} {w:World} (h:V w β L (.agg (scs vs)) x):x=.agg vs.toArray:=by
  obtain⟨us,rfl,hl,hu⟩:=h.inv_agg
  congr 1
  apply Array.ext
  · simpa [scs] using hl
  · intro i h1 h2
    have h3:i < vs.length:=by simpa using h2
    have:=(hu i (.sc vs[i]) us[i] (by simp [scs,h3]) (by simp [h1])).inv_sc
    simpa using this

theorem Jd7 {x y:Operand} {T T':TypeId} {vs us:List Value} {r:Bool} (m:Nat) (hm:Nat.ble m 10000=true) (hq:J03 P m T vs us=some r) (h0:G3c P T=true) (hg:P.eqGuardType P.depth T=false)
    (ho:o.op=.binOp .eql T x y T') (hx:ev l x=.agg (scs vs)) (hy:ev l y=.agg (scs us)):H2 P o l L (Is (.sc (.bool r)) L):=
  Hf fun a w β h4 hf=>by
    have h1:=hf.ev x
    have h2:=hf.ev y
    rw [hx] at h1; rw [hy] at h2
    have e1:=V.inv_scs h1
    have e2:=V.inv_scs h2
    refine⟨_,?_,.sc⟩
    have h3:=J42 (10000 - m) m T (.agg vs.toArray) (.agg us.toArray) vs us r w hq (by unfold Reads; rw [if_pos h0]) (by unfold Reads; rw [if_pos h0])
    rw [Nat.sub_add_cancel (Nat.le_of_ble_eq_true hm)] at h3
    simp [execOp,ho,e1,e2,run_eqGuard_agg w .eql T x y _ _ hg,run_eql_struct,h3]
theorem Qd0 {x y:Operand} {T T':TypeId} {vs us:List Value} {r:Bool} (m:Nat) (hm:Nat.ble m 10000=true) (hq:J03 P m T vs us=some r) (h0:G3c P T=true) (hg:P.eqGuardType P.depth T=false)
    (ho:o.op=.binOp .neq T x y T') (hx:ev l x=.agg (scs vs)) (hy:ev l y=.agg (scs us)):H2 P o l L (Is (.sc (.bool (!r))) L):=
  Hf fun a w β h5 hf=>by
    have h1:=hf.ev x
    have h2:=hf.ev y
    rw [hx] at h1; rw [hy] at h2
    have e1:=V.inv_scs h1
    have e2:=V.inv_scs h2
    refine⟨_,?_,.sc⟩
    have h3:=J42 (10000 - m) m T (.agg vs.toArray) (.agg us.toArray) vs us r w hq (by unfold Reads; rw [if_pos h0]) (by unfold Reads; rw [if_pos h0])
    rw [Nat.sub_add_cancel (Nat.le_of_ble_eq_true hm)] at h3
    have h4:(binOp .neq T (.agg vs.toArray) (.agg us.toArray)).run P w=.ok (.bool (!r)) w:=by
      simp only [binOp,Op.equal,Op.maxDepth,Sem.run_bind,h3,Result.andThen_ok,Sem.run_pure]
    simp [execOp,ho,e1,e2,run_eqGuard_agg w .neq T x y _ _ hg,h4]
end
section
variable {P:Program} {N:Cfg} {Q:Post} {l:Fr} {L:Loc}
theorem G4d {x y:Code} {X:Type} (I:X→Prop) (F:X→Fr) (M:X→Loc)
  (h1:∀ K:Fr→Loc→Prop,(∀ l L v,I v→Fits N.base l L (F v) (M v)→K l L)→JC P N x (Q.seq K) l L)
  (h2:∀ v,I v→JC P N y Q (F v) (M v)):JC P N (.seq x y) Q l L:=
 G4 fun K hK=>h1 K fun l L v hv hf=>hK l L (Qw hf (h2 v hv))
theorem He8 {c:Operand} {x y:Code} (hc:ev l c=.sc (.bool true)) (ht:JC P N x Q l L):JC P N (.cond c x y) Q l L:=
 Gp hc (fun _=>ht) (fun h=>by cases h)
theorem G42 {c:Operand} {x y:Code} (hc:ev l c=.sc (.bool false)) (hf:JC P N y Q l L):JC P N (.cond c x y) Q l L:=
 Gp hc (fun h=>by cases h) (fun _=>hf)
def unseen (n:Nat) (seen:List Nat):Nat:=((List.range n).filter fun j=>!seen.contains j).length
theorem G90 {n j:Nat} {seen:List Nat} (hj:j < n) (hs:j ∉ seen):unseen n (seen++[j]) < unseen n seen:=by
 unfold unseen
 have h1:(List.range n).filter (fun i=>!(seen++[j]).contains i)=((List.range n).filter fun i=>!seen.contains i).filter fun i=>i != j:=by
  rw [List.filter_filter]
  congr 1
  funext i
  simp only [List.contains_append,Bool.not_or,List.contains_cons,List.contains_nil,Bool.or_false,bne]
  rw [Bool.and_comm]
 rw [h1]
 have hm:j∈(List.range n).filter fun i=>!seen.contains i:=by simp [hj,hs]
 have:∀ (l:List Nat),j∈l→(l.filter fun i=>i != j).length < l.length:=by
  intro l
  induction l with
  | nil=>intro h; cases h
  | cons a r ih=>
   intro h
   by_cases e:a=j
   ·subst e
    have:=Kt (fun i=>i != a) r
    simp
    omega
   ·have hr:j∈r:=by
     rcases Mk.1 h with h | h
     ·exact absurd h.symm e
     ·exact h
    have:=ih hr
    simp [e]
    omega
 exact this _ hm
end
mutual
theorem Qfe (ok:Nat→Bool):∀ u:AV,u.refs (fun _=>false)=true→u.refs ok=true
 | .junk,_=>rfl
 | .sc _,_=>rfl
 | .list _ _,_=>rfl
 | .lst ..,_=>rfl
 | .dptr _,_=>rfl
 | .dmap _,_=>rfl
 | .bag _ _,_=>rfl
 | .agg cs,h=>Q7 ok cs h
 | .tup cs,h=>Q7 ok cs h
 | .fn _ cs,h=>Q7 ok cs h
 | .bfn _ cs,h=>Q7 ok cs h
 | .opt _ x,h=>Qfe ok x h
 | .ptr _ _,h=>by cases h
 | .own ..,h=>by cases h
 | .ms ..,h=>by cases h
 | .mp _,h=>by cases h
 | .it _,h=>by cases h
 | .vec ..,h=>by cases h
theorem Q7 (ok:Nat→Bool):∀ us:List AV,Qs (fun _=>false) us=true→Qs ok us=true
 | [],_=>rfl
 | u::r,h=>by
  simp only [Qs,Me] at h ⊢
  exact⟨Qfe ok u h.1,Q7 ok r h.2⟩
end
set_option linter.unusedVariables false
set_option linter.unusedSimpArgs false
section
variable {κ ν:Type} [DecidableEq κ]

theorem Q23 {l:List (κ×ν)} {a:κ}:G37 l a=true ↔ a∈l.map (·.1):=by
 simp [G37]
theorem Geb (p:κ×ν) (l:List (κ×ν)) (a:κ):G38 (p::l) a=if p.1=a then some p.2 else G38 l a:=by
 unfold G38
 rw [List.find?_cons]
 by_cases h:p.1=a <;> simp [h]
theorem Jae (l m:List (κ×ν)) (a:κ):G38 (l++m) a=(G38 l a).or (G38 m a):=by
 induction l with
 | nil=>simp [G38]
 | cons p l ih=>rw [List.cons_append,Geb,Geb,ih]; split <;> simp
theorem H57 {l:List (κ×ν)} {a:κ}:(G38 l a).isSome=G37 l a:=by
 induction l with
 | nil=>rfl
 | cons p l ih=>
  rw [Geb]
  simp only [G37,List.any_cons]
  by_cases h:p.1=a
  ·simp [h]
  ·simpa [h,G37] using ih
theorem J4b {l:List (κ×ν)} {a:κ} (h:G37 l a=false):G38 l a=none:=by
 have:=H57 (l:=l) (a:=a)
 rw [h] at this
 simpa using this
theorem J73 (l:List (κ×ν)) (a b:κ) (v:ν):G38 (H01 l a v) b=if a=b then some v else G38 l b:=by
 unfold H01
 split
 ·rename_i h
  induction l with
  | nil=>simp [G37] at h
  | cons p l ih=>
   rw [List.map_cons,Geb,Geb]
   by_cases hp:p.1=a
   ·simp only [hp,if_true]
    by_cases h0:a=b
    ·simp [h0]
    ·simp only [h0,if_false]
     by_cases hl:G37 l a=true
     ·rw [ih hl,if_neg h0]
     ·have e:l.map (fun p=>if p.1=a then (a,v) else p)=l:=by
       conv=>rhs; rw [← List.map_id l]
       apply List.map_congr_left
       intro q hq
       have:q.1≠a:=fun e=>hl (Q23.2 (Mi.2 ⟨q,hq,e⟩))
       simp [this]
      rw [e]
   ·simp only [hp,if_false]
    have hl:G37 l a=true:=by simpa [G37,hp] using h
    rw [ih hl]
    by_cases h1:p.1=b
    ·have:¬ a=b:=fun e=>hp (h1.trans e.symm)
     simp [h1,this]
    ·simp [h1]
 ·rename_i h
  rw [Jae,Geb]
  by_cases h0:a=b
  ·subst h0; rw [J4b (by simpa using h)]; simp
  ·have:G38 ([]:List (κ×ν)) b=none:=rfl
   simp [h0,this]
theorem Re0 (l:List (κ×ν)) (a:κ) (z:ν):(G38 (H02 l a z) a).getD z=(G38 l a).getD z:=by
 unfold H02
 split
 ·rfl
 ·rename_i h
  rw [Jae,J4b (by simpa using h),Geb]; simp

def tally (l:List κ):List (κ×Int):=l.foldl (fun m a=>H01 m a ((G38 m a).getD 0+1)) []
theorem H9e (l:List κ) (a:κ):tally (l++[a])=H01 (tally l) a ((G38 (tally l) a).getD 0+1):=by
 simp [tally,List.foldl_append]
theorem Qb3 {α:Type} {motive:List α→Prop} (l:List α) (h0:motive []) (h1:∀ l a,motive l→motive (l++[a])):motive l:=by
 have:∀ n (l:List α),l.length=n→motive l:=by
  intro n
  induction n with
  | zero=>intro l hl; rw [Kr hl]; exact h0
  | succ n ih=>
   intro l hl
   have h2:l≠[]:=by intro e; rw [e] at hl; simp at hl
   rw [← List.dropLast_concat_getLast h2]
   exact h1 _ _ (ih _ (by simp [hl]))
 exact this _ l rfl
theorem Qf3 (l:List κ):((tally l).map (·.1)).Nodup:=by
 induction l using Qb3 with
 | h0=>simp [tally]
 | h1 l a ih=>rw [H9e]; exact Ha7 ih _ _
theorem J68 (l:List κ) (a:κ):(G38 (tally l) a).getD 0=(l.count a:Int):=by
 induction l using Qb3 with
 | h0=>simp [tally,G38]
 | h1 l b ih=>
  rw [H9e,J73,List.count_append]
  by_cases h:b=a
  ·subst h; rw [if_pos rfl,ih]; simp
  ·rw [if_neg h,ih]; simp [h]
theorem Rc9 (l:List κ) (b:κ) (h:b∈l):b∈(tally l).map (·.1):=by
 rw [← Q23,← H57]
 have h1:=J68 l b
 have h2:=List.count_pos_iff.2 h
 cases hm:G38 (tally l) b with
 | some _=>rfl
 | none=>rw [hm] at h1; simp at h1; omega
theorem Q77 (l:List κ) {j:Nat} {a:κ} {n:Int} (h:(tally l)[j]? = some (a,n)):n=(l.count a:Int):=by
 have h1:=(Haa (Qf3 l) h).1
 have h2:=J68 l a
 rw [h1] at h2
 simpa using h2
theorem Qf4 (l:List κ) (a:κ):0≤(G38 (tally l) a).getD 0∧(G38 (tally l) a).getD 0≤(l.length:Int):=by
 rw [J68]
 have:=List.count_le_length (a:=a) (l:=l)
 omega
theorem Qad (l:List κ):(∀ (j:Nat) a n,(tally l)[j]? = some (a,n)→n≤1) ↔ l.Nodup:=by
 rw [List.nodup_iff_count]
 constructor
 ·intro h a
  by_cases ha:a∈l
  ·obtain⟨p,hp,rfl⟩:=Mi.1 (Rc9 l a ha)
   obtain⟨j,hj⟩:=List.mem_iff_getElem?.1 hp
   have:=h j p.1 p.2 hj
   rw [Q77 l hj] at this
   omega
  ·rw [List.count_eq_zero.2 ha]; omega
 ·intro h j a n hj
  rw [Q77 l hj]
  have:=h a
  omega
end
section
variable {P:Program} {o:Oper} {l:Fr} {L:Loc} {κ ν:Type} [DecidableEq κ] {kv:κ→Value} {av:ν→AV}
def Ya7 (P:Program) (T E k:Nat):Bool:=(match P.underlying T with | some (.array _ e)=>e==E | _=>false)&&Zh P E k
theorem Q5d {T E k:Nat} {parts:List (Nat×Operand)} {cs:List AV} (zs:List Value) (hT:Ya7 P T E k=true) (hz:(P.info? T).bind (fun i=>i.zero.map Value.cells)=some zs.toArray) (ho:o.op=.build T parts.toArray) (h0:H68 (fun i=>some (i*k,k)) (zs.map .sc) (parts.map fun p=>(p.1,ev l p.2))=some cs):H2 P o l L (Is (.agg cs) L):=
 Hf fun a w β _ hf=>by
  unfold Ya7 at hT
  simp only [Me] at hT
  obtain⟨hT,hE⟩:=hT
  split at hT
  ·rename_i n e hu
   simp at hT; subst hT
   cases h1:P.info? T with
   | none=>rw [h1] at hz; simp at hz
   | some inf=>
    rw [h1] at hz
    cases h2:inf.zero with
    | none=>simp [h2] at hz
    | some z=>
     simp only [Option.bind_some,h2,Option.map_some,Option.some.injEq] at hz
     obtain⟨vs',e1,e2,e3⟩:=Gf8 (w:=w) (β:=β) (L:=L) (qs:=parts.map fun p=>(p.1,a.eval p.2)) (vs:=zs.toArray) h0 (by simp) (fun j p q hp hq=>by
      simp only [M9,Option.map_eq_some_iff] at hp hq
      obtain⟨x,hx,rfl⟩:=hp
      obtain⟨y,hy,rfl⟩:=hq
      rw [hx] at hy; cases hy
      exact⟨rfl,hf.ev _⟩) (by simp) (fun j u v hu hv=>by
      simp only [M9,Option.map_eq_some_iff] at hu
      obtain⟨x,hx,rfl⟩:=hu
      simp [hx] at hv; subst hv; exact .sc)
     refine⟨.agg vs',?_,.agg e2 e3⟩
     simp [execOp,ho,Instr.build,zeroValue,typeInfo,h1,h2,run_underlying hu,Q9 hE w,hz,e1]
  ·cases hT
theorem R27 {m x:Operand} {T K E i:Nat} {lst:List (κ×ν)} {a:κ} (z0:ν) (zv:Value) (ho:o.op=.lookup T m x false) (hm:ev l m=.mp i) (hi:lk L i=some (.map T (mapOf kv av (H02 lst a z0)))) (hn:(lst.map (·.1)).Nodup)
  (hx:ev l x=Ro (kv a)) (hk:Gc2 P K kv) (hT:Zc P T K E=true) (hz:(P.info? E).bind (·.zero)=some zv) (h0:av z0=Ro zv) :
  H2 P o l L (Is (av ((G38 lst a).getD z0)) L):=by
 have h:=Q5a (L:=L) z0 zv ho hm hi (R74 hn a z0) hx hk hT hz h0
 rw [Re0] at h
 exact h
end
set_option linter.unusedVariables false
set_option linter.unusedSimpArgs false

/-! ### The cells of a box, one by one -/
def Hc3 (ok:Nat→Bool):List AV→List AV→Prop
 | [],[]=>True
 | u::r,u'::r'=>Conv ok u u'∧Hc3 ok r r'
 | _,_=>False
theorem Hc3.length {ok:Nat→Bool}:∀ {cs cs':List AV},Hc3 ok cs cs'→cs.length=cs'.length
 | [],[],_=>rfl
 | _::_,_::_,h=>by simp [Hc3.length h.2]
 | [],_::_,h=>h.elim
 | _::_,[],h=>h.elim
theorem Hc3.get {ok:Nat→Bool}:∀ {cs cs':List AV},Hc3 ok cs cs'→∀ (j:Nat) u u',cs[j]? = some u→cs'[j]? = some u'→Conv ok u u'
 | u::r,u'::r',h,0,x,x',hx,h0=>by simp at hx h0; subst hx; subst h0; exact h.1
 | u::r,u'::r',h,j+1,x,x',hx,h0=>by simp at hx h0; exact Hc3.get h.2 j x x' hx h0
 | [],[],_,j,_,_,hx,_=>by simp at hx
 | [],_::_,h,_,_,_,_,_=>h.elim
 | _::_,[],h,_,_,_,_,_=>h.elim
theorem Hc3.sm {ok:Nat→Bool}:∀ {us us':List AV},us=us'→us'.all (fun u=>u.refs ok)=true→Hc3 ok us us'
 | [],_,rfl,_=>trivial
 | u::r,_,rfl,h=>by
  rw [List.all_cons,Me] at h
  exact⟨.same h.1,Hc3.sm rfl h.2⟩
def looks (l:Fr):Fr→List AV
 | []=>[]
 | (t,_)::r=>look l t::looks l r
def vals:Fr→List AV
 | []=>[]
 | (_,u)::r=>u::vals r
theorem J63.sm {ok:Nat→Bool} {l:Fr}:∀ {l':Fr},looks l l'=vals l'→(vals l').all (fun u=>u.refs ok)=true→J63 ok l l'
 | [],_,_=>trivial
 | (t,u)::r,h,h2=>by
  have h':look l t::looks l r=u::vals r:=h
  have h0:(u::vals r).all (fun u=>u.refs ok)=true:=h2
  rw [List.all_cons,Me] at h0
  injection h' with e1 e2
  exact⟨.eq e1 h0.1,J63.sm e2 h0.2⟩
theorem Gb6.boxL {ok:Nat→Bool} {o:Jh} {t:Nat} {cs cs':List AV} (ho:o=.box t cs) (h:Hc3 ok cs cs'):Gb6 ok o (.box t cs'):=by
 subst ho; exact .box h.length h.get

/-! ### A nil slice in a box that is going to be appended to -/
theorem fmQ {ok:Nat→Bool} {L:Loc} {i t:Nat} {es:List (Value×AV)} (h:lk L i=some (.map t es)):∃ o,lk L i=some o∧Gb6 ok o (.map t es):=⟨_,h,.map⟩
theorem fbQ {ok:Nat→Bool} {L:Loc} {i t:Nat} {cs cs1:List AV} (h:lk L i=some (.box t cs)) (hc:Hc3 ok cs cs1):∃ o,lk L i=some o∧Gb6 ok o (.box t cs1):=⟨_,h,.boxL rfl hc⟩
theorem H36 {w:World} {β:H5} {L:Loc} {i:Nat} (E k:Nat) (hi:lk L i=none):Step w β L w (upP β i none) ((i,.spare E k 0 0)::L):=by
 have h1:∀ id,(lk L id).isSome=true→i≠id:=fun id h e=>by subst e; rw [hi] at h; cases h
 refine⟨rfl,rfl,⟨rfl,M5⟩,M5,fun _ _ _=>Iff.rfl,fun b j hs=>⟨⟨hs.lt,hs.seen,fun id ob hid hb=>?_⟩,rfl⟩,fun b hb h0=>⟨rfl,fun id hid e=>?_⟩,fun id t cs hid=>?_,fun id t cs hid=>?_,fun id t n cs hid=>?_,fun id t k' ver xs hid=>?_,fun id t k' ver hw hid=>?_⟩
 ·rw [Gm] at hid
  by_cases e:i=id
  ·subst e; simp [upP] at hb
  ·rw [if_neg e] at hid; simp only [upP,if_neg (Ne.symm e)] at hb; exact hs.kept id ob hid hb
 ·rw [Gm] at hid
  by_cases e':i=id
  ·subst e'; simp [upP] at e
  ·rw [if_neg e'] at hid; simp only [upP,if_neg (Ne.symm e')] at e; exact h0 id hid e
 all_goals
  have e:=h1 id (by rw [hid]; rfl)
 ·exact⟨by simp [upP,Ne.symm e],cs,by rw [Gm,if_neg e]; exact hid⟩
 ·exact⟨by simp [upP,Ne.symm e],cs,by rw [Gm,if_neg e]; exact hid⟩
 ·exact⟨by simp [upP,Ne.symm e],n,cs,by rw [Gm,if_neg e]; exact hid⟩
 ·exact⟨ver,xs,by rw [Gm,if_neg e]; exact hid,M5,fun _=>⟨rfl,by simp [upP,Ne.symm e],fun _ _=>rfl⟩⟩
 ·exact⟨ver,hw,by rw [Gm,if_neg e]; exact hid,M5,fun _=>⟨rfl,by simp [upP,Ne.symm e],fun _ _=>rfl⟩⟩
theorem J6d {w:World} {β:H5} {L:Loc} {i:Nat} (E k:Nat) (h0:Sat w β L) (hi:lk L i=none):Sat w (upP β i none) ((i,.spare E k 0 0)::L):=by
 refine⟨h0.hid,fun id b hid hb=>?_,fun id b j hid hb=>?_,fun id id' b h1 h2 h3 h4=>?_,fun id ob hid=>?_⟩
 ·rw [Gm] at hid
  by_cases e:i=id
  ·subst e; simp [upP] at hb
  ·rw [if_neg e] at hid; simp only [upP,if_neg (Ne.symm e)] at hb; exact h0.bnd id b hid hb
 ·rw [Gm] at hid
  by_cases e:i=id
  ·subst e; simp [upP] at hb
  ·rw [if_neg e] at hid; simp only [upP,if_neg (Ne.symm e)] at hb; exact h0.apart id b j hid hb
 ·by_cases e:i=id
  ·subst e; simp [upP] at h3
  ·by_cases e':i=id'
   ·subst e'; simp [upP] at h4
   ·rw [Gm,if_neg e] at h1
    rw [Gm,if_neg e'] at h2
    simp only [upP,if_neg (Ne.symm e)] at h3
    simp only [upP,if_neg (Ne.symm e')] at h4
    exact h0.inj id id' b h1 h2 h3 h4
 ·rw [Gm] at hid
  by_cases e:i=id
  ·subst e; simp at hid; subst hid; exact .inl ⟨by simp [upP],rfl⟩
  ·rw [if_neg e] at hid
   simp only [upP,if_neg (Ne.symm e)]
   exact(h0.obj id ob hid).step (H36 E k hi) (fun b hb=>rfl)
theorem Y59 {w:World} {β:H5} {L:Loc} {i:Nat} (E k:Nat):V w (upP β i none) ((i,.spare E k 0 0)::L) (.own i 0 k []) (.slice none 0 0):=
 .own (.nil (Nat.zero_le _)) ⟨E,0,0,by rw [Gm,if_pos rfl],M5,fun _=>⟨rfl,by simp [Value.ownBlock,upP],[],⟨by simp,.inl ⟨rfl,rfl⟩⟩,fun j u hu=>by simp [flat] at hu⟩⟩

theorem Rf.redescribeB {N:Cfg} {w0 w:World} {β0 β:H5} {L0 L:Loc} {a:Act} {l:Fr} (hs:Rf N w0 β0 L0 a w β l L) {i:Nat} {t:TypeId} {cs cs':List AV} (hi:lk L i=some (.box t cs)) (hl:cs.length=cs'.length)
  (h:∀ (vs:Array Value) (j:Nat) u v,(∃ b,β i=some b∧w.heap[b]? = some (.cells vs t (0,0)))→(∀ (j:Nat) u v,cs[j]? = some u→vs[j]? = some v→V w β L u v)→vs.size=cs.length→cs'[j]? = some u→vs[j]? = some v→V w β L u v):Rf N w0 β0 L0 a w β l ((i,.box t cs')::L):=by
 obtain⟨b,hb,vs,h7,h8,h9⟩:=hs.sat.obj i _ hi
 have h0:∀ id,(lk ((i,Jh.box t cs')::L) id).isSome=(lk L id).isSome:=fun id=>by
  rw [Gm]; split
  ·rename_i e; subst e; rw [hi]; rfl
  ·rfl
 have h6:∀ b j,Jj w β L b j→Jj w β ((i,.box t cs')::L) b j:=fun b j h5=>⟨h5.lt,h5.seen,fun id o ho hb=>by
  rw [Gm] at ho
  split at ho
  ·rename_i e; subst e; cases ho; exact(h5.kept i _ hi hb).elim
  ·exact h5.kept id o ho hb⟩
 have st:Step w β L w β ((i,.box t cs')::L):=by
  refine⟨rfl,rfl,⟨rfl,M5⟩,M5,fun _ _ _=>Iff.rfl,fun b j h=>⟨h6 b j h,rfl⟩,fun b hb hf=>⟨rfl,fun id hid e=>hf id (by rw [← h0 id]; exact hid) e⟩,fun id t2 cs2 hid=>?_,fun id t2 cs2 hid=>?_,fun id m n es hid=>?_,fun id t2 k2 ver xs hid=>?_,fun id t2 k2 ver hw hid=>?_⟩
  ·refine⟨rfl,?_⟩
   rw [Gm]; split
   ·rename_i e; subst e; rw [hi] at hid; cases hid; exact⟨_,rfl⟩
   ·exact⟨_,hid⟩
  ·refine⟨rfl,cs2,?_⟩
   rw [Gm,if_neg (fun e=>by subst e; rw [hi] at hid; cases hid)]; exact hid
  ·refine⟨rfl,n,es,?_⟩
   rw [Gm,if_neg (fun e=>by subst e; rw [hi] at hid; cases hid)]; exact hid
  ·refine⟨ver,xs,?_,M5,fun _=>⟨rfl,rfl,fun _ _=>rfl⟩⟩
   rw [Gm,if_neg (fun e=>by subst e; rw [hi] at hid; cases hid)]; exact hid
  ·refine⟨ver,hw,?_,M5,fun _=>⟨rfl,rfl,fun _ _=>rfl⟩⟩
   rw [Gm,if_neg (fun e=>by subst e; rw [hi] at hid; cases hid)]; exact hid
 refine⟨⟨hs.sat.hid,fun id b h1 h2=>hs.sat.bnd id b (by rw [← h0 id]; exact h1) h2,fun id b j h1 h2=>hs.sat.apart id b j (by rw [← h0 id]; exact h1) h2,fun id id' b h1 h2 h3 h4=>hs.sat.inj id id' b (by rw [← h0 id]; exact h1) (by rw [← h0 id']; exact h2) h3 h4,fun id o ho=>?_⟩,hs.step.trans st,hs.frame.step st,hs.size,hs.base,hs.defers.step st⟩
 rw [Gm] at ho
 split at ho
 ·rename_i e; subst e; cases ho
  exact⟨b,hb,vs,h7,by omega,fun j u v hu hv=>(h vs j u v ⟨b,hb,h7⟩ h9 h8 hu hv).step st⟩
 ·exact(hs.sat.obj id o ho).step st (fun b hb=>rfl)

theorem Rf.redescribe {N:Cfg} {w0 w:World} {β0 β:H5} {L0 L:Loc} {a:Act} {l:Fr} (hs:Rf N w0 β0 L0 a w β l L) {i:Nat} {t:TypeId} {cs cs':List AV} (hi:lk L i=some (.box t cs)) (hl:cs.length=cs'.length)
  (h:∀ (vs:Array Value) (j:Nat) u v,(∀ (j:Nat) u v,cs[j]? = some u→vs[j]? = some v→V w β L u v)→vs.size=cs.length→cs'[j]? = some u→vs[j]? = some v→V w β L u v):Rf N w0 β0 L0 a w β l ((i,.box t cs')::L):=
 hs.redescribeB hi hl (fun vs j u v _=>h vs j u v)

theorem Rf.ownCell {N:Cfg} {w0 w:World} {β0 β:H5} {L0 L:Loc} {a:Act} {l:Fr} (hs:Rf N w0 β0 L0 a w β l L) (i j id E k:Nat) {t:TypeId} {cs cs':List AV} (hi:lk L i=some (.box t cs)) (hid:lk L id=none) (hj:cs[j]? = some (.sc (.slice none 0 0)))
  (h2:cs.set j (.own id 0 k [])=cs'):∃ β',Rf N w0 β0 L0 a w β' l ((i,.box t cs')::(id,.spare E k 0 0)::L):=by
 have st:=H36 (w:=w) (β:=β) E k hid
 have h1:Rf N w0 β0 L0 a w (upP β id none) l ((id,.spare E k 0 0)::L):=⟨J6d E k hs.sat hid,hs.step.trans st,hs.frame.step st,hs.size,hs.base,hs.defers.step st⟩
 have h3:id≠i:=fun e=>by subst e; rw [hi] at hid; cases hid
 refine⟨_,h1.redescribe (i:=i) (t:=t) (cs:=cs) (by rw [Gm,if_neg h3]; exact hi) (by rw [← h2]; simp) fun vs q u v h0 h5 hu hv=>?_⟩
 rw [← h2] at hu
 by_cases e:j=q
 ·subst e
  have h4:j < cs.length:=(M0 hj).1
  simp [List.getElem?_set,h4] at hu
  subst hu
  have:=h0 j _ v hj hv
  rw [this.inv_sc]
  exact Y59 E k
 ·rw [List.getElem?_set_ne e] at hu
  exact h0 q u v hu hv
theorem Q50 {P:Program} {N:Cfg} {ops:Array Oper} {rest:List Oper} {Q:Post} {l:Fr} {L:Loc} (i j id E k:Nat) {t:TypeId} {cs cs':List AV} (hi:lk L i=some (.box t cs)) (hid:lk L id=none) (hj:cs[j]? = some (.sc (.slice none 0 0)))
  (h0:cs.set j (.own id 0 k [])=cs') (hk:JL P N ops rest Q l ((i,.box t cs')::(id,.spare E k 0 0)::L)):JL P N ops rest Q l L:=
 fun n w0 β0 L0 a w β hs=>by
  obtain⟨β',h⟩:=hs.ownCell i j id E k hi hid hj h0
  exact hk n w0 β0 L0 a w β' h

/-! ### Zero values whose slices are seen aQ empty lists -/
def ZOk:List AV→List Value→Prop
 | [],[]=>True
 | u::r,v::s=>(u=.sc v∨∃ k,u=.list k []∧v=.slice none 0 0)∧ZOk r s
 | _,_=>False
theorem zzQ:∀ {us:List AV} {vs:List Value},us=vs.map .sc→ZOk us vs
  | _,[],h=>by subst h; trivial
  | _,v::r,h=>by subst h; exact⟨.inl rfl,zzQ rfl⟩
theorem ZOk.length:∀ {us:List AV} {vs:List Value},ZOk us vs→us.length=vs.length
 | [],[],_=>rfl
 | _::_,_::_,h=>by simp [ZOk.length h.2]
 | [],_::_,h=>h.elim
 | _::_,[],h=>h.elim
theorem ZOk.get {w:World} {β:H5} {L:Loc}:∀ {us:List AV} {vs:List Value},ZOk us vs→∀ (j:Nat) u v,us[j]? = some u→vs[j]? = some v→V w β L u v
 | u::r,v::s,h,0,x,y,hx,hy=>by
  simp at hx hy; subst hx; subst hy
  rcases h.1 with h | ⟨k,h1,h2⟩
  ·subst h; exact .sc
  ·subst h1; subst h2; exact .data (.nil (Nat.zero_le _))
 | u::r,v::s,h,j+1,x,y,hx,hy=>by simp at hx hy; exact ZOk.get h.2 j x y hx hy
 | [],[],_,j,_,_,hx,_=>by simp at hx
 | [],_::_,h,_,_,_,_,_=>h.elim
 | _::_,[],h,_,_,_,_,_=>h.elim
section
variable {P:Program} {o:Oper} {l:Fr} {L:Loc}
theorem G8f (i:Nat) {T:Nat} (us:List AV) (zs:List Value) (hz:(P.info? T).bind (fun i=>i.zero.map Value.cells)=some zs.toArray) (hu:ZOk us zs) (ho:o.op=.alloc T) (hi:lk L i=none) :
  H2 P o l L (Is (.ptr i 0) ((i,.box T us)::L)):=by
 intro a w β K Q h0 hf hK
 cases h1:P.info? T with
 | none=>rw [h1] at hz; simp at hz
 | some inf=>
  rw [h1] at hz
  cases h2:inf.zero with
  | none=>simp [h2] at hz
  | some z=>
   simp only [Option.bind_some,h2,Option.map_some,Option.some.injEq] at hz
   unfold Oper.wp
   have hr:(execOp a.eval o).run P w=.ok (.value (.pointer (some ⟨w.heap.size,0,none⟩))) (w.alloc (.cells z.cells T)):=by
    simp [execOp,ho,Instr.alloc,zeroValue,typeInfo,h1,h2,newVar,newRow]
   rw [hr]
   refine hK _ _ _ _ (upP β i (some w.heap.size)) ⟨rfl,rfl⟩ (h0.alloc hi _ (fun hs=>⟨_,rfl,z.cells,heap_alloc_new w _,by simp [hz,hu.length],fun j u v hj hv=>?_⟩)) (Step.alloc hi h0.bnd _) (.ptr (t:=T) (cs:=us) (by simp [Gm]) (by simp [upP]))
   rw [hz] at hv
   exact hu.get j u v hj (by simpa using hv)
theorem Hj {T:TypeId} {parts:List (Nat×Operand)} {cs:List AV} (pl:List (Nat×Nat)) (us:List AV) (zs:List Value) (h0:placesOf P T=some pl) (hz:(P.info? T).bind (fun i=>i.zero.map Value.cells)=some zs.toArray) (hu:ZOk us zs) (ho:o.op=.build T parts.toArray) (h3:H68 (fun i=>pl[i]?) us (parts.map fun p=>(p.1,ev l p.2))=some cs):H2 P o l L (Is (.agg cs) L):=
 Hf fun a w β _ hf=>by
  cases h1:P.info? T with
  | none=>rw [h1] at hz; simp at hz
  | some inf=>
   rw [h1] at hz
   cases h2:inf.zero with
   | none=>simp [h2] at hz
   | some z=>
    simp only [Option.bind_some,h2,Option.map_some,Option.some.injEq] at hz
    unfold placesOf at h0
    split at h0
    ·rename_i fs h4
     have h5:=run_places (P:=P) (w:=w) fs.toList pl h0
     obtain⟨vs',e1,e2,e3⟩:=Gf8 (w:=w) (β:=β) (L:=L) (qs:=parts.map fun p=>(p.1,a.eval p.2)) (vs:=zs.toArray) h3 (by simp) (fun j p q hp hq=>by
      simp only [M9,Option.map_eq_some_iff] at hp hq
      obtain⟨x,hx,rfl⟩:=hp
      obtain⟨y,hy,rfl⟩:=hq
      rw [hx] at hy; cases hy
      exact⟨rfl,hf.ev _⟩) (by simp [hu.length]) (fun j u v hj hv=>hu.get j u v hj (by simpa using hv))
     refine⟨.agg vs',?_,.agg e2 e3⟩
     have hm:(fs.mapM (fun f=>Prod.mk f.offset <$> sizeOf f.type:Field→Sem (Nat×Nat))).run P w=.ok pl.toArray w:=by
      rw [← Array.toArray_toList (xs:=fs),List.mapM_toArray]
      simp only [Sem.run_map,h5,Result.andThen_ok]
     simp [execOp,ho,Instr.build,zeroValue,typeInfo,h1,h2,underlying,h4,hm,hz,e1]
    ·cases h0
end
/-! ### A result that lies in a variable -/
theorem Ja8 {P:Program} {T k b:Nat} {vs:Array Value} {t:TypeId} {w:World} (hT:H10 P T k=true) (hv:w.heap[b]? = some (.cells vs t (0,0))) (hk:vs.size=k) :
  (loadVar T ⟨b,0,none⟩).run P w=.ok (.agg vs) w:=by
 have h1:=Gd4 (P:=P) (T:=T) (k:=k) (b:=b) (o':=0) (vs:=vs.toList) hT (by simpa using hk) (w:=w) (fun j v h=>by
  simp at h
  simp [World.cell?,hv,h])
 simpa [Instr.loadAt,Instr.sureAddr,asAddr] using h1
end Go.Proofs.YtmfhaflabpnaoaaGreat
