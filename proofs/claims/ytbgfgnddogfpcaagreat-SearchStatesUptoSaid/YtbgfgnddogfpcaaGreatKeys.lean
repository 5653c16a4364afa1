/-
 Calls whose result is known,closures,the small builtins,slic When two structs or arrays of plain cells are equal,and thei
-/
import Derived.Test.YtbgfgnddogfpcaaGreatMapOps
namespace Go.Proofs.YtbgfgnddogfpcaaGreat
open Go.RowKit
set_option linter.unusedVariables false
set_option linter.unusedSimpArgs false

section
variable {P:Program} {o:Oper} {l:Fr} {L:Loc} {u:AV}

theorem Gy.is {R:AV->Loc->Prop} (h:Gy P o l L R) {L':Loc} (hR:∀ r M,R r M->r=u/\M=L'):Gy P o l L (Is u L'):=
  fun a w U K Q hs hf hK=>h a w U K Q hs hf fun r M v w' U' hr=>hK r M v w' U' (hR r M hr)

theorem Gq {f:FuncId} {xs:List Operand} {args:AD} {ts:Array TypeId} (ho:o.op=.call { callee:=.value (.func f),args:=xs.toArray,argTypes:=ts }) (hc:Pure P f args (·=u)) (hB:H5 P f=true) (ha:eV l xs args):Gy P o l L (Is u L):=
  (Qb0 hc hB ha ho).is fun r M h=>⟨h.2,h.1⟩

variable {x:Operand}
theorem gF {f:FuncId} {xs:List Operand} {args AZ:AD} {ts:Array TypeId} (ho:o.op=.call { callee:=.value x,args:=xs.toArray,argTypes:=ts }) (hx:ev l x=.fn f AZ) (hc:Pure P f (args++AZ) (·=u)) (hB:H5 P f=true) (ha:eV l xs args) (h0:Qr (fun _=>false) AZ=true):Gy P o l L (Is u L):=
  (Q59 hc hB ha ho hx h0).is fun r M h=>⟨h.2,h.1⟩

section small
variable {x y:Operand} {T T':TypeId} {k:IntKind} {m n:Int} {ts:Array TypeId}
theorem Ha8 {a b:Bool} (hT:G01 P T=true) (ho:o.op=.binOp .eql T x y T') (hx:ev l x=.sc (.bool a)) (hy:ev l y=.sc (.bool b)):Gy P o l L (Is (.sc (.bool (a==b))) L):=
  Hj fun ac w U h0 hf=>by
    have h1:=hf.ev x;have h2:=hf.ev y;rw [hx] at h1; rw [hy] at h2;refine⟨_,?_,.sc⟩;simp [execOp,ho,eqGuard,binOp,h1.inv_sc,h2.inv_sc,run_equal_bool w T a b (G01.out hT)]
theorem Je1 {a b:Bool} (hT:G01 P T=true) (ho:o.op=.binOp .neq T x y T') (hx:ev l x=.sc (.bool a)) (hy:ev l y=.sc (.bool b)):Gy P o l L (Is (.sc (.bool (!(a==b)))) L):=
  Hj fun ac w U h0 hf=>by
    have h1:=hf.ev x;have h2:=hf.ev y;rw [hx] at h1; rw [hy] at h2;refine⟨_,?_,.sc⟩;simp [execOp,ho,eqGuard,binOp,h1.inv_sc,h2.inv_sc,run_equal_bool w T a b (G01.out hT)]

theorem Ha5 {i off:Nat} (ho:o.op=.nilCheck x) (hx:ev l x=.ptr i off):Gy P o l L (Is (.ptr i off) L):=
  Hj fun ac w U h0 hf=>by
    have h1:=hf.ev x;rw [hx] at h1;obtain⟨b,_,e⟩:=h1.inv_ptr;exact⟨ac.eval x,by rw [e]; simp [execOp,ho,e],h1⟩
theorem H1a {cs:AD} (ho:o.op=.nilCheck x) (hx:ev l x=.GY cs):Gy P o l L (Is (.GY cs) L):=
  Hj fun ac w U h0 hf=>by
    have h1:=hf.ev x;rw [hx] at h1;have h2:=h1.inv_dptr;refine⟨ac.eval x,?_,h1⟩;generalize hv:ac.eval x=v at h2;cases h2;simp [execOp,ho,hv]
theorem dF {f:FuncId} {xs:List Operand} {cs:AD} (ho:o.op=.makeFunc (.func f) #[] xs.toArray) (hx:xs.map (ev l)=cs):Gy P o l L (Is (.fn f cs) L):=
  Hj fun ac w U h0 hf=>by
    refine⟨.func (.func f) #[] (xs.map ac.eval).toArray,by simp [execOp,ho,Instr.makeFunc],?_⟩;subst hx;refine .fn (vs:=(xs.map ac.eval).toArray) (by simp) fun j u v hu hv=>?_;simp only [Pj,Option.map_eq_some_iff,List.getElem?_toArray] at hu hv;obtain⟨p,hp,rfl⟩:=hu;obtain⟨q,hq,rfl⟩:=hv;rw [hp] at hq; cases hq;exact hf.ev p
end small

/-! ### Parts of slices -/
theorem yY {k:Nat}:∀ {xs:AD},(∀ x∈xs,x.cells.length=k)->∀ m,flat (xs.drop m)=(flat xs).drop (m*k)
  | [],_,m=>by simp [flat]
  | x::r,h,0=>by simp
  | x::r,h,m+1=>by
    have h1:=h x (by simp);rw [List.drop_succ_cons,yY (fun y hy=>h y (by simp [hy])) m];simp only [flat];rw [List.drop_append,h1];have e:(m+1)*k=k+m*k:=by rw [Nat.succ_mul]; omega
    rw [e];have e1:List.drop (k+m*k) x.cells=[]:=by simp [h1]
    rw [e1]; simp
theorem gN {k:Nat}:∀ {xs:AD},(∀ x∈xs,x.cells.length=k)->∀ m,flat (xs.take m)=(flat xs).take (m*k)
  | [],_,m=>by simp [flat]
  | x::r,h,0=>by simp [flat]
  | x::r,h,m+1=>by
    have h1:=h x (by simp);rw [List.take_succ_cons];simp only [flat];rw [gN (fun y hy=>h y (by simp [hy])) m,List.take_append,h1];have e:(m+1)*k=k+m*k:=by rw [Nat.succ_mul]; omega
    rw [e];have e1:List.take (k+m*k) x.cells=x.cells:=by rw [List.take_of_length_le]; omega
    rw [e1]; simp

variable {xs:AD} {k m n:Nat}
theorem D.part {w:World} {S:Nat->Nat->Prop} {a:Option Addr} {len cap:Nat} (h:D w S (.list k xs) (.slice a len cap)) (h2:m<=n) (hn:n<=xs.length) :
    D w S (.list k ((xs.drop m).take (n - m))) (.slice (if cap=m then a else a.map (·.add (m*k))) (n - m) (cap - m)):=by
  have h1:=h.len;obtain⟨ao,c,he,h5,h6⟩:=h1;injection he with e1 e2 e3;subst e2; subst e3;rcases Nat.eq_or_lt_of_le h2 with e | h7
  · subst e
    simp only [Nat.sub_self,List.take_zero];exact .nil (by omega)
  · have h3:¬ cap=m:=by omega
    rw [if_neg h3];generalize hx:xs=ys at *;cases h with
    | nil _=>simp at hn; omega
    | @list _ b off _ _ vals h4 hm hk hS h=>
      have hl:(List.take (n - m) (List.drop m ys)).length=n - m:=by simp; omega
      have h0:flat (List.take (n - m) (List.drop m ys))=((flat ys).drop (m*k)).take ((n - m)*k):=by
        rw [gN (fun y hy=>hk y (List.mem_of_mem_drop hy)),yY hk]
      have h8:=J2 hk;have h9:m*k+(n - m)*k<=ys.length*k:=by rw [<- Nat.add_mul]; exact Nat.mul_le_mul_right _ (by omega)
      have e:(some (⟨b,off,none⟩:Addr)).map (·.add (m*k))=some ⟨b,off+m*k,none⟩:=by simp [Addr.add]
      rw [e];have key:D w S (.list k (List.take (n - m) (List.drop m ys))) (.slice (some ⟨b,off+m*k,none⟩) (List.take (n - m) (List.drop m ys)).length (cap - m)):=by
       refine .list (fun j=>vals (m*k+j)) (by omega) (by omega) (fun x hx=>hk x (List.mem_of_mem_drop (List.mem_of_mem_take hx))) (fun j hj=>?_) (fun j u hu=>?_)
       · rw [h0] at hj
         simp only [List.length_take,List.length_drop] at hj;have:=hS (m*k+j) (by omega);rw [<- Nat.add_assoc] at this;exact this
       · rw [h0] at hu
         rw [Pk] at hu;split at hu
         · rw [Pm] at hu
           exact h _ u hu
         · cases hu
      rwa [hl] at key

variable {E T:Nat}
theorem pJ (hT:sliceB P T E k=true) (a:Option Addr) (len cap m n:Nat) (lo hi:Option Value) (w:World) (h0:m<=n) (hn:n<=len) (hc:len<=cap)
    (h4:(lo=none/\m=0)\/∃ kd,lo=some (.int kd m)) (h5:(hi=none/\n=len)\/∃ kd,hi=some (.int kd n)) :
    (Instr.sliceAt T (.slice a len cap) lo hi none).run P w=.ok (.slice (if cap=m then a else a.map (·.add (m*k))) (n - m) (cap - m)) w:=by
  obtain⟨h1,h2⟩:=sliceB.out hT;have h3:=Q8 h2 w;have hb:∀ (kd:IntKind) (i:Nat) (y:Nat) (c:BoundsCode),i<=y->(Instr.sliceBound (.int kd (i:Int)) y c).run P w=.ok i w:=fun kd i y c hi=>by
    have:(0:Int)<=i/\(i:Int)<=y:=⟨by omega,by omega⟩;simp [Instr.sliceBound,asIntOf,this]
  have hs:(Instr.sliceBounds true len cap lo hi none).run P w=.ok (m,n,cap) w:=by
    rcases h4 with ⟨rfl,rfl⟩ | ⟨kd,rfl⟩ <;> rcases h5 with ⟨rfl,rfl⟩ | ⟨kd',rfl⟩
    · simp [Instr.sliceBounds]
    · simp [Instr.sliceBounds,hb _ n cap _ (by omega)]
    · simp [Instr.sliceBounds,hb _ m n _ h0]
    · simp [Instr.sliceBounds,hb _ m n _ h0,hb _ n cap _ (by omega)]
  simp [Instr.sliceAt,Instr.slice,run_underlying h1,hs,h3]

theorem J50 {lo hi:Option Operand} (ho:o.op=.slice T x lo hi none) (hT:sliceB P T E k=true) (hx:Jv (ev l x)=some (k,xs))
    (h2:(lo=none/\m=0)\/∃ kd p,lo=some p/\ev l p=.sc (.int kd m)) (h3:(hi=none/\n=xs.length)\/∃ kd p,hi=some p/\ev l p=.sc (.int kd n)) (h0:m<=n) (hn:n<=xs.length) :
    Gy P o l L (Is (.list k ((xs.drop m).take (n - m))) L):=
  Hj fun a w U h5 hf=>by
    have h1:=(hf.ev x).Jv hx;obtain⟨ao,cap,he,h4,h6⟩:=h1.len;rw [he] at h1;refine⟨_,?_,.data (h1.part h0 hn)⟩;simp only [execOp,ho,he,Sem.run_bind,Option.map_none];rw [pJ hT ao xs.length cap m n _ _ w h0 hn h4]
    · rfl
    · rcases h2 with ⟨rfl,rfl⟩ | ⟨kd,p,rfl,hp⟩
      · exact .inl ⟨rfl,rfl⟩
      · refine .inr ⟨kd,?_⟩
        have:=hf.ev p; rw [hp] at this;simp [this.inv_sc]
    · rcases h3 with ⟨rfl,rfl⟩ | ⟨kd,p,rfl,hp⟩
      · exact .inl ⟨rfl,rfl⟩
      · refine .inr ⟨kd,?_⟩
        have:=hf.ev p; rw [hp] at this;simp [this.inv_sc]
theorem J8f {p:Operand} {kd:IntKind} {mi:Int} (ho:o.op=.slice T x (some p) none none) (hx:Jv (ev l x)=some (k,xs)) (hp:ev l p=.sc (.int kd mi)) (hT:sliceB P T E k=true) (hm:mi=(m:Int)) (h0:m<=xs.length) :
    Gy P o l L (Is (.list k (xs.drop m)) L):=by
  subst hm;have h:=J50 (L:=L) ho hT hx (.inr ⟨kd,p,rfl,hp⟩) (.inl ⟨rfl,rfl⟩) h0 (Pf);have e:(xs.drop m).take (xs.length - m)=xs.drop m:=List.take_of_length_le (by simp)
  rwa [e] at h
theorem J90 {p:Operand} {kd:IntKind} {ni:Int} (ho:o.op=.slice T x none (some p) none) (hx:Jv (ev l x)=some (k,xs)) (hp:ev l p=.sc (.int kd ni)) (hT:sliceB P T E k=true) (hn:ni=(n:Int)) (h0:n<=xs.length) :
    Gy P o l L (Is (.list k (xs.take n)) L):=by
  subst hn;have h:=J50 (L:=L) (m:=0) ho hT hx (.inl ⟨rfl,rfl⟩) (.inr ⟨kd,p,rfl,hp⟩) (Nat.zero_le _) h0;simpa using h
end

/-! ### A local variable that is not written any more -/
inductive Frz (i:Nat) (cs:AD) (ok:Nat->Bool):AV->AV->Prop
  | conv {u u':AV} (h:Conv ok u u'):Frz i cs ok u u'
  | ptr {off:Nat}:Frz i cs ok (.ptr i off) (.GY (cs.drop off))
def G84 (i:Nat) (cs:AD) (ok:Nat->Bool) (l:Fr):Fr->Prop
  | []=>True
  | (t,u)::r=>Frz i cs ok (look l t) u/\G84 i cs ok l r
variable {l:Fr} {cs:AD}
theorem G84.get {i:Nat} {ok:Nat->Bool} :∀ {l':Fr},G84 i cs ok l l'->∀ t,Frz i cs ok (look l t) (look l' t)
  | [],_,t=>.conv .AL
  | (t',u)::r,h,t=>by
    by_cases e:t'=t
    · subst e; simpa [look] using h.1
    · have hb:Nat.beq t' t=false:=by
        cases hb:Nat.beq t' t with
        | false=>rfl
        | true=>exact absurd (P2 hb) e
      simpa [look,hb] using h.2.get t

variable {L:Loc} {t:TypeId}
theorem V.freeze {w:World} {U:Gx} {L':Loc} {i off:Nat} (h0:Sat w U L) (hi:lk L i=some (.box t cs)) (hd:Qr (fun _=>false) cs=true) (h6:tV L L') (h7:lk L' i=none) {v:Value}
    (h:V w U L (.ptr i off) v):V w U L' (.GY (cs.drop off)) v:=by
  obtain⟨b,hb,rfl⟩:=h.inv_ptr;obtain⟨vs,h1,h2,h3⟩:=yB h0 hi hb;have h8:b < w.heap.size:=h0.bnd i b (by rw [hi]; rfl) hb;refine .data (.GY (fun j=>(vs[off+j]?).getD undef) (fun j hj=>⟨⟨h8,h0.apart i b _ (by rw [hi]; rfl) hb,fun id o' h5 h9=>?_⟩,?_⟩) (fun j u hu=>?_))
  · obtain⟨o1,a0,_⟩:=h6.like id o' h5
    have:=h0.inj id i b (by rw [a0]; rfl) (by rw [hi]; rfl) h9 hb;subst this;rw [h7] at h5; cases h5
  · simp only [List.length_drop] at hj
    have h4:off+j < vs.size:=by omega
    simp [World.cell?,h1,h4]
  · rw [Pm] at hu
    have h4:off+j < vs.size:=by rw [h2]; exact(Pa hu).1
    have hv:=h3 (off+j) u vs[off+j] hu (by simp [h4]);have hm:u∈cs:=Pd hu;have hD:=(hv.toD (Yz hd u hm)).mono (S':=Hs w U L') fun b' i' hs=>⟨h6.AX hs,rfl⟩;simpa [h4] using hD

variable {N:Cfg}
theorem Qn.freeze {w0 w:World} {U0 U:Gx} {L0 L':Loc} {a:Act} {l':Fr} (hs:Qn N w0 U0 L0 a w U l L) (i:Nat) (hi:lk L i=some (.box t cs)) (hd:Qr (fun _=>false) cs=true)
    (h2:lk L' i=none) (hl:aX (fun j=>(lk L' j).isSome) L L') (hb:allIn L' N.base=true) (hf:G84 i cs (fun j=>(lk L' j).isSome) l l'):Qn N w0 U0 L0 a w U l' L':=by
  have h0:Fits N.base l L [] L':=⟨trivial,hl,hb⟩;have h1:=hs.fits h0;refine⟨h1.sat,h1.step,⟨fun t'=>?_⟩,h1.size,h1.base,h1.defers⟩;have hv:=hs.frame.tmp t';generalize hu:look l t'=u at hv;have hz:=hf.get t';rw [hu] at hz;generalize look l' t'=u' at hz;cases hz with
  | conv hc=>exact hv.conv h0.drop hc
  | ptr=>exact hv.freeze hs.sat hi hd h0.drop h2
theorem Gu {P:Program} {c:Code} {Q:Post} (l':Fr) (L':Loc) (i:Nat) (hi:lk L i=some (.box t cs)) (hd:Qr (fun _=>false) cs=true)
    (h0:lk L' i=none) (hl:aX (fun j=>(lk L' j).isSome) L L') (hb:allIn L' N.base=true) (hf:G84 i cs (fun j=>(lk L' j).isSome) l l') (hk:JC P N c Q l' L'):JC P N c Q l L:=
  fun n w0 U0 L0 a w U hs=>hk n w0 U0 L0 a w U (hs.freeze i hi hd h0 hl hb hf)
theorem fzQ {P:Program} {c:Code} {Q:Post} (l':Fr) (L':Loc) (i:Nat) (hi:lk L i=some (.box t cs)) (hd:Qr (fun _=>false) cs=true)
    (h0:lk L' i=none) (hl:aX (fun j=>(lk L' j).isSome) L L') (hb:allIn L' N.base=true) (hk:JC P N c Q l' L') (hf:G84 i cs (fun j=>(lk L' j).isSome) l l':=by repeat' (first | exact .ptr | constructor)):JC P N c Q l L:=Gu l' L' i hi hd h0 hl hb hf hk
set_option linter.unusedVariables false
set_option linter.unusedSimpArgs false

def G5a (P:Program) (T:TypeId) (x y:Value):Option Bool:=
  match P.underlying T,x,y with
  | some .bool,.bool a,.bool b=>some (a==b)
  | some (.int _),.int k a,.int k' b=>if k=k' then some (a==b) else none
  | some .string,.string a,.string b=>some (a==b)
  | _,_,_=>none

def both:Option Bool->Option Bool->Option Bool
  | some a,some b=>some (a&&b)
  | _,_=>none

def seg (P:Program) (T:TypeId) (xs:AK) (off:Nat):Option AK:=
  let r:=(xs.drop off).take (P.cellsOf T)
  if r.length=P.cellsOf T then some r else none

def qK (P:Program):Nat->TypeId->AK->AK->Option Bool
  | 0,_,_,_=>none
  | m+1,T,xs,ys=>
    match P.underlying T with
    | some (.array n e)=>if (P.info? e).isSome then (List.range n).foldr (fun i r=>both (match seg P e xs (i*P.cellsOf e),seg P e ys (i*P.cellsOf e) with
        | some a,some b=>qK P m e a b
        | _,_=>none) r) (some true) else none
    | some (.struct fs) => if P.stoodInHeld T then none else fs.toList.foldr (fun f r => if f.name = "_" then none else both (match seg P f.type xs f.offset, seg P f.type ys f.offset with
        | some a,some b=>qK P m f.type a b
        | _,_=>none) r) (some true)
    | _=>match xs,ys with
      | [x],[y]=>G5a P T x y
      | _,_=>none

section
variable {P:Program} (w:World)

def bO (P:Program) (T:TypeId):Bool:=match P.underlying T with | some (.struct _) | some (.array _ _)=>true | _=>false
def Reads (P:Program) (T:TypeId) (x:Value) (xs:AK):Prop:=if bO P T then x=.agg xs.toArray else xs=[x]

variable {r:Bool}
theorem Ge3 {a b:Option Bool} (h:both a b=some r):∃ p q,a=some p/\b=some q/\r=(p&&q):=by
  unfold both at h;split at h
  · cases h; exact⟨_,_,rfl,rfl,rfl⟩
  · cases h

variable {T:Nat}
theorem vJ {off:Nat} {xs:Array Value} {s:AK} (hi:(P.info? T).isSome=true) (hu:∃ d,P.underlying T=some d) (h:seg P T xs.toList off=some s) (h1:bO P T=false->∃ x,s=[x]) :
    ∃ a,(part T xs off).run P w=.ok a w/\Reads P T a s:=by
  obtain⟨i,hi⟩:=Ny hi;obtain⟨d,hu⟩:=hu;unfold seg at h;simp only at h;split at h
  · rename_i hl
    cases h;have hc:P.cellsOf T=i.size:=by simp [Program.cellsOf,hi]
    by_cases ha:bO P T=true
    · refine⟨.agg (xs.extract off (off+i.size)),?_,?_⟩
      · have hg:(isAgg T).run P w=.ok true w:=by
          unfold bO at ha;split at ha
          · rename_i fs e; simp [isAgg,run_underlying e]
          · rename_i n e' e; simp [isAgg,run_underlying e]
          · cases ha
        simp [part,hg,run_sizeOf w hi,hc]
      · unfold Reads
        rw [if_pos ha,hc];congr 1;apply Array.ext';simp [List.take_drop,Nat.add_comm]
    · have h2:bO P T=false:=by simpa using ha
      obtain⟨x,hx⟩:=h1 h2;refine⟨x,?_,?_⟩
      · have hg:(isAgg T).run P w=.ok false w:=by
          unfold bO at h2;cases d <;> simp [hu] at h2 <;> simp [isAgg,run_underlying hu]
        have h0:xs[off]? = some x:=by
          have:((xs.toList.drop off).take (P.cellsOf T))[0]? = some x:=by rw [hx]; rfl
          rw [Pk] at this;split at this
          · simpa [Pm] using this
          · cases this
        simp [part,hg,h0]
      · unfold Reads
        rw [if_neg ha];exact hx
  · cases h

variable {xs:AK} {m:Nat}
theorem Gdf {ys:AK} (ha:bO P T=false) (h:qK P (m+1) T xs ys=some r):∃ x y,xs=[x]/\ys=[y]/\G5a P T x y=some r:=by
  unfold qK at h;split at h
  · rename_i e; simp [bO,e] at ha
  · rename_i e; simp [bO,e] at ha
  · split at h
    · exact⟨_,_,rfl,rfl,h⟩
    · cases h

theorem qG {T:TypeId} {d:TypeDesc} (h:P.underlying T=some d):(P.info? T).isSome=true:=by
  obtain⟨i,hi⟩:=info_of_underlying h;simp [hi]

theorem H89 {ys:AK} (h:qK P m T xs ys=some r):∃ d,P.underlying T=some d:=by
  cases m with
  | zero=>cases h
  | succ m=>
    unfold qK at h;cases hu:P.underlying T with
    | some d=>exact⟨d,rfl⟩
    | none=>
      rw [hu] at h;simp only at h;split at h
      · unfold G5a at h; rw [hu] at h; cases h
      · cases h

theorem JB (d:Nat):∀ (m:Nat) (T:TypeId) (x y:Value) (xs ys:AK) (r:Bool) (w:World),qK P m T xs ys=some r->Reads P T x xs->Reads P T y ys->(Op.equalIn (d+m) T x y).run P w=.ok r w
  | 0,_,_,_,_,_,_,_,h,_,_=>by cases h
  | m+1,T,x,y,xs,ys,r,w,h,hx,hy=>by
    have step:∀ (T' off:Nat) (X Y:Array Value) (p:Bool) (w:World),(match seg P T' X.toList off,seg P T' Y.toList off with
        | some a,some b=>qK P m T' a b
        | _,_=>none)=some p->∃ a b,(part T' X off).run P w=.ok a w/\(part T' Y off).run P w=.ok b w/\(Op.equalIn (d+m) T' a b).run P w=.ok p w:=by
      intro T' off X Y p w hp;split at hp
      · rename_i a b h1 h2
        have hu:=H89 hp;obtain⟨dd,h0⟩:=hu;have hi:=qG h0;have h3:bO P T'=false->∃ x y,a=[x]/\b=[y]/\G5a P T' x y=some p:=fun ha=>by
          cases m with
          | zero=>cases hp
          | succ m'=>exact Gdf ha hp
        obtain⟨u,h7,h8⟩:=vJ w hi ⟨dd,h0⟩ h1 (fun ha=>by obtain⟨x,y,e,_,_⟩:=h3 ha; exact⟨x,e⟩);obtain⟨v,h9,a0⟩:=vJ w hi ⟨dd,h0⟩ h2 (fun ha=>by obtain⟨x,y,_,e,_⟩:=h3 ha; exact⟨y,e⟩);exact⟨u,v,h7,h9,JB d m T' u v a b p w hp h8 a0⟩
      · cases hp
    have hh:=h;unfold qK at h;split at h
    · rename_i n e hu
      have ha:bO P T=true:=by simp [bO,hu]
      unfold Reads at hx hy;rw [if_pos ha] at hx hy;subst hx; subst hy;split at h
      · rename_i hi
        obtain⟨i,hi⟩:=Ny hi;rw [show d+(m+1)=(d+m)+1 from rfl,run_equalIn_array w (d+m) xs.toArray ys.toArray hu hi];generalize List.range n=is at h;clear hh
        induction is generalizing r with
        | nil=>simp at h; subst h; simp [Op.eqItems]
        | cons j is ih=>
          rw [List.foldr_cons] at h;obtain⟨p,q,hp,hq,rfl⟩:=Ge3 h;obtain⟨a,b,p1,p2,p3⟩:=step e (j*P.cellsOf e) xs.toArray ys.toArray p w hp;simp only [Op.eqItems,Sem.run_bind,p1,p2,p3,Result.andThen_ok];cases p
          · simp
          · simpa using ih q hq
      · cases h
    · rename_i fs hu
      have ha:bO P T=true:=by simp [bO,hu]
      unfold Reads at hx hy;rw [if_pos ha] at hx hy;subst hx; subst hy;split at h
      · cases h
      · rename_i a1
        have h4:P.fieldsOf T=fs:=by simp [Program.fieldsOf,hu]
        rw [show d+(m+1)=(d+m)+1 from rfl,run_equalIn_struct w (d+m) T xs.toArray ys.toArray (by rw [h4]; exact hu) (by simpa using a1),h4];generalize fs.toList=fl at h;clear hh
        induction fl generalizing r with
        | nil=>simp at h; subst h; simp [Op.eqFields]
        | cons f fl ih=>
          rw [List.foldr_cons] at h;split at h
          · cases h
          · rename_i hn
            obtain⟨p,q,hp,hq,rfl⟩:=Ge3 h;obtain⟨a,b,p1,p2,p3⟩:=step f.type f.offset xs.toArray ys.toArray p w hp;unfold Op.eqFields;rw [if_pos hn];simp only [Sem.run_bind,p1,p2,p3,Result.andThen_ok];cases p
            · simp
            · simpa using ih q hq
    · rename_i h5 h6
      have ha:bO P T=false:=by
        unfold bO;split
        · rename_i e; exact absurd e (h6 _)
        · rename_i e; exact absurd e (h5 _ _)
        · rfl
      obtain⟨x',y',e1,e2,hl⟩:=Gdf ha hh;unfold Reads at hx hy;rw [ha] at hx hy;simp only [Bool.false_eq_true,if_false] at hx hy;rw [e1] at hx; rw [e2] at hy;cases hx; cases hy;rw [show d+(m+1)=(d+m)+1 from rfl];unfold G5a at hl;split at hl
      · rename_i e; cases hl; exact run_equalIn_bool w _ _ _ _ e
      · rename_i e
        split at hl
        · rename_i ek; subst ek; cases hl; exact run_equalIn_int w _ _ _ _ _ _ e
        · cases hl
      · rename_i a b e; cases hl
        rw [run_equalIn_string w _ _ _ _ e,beq_toListBytes]
      · cases hl

def G00 (P:Program):Nat->TypeId->AK->Bool
  | 0,_,_=>false
  | m+1,T,xs=>
    match P.underlying T with
    | some (.array n e)=>(P.info? e).isSome&&(List.range n).all (fun i=>match seg P e xs (i*P.cellsOf e) with
        | some a=>G00 P m e a
        | none=>false)
    | some (.struct fs) => fs.toList.all (fun f => f.name != "_" && match seg P f.type xs f.offset with
        | some a=>G00 P m f.type a
        | none=>false)
    | some .bool | some (.int _) | some .string=>match xs with
      | [_]=>true
      | _=>false
    | _=>false

theorem J7c (h:G00 P m T xs=true):∃ d,P.underlying T=some d/\(bO P T=false->∃ x,xs=[x]):=by
  cases m with
  | zero=>cases h
  | succ m=>
    unfold G00 at h;split at h
    · rename_i e; exact⟨_,e,fun h=>by simp [bO,e] at h⟩
    · rename_i e; exact⟨_,e,fun h=>by simp [bO,e] at h⟩
    all_goals first
      | (rename_i e
         split at h
         · exact⟨_,e,fun _=>⟨_,rfl⟩⟩
         · cases h)
      | cases h

theorem Gcb (em:Bool) (d:Nat):∀ (m:Nat) (T:TypeId) (x:Value) (xs:AK) (w:World),G00 P m T xs=true->Reads P T x xs->(Instr.checkKey em (d+m) T x).run P w=.ok () w
  | 0,_,_,_,_,h,_=>by cases h
  | m+1,T,x,xs,w,h,hx=>by
    have step:∀ (T' off:Nat) (X:Array Value) (w:World),(match seg P T' X.toList off with
        | some a=>G00 P m T' a
        | none=>false)=true->∃ a,(part T' X off).run P w=.ok a w/\(Instr.checkKey em (d+m) T' a).run P w=.ok () w:=by
      intro T' off X w hp;split at hp
      · rename_i a h1
        obtain⟨dd,h0,h3⟩:=J7c hp;obtain⟨u,h4,h5⟩:=vJ w (qG h0) ⟨dd,h0⟩ h1 h3;exact⟨u,h4,Gcb em d m T' u a w hp h5⟩
      · cases hp
    unfold G00 at h;split at h
    · rename_i n e hu
      have ha:bO P T=true:=by simp [bO,hu]
      unfold Reads at hx;rw [if_pos ha] at hx;subst hx;simp only [Pp] at h;obtain⟨i,hi⟩:=Ny h.1;have h2:=h.2;have hc:i.size=P.cellsOf e:=by simp [Program.cellsOf,hi]
      rw [show d+(m+1)=(d+m)+1 from rfl,Instr.checkKey];simp only [Sem.run_bind,run_underlying hu,Result.andThen_ok];simp only [Std.Legacy.Range.forIn_eq_forIn_range',Std.Legacy.Range.size,Nat.sub_zero,Nat.add_one_sub_one,Nat.div_one];rw [List.range_eq_range'] at h2;generalize List.range' 0 n=is at h2
      induction is with
      | nil=>simp
      | cons j is ih=>
        simp only [List.all_cons,Pp] at h2;obtain⟨a,p1,p2⟩:=step e (j*P.cellsOf e) xs.toArray w h2.1;simp only [List.forIn_cons,Sem.run_bind,run_sizeOf w hi,Result.andThen_ok,p1,p2,Sem.run_pure];exact ih h2.2
    · rename_i fs hu
      have ha:bO P T=true:=by simp [bO,hu]
      unfold Reads at hx;rw [if_pos ha] at hx;subst hx;rw [show d+(m+1)=(d+m)+1 from rfl,Instr.checkKey];simp only [Sem.run_bind,run_underlying hu,Result.andThen_ok];rw [<- Array.forIn_toList];generalize fs.toList=fl at h
      induction fl with
      | nil=>simp
      | cons f fl ih=>
        simp only [List.all_cons,Pp,bne_iff_ne,ne_eq] at h;obtain⟨a,p1,p2⟩:=step f.type f.offset xs.toArray w h.1.2;have hn:=h.1.1;simp only [List.forIn_cons,Sem.run_bind,ne_eq,hn,not_false_eq_true,if_true,p1,p2,Result.andThen_ok,Sem.run_pure];exact ih h.2
    all_goals first
      | (rename_i hu
         rw [show d+(m+1)=(d+m)+1 from rfl,Instr.checkKey];simp [run_underlying hu]; done)
      | cases h

theorem pG.of_eq {k:TypeId} {W:Type} [DecidableEq W] (kv:W->AK) (h0:bO P k=true) (inj:∀ a b,kv a=kv b->a=b) (m:Nat) (hm:m<=10000) (h6:∀ a b,qK P m k (kv a) (kv b)=some (decide (a=b))) (h8:∀ a,G00 P m k (kv a)=true)
    (h5:∀ a,Instr.sameBits 10000 (.agg (kv a).toArray) (.agg (kv a).toArray)=true):pG P k (fun a=>.agg (kv a).toArray) where
  inj:=fun a b h=>inj a b (by simpa using h)
  check:=fun w em a=>by
    have:=Gcb em (10000 - m) m k (.agg (kv a).toArray) (kv a) w (h8 a) (by unfold Reads; rw [if_pos h0])
    rwa [Nat.sub_add_cancel hm] at this
  find:=fun w a es he=>by
    obtain⟨dd,h4⟩:=H89 (h6 a a);have h9:∀ (es:List MapEntry),es≠[]->Instr.findNow dd (.agg (kv a).toArray) es 0=none:=fun es a0=>by
      cases es with
      | nil=>exact absurd rfl a0
      | cons x r=>
        have:Instr.sameNow dd (.agg (kv a).toArray) x.key=none:=by
          unfold Instr.sameNow; split <;> simp_all
        simp [Instr.findNow,this]
    have key:∀ (es:List MapEntry) (i:Nat),(∀ e∈es,∃ b,e.key=Value.agg (kv b).toArray) ->
        ((Instr.findAsking k (.agg (kv a).toArray) es i).run P w=.ok none w/\∀ e∈es,e.key≠.agg (kv a).toArray)\/∃ j e,(Instr.findAsking k (.agg (kv a).toArray) es i).run P w=.ok (some (i+j,e.val)) w/\es[j]? = some e/\e.key=.agg (kv a).toArray:=by
      intro es
      induction es with
      | nil=>intro i _; exact .inl ⟨rfl,by simp⟩
      | cons x r ih=>
        intro i he;obtain⟨b,hb⟩:=he x (by simp);have hq:(Op.equal k (.agg (kv a).toArray) x.key).run P w=.ok (decide (a=b)) w:=by
          rw [hb];have:=JB (10000 - m) m k (.agg (kv a).toArray) (.agg (kv b).toArray) (kv a) (kv b) _ w (h6 a b) (by unfold Reads; rw [if_pos h0]) (by unfold Reads; rw [if_pos h0])
          rwa [Nat.sub_add_cancel hm] at this
        by_cases e:a=b
        · subst e
          refine .inr ⟨0,x,?_,rfl,hb⟩;simp [Instr.findAsking,hq]
        · have hs:(Instr.findAsking k (.agg (kv a).toArray) (x::r) i).run P w=(Instr.findAsking k (.agg (kv a).toArray) r (i+1)).run P w:=by
            simp [Instr.findAsking,hq,e]
          rcases ih (i+1) (fun y hy=>he y (by simp [hy])) with ⟨h1,h2⟩ | ⟨j,y,h1,h2,h3⟩
          · refine .inl ⟨by rw [hs]; exact h1,fun y hy=>?_⟩
            rcases Pv.1 hy with rfl | hy
            · rw [hb]; intro e'; exact e (inj b a (by simpa using e')).symm
            · exact h2 y hy
          · exact .inr ⟨j+1,y,by rw [hs,h1]; congr 3; omega,by simpa using h2,h3⟩
    cases h7:es with
    | nil=>exact .inl ⟨by simp [Instr.findKey,run_underlying h4,Instr.findNow],by simp⟩
    | cons x r=>
      rw [<- h7];have hn:=h9 es (by simp [h7]);rcases key es 0 he with ⟨h1,h2⟩ | ⟨j,e,h1,h2,h3⟩
      · exact .inl ⟨by simp [Instr.findKey,run_underlying h4,hn,h1],h2⟩
      · exact .inr ⟨j,e,by simp [Instr.findKey,run_underlying h4,hn,h1],h2,h3⟩
  stays:=fun w a=>by simp [Instr.keyThatStays,h5 a]

/-! ### Equality of aggregates aQ an operation -/
variable {o:Oper} {l:Fr} {L:Loc}
def scs (vs:AK):AD:=vs.map .sc
variable {vs:AK}
theorem V.inv_scs {U:Gx} {x:Value} {w:World} (h:V w U L (.agg (scs vs)) x):x=.agg vs.toArray:=by
  obtain⟨us,rfl,hl,hu⟩:=h.inv_agg;congr 1;apply Array.ext
  · simpa [scs] using hl
  · intro i h1 h2
    have h3:i < vs.length:=by simpa using h2
    have:=(hu i (.sc vs[i]) us[i] (by simp [scs,h3]) (by simp [h1])).inv_sc;simpa using this

theorem mB {x y:Operand} {T T':TypeId} {us:AK} (m:Nat) (hm:Nat.ble m 10000=true) (hq:qK P m T vs us=some r) (h0:bO P T=true) (hg:P.eqGuardType P.depth T=false)
    (ho:o.op=.binOp .eql T x y T') (hx:ev l x=.agg (scs vs)) (hy:ev l y=.agg (scs us)):Gy P o l L (Is (.sc (.bool r)) L):=
  Hj fun a w U h4 hf=>by
    have h1:=hf.ev x;have h2:=hf.ev y;rw [hx] at h1; rw [hy] at h2;have e1:=V.inv_scs h1;have e2:=V.inv_scs h2;refine⟨_,?_,.sc⟩;have h3:=JB (10000 - m) m T (.agg vs.toArray) (.agg us.toArray) vs us r w hq (by unfold Reads; rw [if_pos h0]) (by unfold Reads; rw [if_pos h0]);rw [Nat.sub_add_cancel (Nat.le_of_ble_eq_true hm)] at h3;simp [execOp,ho,e1,e2,run_eqGuard_agg w .eql T x y _ _ hg,run_eql_struct,h3]
theorem QQ {x y:Operand} {T T':TypeId} {us:AK} (m:Nat) (hm:Nat.ble m 10000=true) (hq:qK P m T vs us=some r) (h0:bO P T=true) (hg:P.eqGuardType P.depth T=false)
    (ho:o.op=.binOp .neq T x y T') (hx:ev l x=.agg (scs vs)) (hy:ev l y=.agg (scs us)):Gy P o l L (Is (.sc (.bool (!r))) L):=
  Hj fun a w U h5 hf=>by
    have h1:=hf.ev x;have h2:=hf.ev y;rw [hx] at h1; rw [hy] at h2;have e1:=V.inv_scs h1;have e2:=V.inv_scs h2;refine⟨_,?_,.sc⟩;have h3:=JB (10000 - m) m T (.agg vs.toArray) (.agg us.toArray) vs us r w hq (by unfold Reads; rw [if_pos h0]) (by unfold Reads; rw [if_pos h0]);rw [Nat.sub_add_cancel (Nat.le_of_ble_eq_true hm)] at h3;have h4:(binOp .neq T (.agg vs.toArray) (.agg us.toArray)).run P w=.ok (.bool (!r)) w:=by
      simp only [binOp,Op.equal,Op.maxDepth,Sem.run_bind,h3,Result.andThen_ok,Sem.run_pure]
    simp [execOp,ho,e1,e2,run_eqGuard_agg w .neq T x y _ _ hg,h4]
end
end Go.Proofs.YtbgfgnddogfpcaaGreat
