/- Calls whose result is known,closures,the small builtins,slic -/
import Derived.Test.YthkihfoleenlmaaGreatMapOps
namespace Go.Proofs.YthkihfoleenlmaaGreat
open Go.RowKit
set_option linter.unusedVariables false
set_option linter.unusedSimpArgs false

section
variable {P:Program} {o:Oper} {l:Fr} {L:Loc} {u:AV}

theorem H2.is {R:AV→Loc→Prop} (h:H2 P o l L R) {L':Loc} (hR:∀ r M,R r M→r=u/\M=L'):H2 P o l L (Is u L'):=
  fun a w β K Q hs hf hK=>h a w β K Q hs hf fun r M v w' J' hr=>hK r M v w' J' (hR r M hr)

theorem Gi {f:FuncId} {xs:List Operand} {args:List AV} {ts:Array TypeId} (ho:o.op=.call { callee:=.value (.func f),args:=xs.toArray,argTypes:=ts }) (hc:Pure P f args (·=u)) (hB:H7 P f=true) (ha:jK l xs args):H2 P o l L (Is u L):=
  (Q0b hc hB ha ho).is fun r M h=>⟨h.2,h.1⟩

theorem fR {f:FuncId} {x:Operand} {xs:List Operand} {args caps:List AV} {ts:Array TypeId} (ho:o.op=.call { callee:=.value x,args:=xs.toArray,argTypes:=ts }) (hx:ev l x=.fn f caps) (hc:Pure P f (args++caps) (·=u)) (hB:H7 P f=true) (ha:jK l xs args) (h0:Ys (fun _=>false) caps=true):H2 P o l L (Is u L):=
  (Jbc hc hB ha ho hx h0).is fun r M h=>⟨h.2,h.1⟩

section small
variable {x y:Operand} {T T':TypeId} {k:IntKind} {m n:Int} {ts:Array TypeId}
theorem H46 {a b:Bool} (hT:RT P T=true) (ho:o.op=.binOp .eql T x y T') (hx:ev l x=.sc (.bool a)) (hy:ev l y=.sc (.bool b)):H2 P o l L (Is (.sc (.bool (a==b))) L):=
  Hm fun ac w β h0 hf=>by
    have h1:=hf.ev x
    have h2:=hf.ev y
    rw [hx] at h1; rw [hy] at h2
    refine⟨_,?_,.sc⟩
    simp [execOp,ho,eqGuard,binOp,h1.inv_sc,h2.inv_sc,run_equal_bool w T a b (RT.out hT)]
theorem G40 {a b:Bool} (hT:RT P T=true) (ho:o.op=.binOp .neq T x y T') (hx:ev l x=.sc (.bool a)) (hy:ev l y=.sc (.bool b)):H2 P o l L (Is (.sc (.bool (!(a==b)))) L):=
  Hm fun ac w β h0 hf=>by
    have h1:=hf.ev x
    have h2:=hf.ev y
    rw [hx] at h1; rw [hy] at h2
    refine⟨_,?_,.sc⟩
    simp [execOp,ho,eqGuard,binOp,h1.inv_sc,h2.inv_sc,run_equal_bool w T a b (RT.out hT)]

theorem H43 {i off:Nat} (ho:o.op=.nilCheck x) (hx:ev l x=.ptr i off):H2 P o l L (Is (.ptr i off) L):=
  Hm fun ac w β h0 hf=>by
    have h1:=hf.ev x
    rw [hx] at h1
    obtain⟨b,_,e⟩:=h1.inv_ptr
    exact⟨ac.eval x,by rw [e]; simp [execOp,ho,e],h1⟩
theorem Ha7 {cs:List AV} (ho:o.op=.nilCheck x) (hx:ev l x=.dptr cs):H2 P o l L (Is (.dptr cs) L):=
  Hm fun ac w β h0 hf=>by
    have h1:=hf.ev x
    rw [hx] at h1
    have h2:=h1.inv_dptr
    refine⟨ac.eval x,?_,h1⟩
    generalize hv:ac.eval x=v at h2
    cases h2
    simp [execOp,ho,hv]
theorem eS {f:FuncId} {xs:List Operand} {cs:List AV} (ho:o.op=.makeFunc (.func f) #[] xs.toArray) (hx:xs.map (ev l)=cs):H2 P o l L (Is (.fn f cs) L):=
  Hm fun ac w β h0 hf=>by
    refine⟨.func (.func f) #[] (xs.map ac.eval).toArray,by simp [execOp,ho,Instr.makeFunc],?_⟩
    subst hx
    refine .fn (vs:=(xs.map ac.eval).toArray) (by simp) fun j u v hu hv=>?_
    simp only [Pj,Option.map_eq_some_iff,List.getElem?_toArray] at hu hv
    obtain⟨p,hp,rfl⟩:=hu
    obtain⟨q,hq,rfl⟩:=hv
    rw [hp] at hq; cases hq
    exact hf.ev p
end small

/-! ### Parts of slices -/
theorem xP {k:Nat}:∀ {xs:List AV},(∀ x∈xs,x.cells.length=k)→∀ m,flat (xs.drop m)=(flat xs).drop (m*k)
  | [],_,m=>by simp [flat]
  | x::r,h,0=>by simp
  | x::r,h,m+1=>by
    have h1:=h x (by simp)
    rw [List.drop_succ_cons,xP (fun y hy=>h y (by simp [hy])) m]
    simp only [flat]
    rw [List.drop_append,h1]
    have e:(m+1)*k=k+m*k:=by rw [Nat.succ_mul]; omega
    rw [e]
    have e1:List.drop (k+m*k) x.cells=[]:=by simp [h1]
    rw [e1]; simp
theorem gC {k:Nat}:∀ {xs:List AV},(∀ x∈xs,x.cells.length=k)→∀ m,flat (xs.take m)=(flat xs).take (m*k)
  | [],_,m=>by simp [flat]
  | x::r,h,0=>by simp [flat]
  | x::r,h,m+1=>by
    have h1:=h x (by simp)
    rw [List.take_succ_cons]
    simp only [flat]
    rw [gC (fun y hy=>h y (by simp [hy])) m,List.take_append,h1]
    have e:(m+1)*k=k+m*k:=by rw [Nat.succ_mul]; omega
    rw [e]
    have e1:List.take (k+m*k) x.cells=x.cells:=by rw [List.take_of_length_le]; omega
    rw [e1]; simp

theorem D.part {w:World} {S:Nat→Nat→Prop} {k m n:Nat} {xs:List AV} {a:Option Addr} {len cap:Nat} (h:D w S (.list k xs) (.slice a len cap)) (h2:m≤n) (hn:n≤xs.length) :
    D w S (.list k ((xs.drop m).take (n - m))) (.slice (if cap=m then a else a.map (·.add (m*k))) (n - m) (cap - m)):=by
  have h1:=h.len
  obtain⟨ao,c,he,h5,h6⟩:=h1
  injection he with e1 e2 e3
  subst e2; subst e3
  rcases Nat.eq_or_lt_of_le h2 with e | h7
  · subst e
    simp only [Nat.sub_self,List.take_zero]
    exact .nil (by omega)
  · have h3:¬ cap=m:=by omega
    rw [if_neg h3]
    generalize hx:xs=ys at *
    cases h with
    | nil _=>simp at hn; omega
    | @list _ b off _ _ vals h4 hm hk hS h=>
      have hl:(List.take (n - m) (List.drop m ys)).length=n - m:=by simp; omega
      have h0:flat (List.take (n - m) (List.drop m ys))=((flat ys).drop (m*k)).take ((n - m)*k):=by
        rw [gC (fun y hy=>hk y (List.mem_of_mem_drop hy)),xP hk]
      have h8:=Jf hk
      have h9:m*k+(n - m)*k≤ys.length*k:=by rw [← Nat.add_mul]; exact Nat.mul_le_mul_right _ (by omega)
      have e:(some (⟨b,off,none⟩:Addr)).map (·.add (m*k))=some ⟨b,off+m*k,none⟩:=by simp [Addr.add]
      rw [e]
      have key:D w S (.list k (List.take (n - m) (List.drop m ys))) (.slice (some ⟨b,off+m*k,none⟩) (List.take (n - m) (List.drop m ys)).length (cap - m)):=by
       refine .list (fun j=>vals (m*k+j)) (by omega) (by omega) (fun x hx=>hk x (List.mem_of_mem_drop (List.mem_of_mem_take hx))) (fun j hj=>?_) (fun j u hu=>?_)
       · rw [h0] at hj
         simp only [List.length_take,List.length_drop] at hj
         have:=hS (m*k+j) (by omega)
         rw [← Nat.add_assoc] at this
         exact this
       · rw [h0] at hu
         rw [Pk] at hu
         split at hu
         · rw [Pm] at hu
           exact h _ u hu
         · cases hu
      rwa [hl] at key

theorem oK {T E k:Nat} (hT:sliceB P T E k=true) (a:Option Addr) (len cap m n:Nat) (lo hi:Option Value) (w:World) (h0:m≤n) (hn:n≤len) (hc:len≤cap)
    (h4:(lo=none/\m=0)\/∃ kd,lo=some (.int kd m)) (h5:(hi=none/\n=len)\/∃ kd,hi=some (.int kd n)) :
    (Instr.sliceAt T (.slice a len cap) lo hi none).run P w=.ok (.slice (if cap=m then a else a.map (·.add (m*k))) (n - m) (cap - m)) w:=by
  obtain⟨h1,h2⟩:=sliceB.out hT
  have h3:=Qn h2 w
  have hb:∀ (kd:IntKind) (i:Nat) (y:Nat) (c:BoundsCode),i≤y→(Instr.sliceBound (.int kd (i:Int)) y c).run P w=.ok i w:=fun kd i y c hi=>by
    have:(0:Int)≤i/\(i:Int)≤y:=⟨by omega,by omega⟩
    simp [Instr.sliceBound,asIntOf,this]
  have hs:(Instr.sliceBounds true len cap lo hi none).run P w=.ok (m,n,cap) w:=by
    rcases h4 with ⟨rfl,rfl⟩ | ⟨kd,rfl⟩ <;> rcases h5 with ⟨rfl,rfl⟩ | ⟨kd',rfl⟩
    · simp [Instr.sliceBounds]
    · simp [Instr.sliceBounds,hb _ n cap _ (by omega)]
    · simp [Instr.sliceBounds,hb _ m n _ h0]
    · simp [Instr.sliceBounds,hb _ m n _ h0,hb _ n cap _ (by omega)]
  simp [Instr.sliceAt,Instr.slice,run_underlying h1,hs,h3]

theorem Hd4 {x:Operand} {T E k m n:Nat} {lo hi:Option Operand} {xs:List AV} (ho:o.op=.slice T x lo hi none) (hT:sliceB P T E k=true) (hx:Jz (ev l x)=some (k,xs))
    (h2:(lo=none/\m=0)\/∃ kd p,lo=some p/\ev l p=.sc (.int kd m)) (h3:(hi=none/\n=xs.length)\/∃ kd p,hi=some p/\ev l p=.sc (.int kd n)) (h0:m≤n) (hn:n≤xs.length) :
    H2 P o l L (Is (.list k ((xs.drop m).take (n - m))) L):=
  Hm fun a w β h5 hf=>by
    have h1:=(hf.ev x).Jz hx
    obtain⟨ao,cap,he,h4,h6⟩:=h1.len
    rw [he] at h1
    refine⟨_,?_,.data (h1.part h0 hn)⟩
    simp only [execOp,ho,he,Sem.run_bind,Option.map_none]
    rw [oK hT ao xs.length cap m n _ _ w h0 hn h4]
    · rfl
    · rcases h2 with ⟨rfl,rfl⟩ | ⟨kd,p,rfl,hp⟩
      · exact .inl ⟨rfl,rfl⟩
      · refine .inr ⟨kd,?_⟩
        have:=hf.ev p; rw [hp] at this
        simp [this.inv_sc]
    · rcases h3 with ⟨rfl,rfl⟩ | ⟨kd,p,rfl,hp⟩
      · exact .inl ⟨rfl,rfl⟩
      · refine .inr ⟨kd,?_⟩
        have:=hf.ev p; rw [hp] at this
        simp [this.inv_sc]
theorem J12 {x p:Operand} {T E k n:Nat} {kd:IntKind} {ni:Int} {xs:List AV} (ho:o.op=.slice T x none (some p) none) (hx:Jz (ev l x)=some (k,xs)) (hp:ev l p=.sc (.int kd ni)) (hT:sliceB P T E k=true) (hn:ni=(n:Int)) (h0:n≤xs.length) :
    H2 P o l L (Is (.list k (xs.take n)) L):=by
  subst hn
  have h:=Hd4 (L:=L) (m:=0) ho hT hx (.inl ⟨rfl,rfl⟩) (.inr ⟨kd,p,rfl,hp⟩) (Nat.zero_le _) h0
  simpa using h
end

/-! ### A local variable that is not written any more -/
inductive Frz (i:Nat) (cs:List AV) (ok:Nat→Bool):AV→AV→Prop
  | conv {u u':AV} (h:Conv ok u u'):Frz i cs ok u u'
  | ptr {off:Nat}:Frz i cs ok (.ptr i off) (.dptr (cs.drop off))
def G3b (i:Nat) (cs:List AV) (ok:Nat→Bool) (l:Fr):Fr→Prop
  | []=>True
  | (t,u)::r=>Frz i cs ok (look l t) u/\G3b i cs ok l r
theorem G3b.get {i:Nat} {cs:List AV} {ok:Nat→Bool} {l:Fr}:∀ {l':Fr},G3b i cs ok l l'→∀ t,Frz i cs ok (look l t) (look l' t)
  | [],_,t=>.conv .junk
  | (t',u)::r,h,t=>by
    by_cases e:t'=t
    · subst e; simpa [look] using h.1
    · have hb:Nat.beq t' t=false:=by
        cases hb:Nat.beq t' t with
        | false=>rfl
        | true=>exact absurd (P2 hb) e
      simpa [look,hb] using h.2.get t

theorem V.freeze {w:World} {β:H4} {L L':Loc} {i off:Nat} {t:TypeId} {cs:List AV} (h0:Sat w β L) (hi:lk L i=some (.box t cs)) (hd:Ys (fun _=>false) cs=true) (h6:sH L L') (h7:lk L' i=none) {v:Value}
    (h:V w β L (.ptr i off) v):V w β L' (.dptr (cs.drop off)) v:=by
  obtain⟨b,hb,rfl⟩:=h.inv_ptr
  obtain⟨vs,h1,h2,h3⟩:=wU h0 hi hb
  have h8:b < w.heap.size:=h0.bnd i b (by rw [hi]; rfl) hb
  refine .data (.dptr (fun j=>(vs[off+j]?).getD undef) (fun j hj=>⟨⟨h8,h0.apart i b _ (by rw [hi]; rfl) hb,fun id o' h5 h9=>?_⟩,?_⟩) (fun j u hu=>?_))
  · obtain⟨o1,a0,_⟩:=h6.like id o' h5
    have:=h0.inj id i b (by rw [a0]; rfl) (by rw [hi]; rfl) h9 hb
    subst this
    rw [h7] at h5; cases h5
  · simp only [List.length_drop] at hj
    have h4:off+j < vs.size:=by omega
    simp [World.cell?,h1,h4]
  · rw [Pm] at hu
    have h4:off+j < vs.size:=by rw [h2]; exact(Pa hu).1
    have hv:=h3 (off+j) u vs[off+j] hu (by simp [h4])
    have hm:u∈cs:=Pd hu
    have hD:=(hv.toD (bO hd u hm)).mono (S':=Ji w β L') fun b' i' hs=>⟨h6.stab hs,rfl⟩
    simpa [h4] using hD

theorem Ry.freeze {N:Cfg} {w0 w:World} {β0 β:H4} {L0 L L':Loc} {a:Act} {l l':Fr} (hs:Ry N w0 β0 L0 a w β l L) (i:Nat) {t:TypeId} {cs:List AV} (hi:lk L i=some (.box t cs)) (hd:Ys (fun _=>false) cs=true)
    (h2:lk L' i=none) (hl:bQ (fun j=>(lk L' j).isSome) L L') (hb:allIn L' N.base=true) (hf:G3b i cs (fun j=>(lk L' j).isSome) l l'):Ry N w0 β0 L0 a w β l' L':=by
  have h0:Fits N.base l L [] L':=⟨trivial,hl,hb⟩
  have h1:=hs.fits h0
  refine⟨h1.sat,h1.step,⟨fun t'=>?_⟩,h1.size,h1.base,h1.defers⟩
  have hv:=hs.frame.tmp t'
  generalize hu:look l t'=u at hv
  have hz:=hf.get t'
  rw [hu] at hz
  generalize look l' t'=u' at hz
  cases hz with
  | conv hc=>exact hv.conv h0.drop hc
  | ptr=>exact hv.freeze hs.sat hi hd h0.drop h2
theorem Gw {P:Program} {N:Cfg} {c:Code} {Q:Post} {l:Fr} {L:Loc} (l':Fr) (L':Loc) (i:Nat) {t:TypeId} {cs:List AV} (hi:lk L i=some (.box t cs)) (hd:Ys (fun _=>false) cs=true)
    (h0:lk L' i=none) (hl:bQ (fun j=>(lk L' j).isSome) L L') (hb:allIn L' N.base=true) (hf:G3b i cs (fun j=>(lk L' j).isSome) l l') (hk:JC P N c Q l' L'):JC P N c Q l L:=
  fun n w0 β0 L0 a w β hs=>hk n w0 β0 L0 a w β (hs.freeze i hi hd h0 hl hb hf)
theorem fzQ {P:Program} {N:Cfg} {c:Code} {Q:Post} {l:Fr} {L:Loc} (l':Fr) (L':Loc) (i:Nat) {t:TypeId} {cs:List AV} (hi:lk L i=some (.box t cs)) (hd:Ys (fun _=>false) cs=true)
    (h0:lk L' i=none) (hl:bQ (fun j=>(lk L' j).isSome) L L') (hb:allIn L' N.base=true) (hk:JC P N c Q l' L') (hf:G3b i cs (fun j=>(lk L' j).isSome) l l':=by repeat' (first | exact .ptr | constructor)):JC P N c Q l L:=Gw l' L' i hi hd h0 hl hb hf hk
end Go.Proofs.YthkihfoleenlmaaGreat
