/-
 Calls whose result is known,closures,the small builtins,slicing,and local variables that become fixed. When two structs or arrays of plain cells are equal,and their use as keys of maps: whatever numbers they hold. Points where ways meet again; conditions that are known. Maps that count. Local structs that hold slices that are still appended to; results that lie in a variable. Combinators of the models that the extractor prints,and what a walk reads off them; operations on lists of typed elements. From the reading of an argument as data to the walks' abstract values: what a given statement says of its arguments,in the walks' words; and back: what a walk without lent objects leaves of the world. The ends of calls: results in slots and in cells,whatever their number. Calls that work on some of the caller's local objects,and may leave new ones: what such a call says within the caller's whole local memory.
-/
import Derived.Test.YthcpolfodgjekaaGreatMapOps
import Derived.ChangeArms
import Derived.ChangeOld
import Derived.Below
import Derived.JoinedOf
import Derived.JoinedAt
namespace Go.Proofs.YthcpolfodgjekaaGreat
open Go.RowKit
set_option linter.unusedVariables false
set_option linter.unusedSimpArgs false

section
variable {P:Program} {o:Oper} {l:Fr} {L:Loc} {u:AV}

theorem H5.is {R:AV→Loc→Prop} (h:H5 P o l L R) {L':Loc} (hR:∀ r M,R r M→r=u∧M=L'):H5 P o l L (Is u L'):=
  fun a w β K Q hs hf hK=>h a w β K Q hs hf fun r M v w' β' hr=>hK r M v w' β' (hR r M hr)

theorem Gi {f:FuncId} {xs:List Operand} {args:List AV} {ts:Array TypeId} (ho:o.op=.call { callee:=.value (.func f),args:=xs.toArray,argTypes:=ts }) (hc:Pure P f args (·=u)) (hB:Hf P f=true) (ha:Gd0 l xs args):H5 P o l L (Is u L):=
  (Y9b hc hB ha ho).is fun r M h=>⟨h.2,h.1⟩

theorem Ga9 {f:FuncId} {x:Operand} {xs:List Operand} {args caps:List AV} {ts:Array TypeId} (ho:o.op=.call { callee:=.value x,args:=xs.toArray,argTypes:=ts }) (hx:ev l x=.fn f caps) (hc:Pure P f (args++caps) (·=u)) (hB:Hf P f=true) (ha:Gd0 l xs args) (hcd:G2c (fun _=>false) caps=true):H5 P o l L (Is u L):=
  (Y71 hc hB ha ho hx hcd).is fun r M h=>⟨h.2,h.1⟩

theorem J26 {f:FuncId} {x:Operand} {xs:List Operand} {args firsts:List AV} {ts:Array TypeId} (ho:o.op=.call { callee:=.value x,args:=xs.toArray,argTypes:=ts }) (hx:ev l x=.bfn f firsts) (hc:Pure P f (firsts++args) (·=u)) (hB:Hf P f=true) (ha:Gd0 l xs args) (hcd:G2c (fun _=>false) firsts=true):H5 P o l L (Is u L):=by
  intro a w β K Q hsat hf hK
  have hv:=hf.ev x
  rw [hx] at hv
  obtain⟨vs,he,hl,hcv⟩:=hv.inv_bfn
  have hr:(execOp a.eval o).run P w=.ok (.enter f (vs++xs.toArray.map a.eval)) w:=by
    simp [execOp,ho,resolve,he,Deferred.ofValue,invoke,Hf.out hB]
  unfold Oper.wp
  rw [hr]
  show Calls P f _ w _
  refine(J16 hc hsat (vs:=vs++xs.toArray.map a.eval) (by simp [ha.length,hl]) (fun j u v hu hv=>?_)).mono fun e w' h=>?_
  · rcases Nat.lt_or_ge j firsts.length with hj | hj
    · rw [List.getElem?_append_left hj] at hu
      rw [Array.getElem?_append_left (by rw [hl]; exact hj)] at hv
      exact(hcv _ u v hu hv).toD (G37 hcd u (Kk hu))
    · rw [List.getElem?_append_right hj] at hu
      rw [Array.getElem?_append_right (by rw [hl]; exact hj),hl] at hv
      simp only [Array.getElem?_map,List.getElem?_toArray,Option.map_eq_some_iff] at hv
      obtain⟨x,hx,rfl⟩:=hv
      obtain⟨h1,h2⟩:=ha.get hx hu
      have:=(hf.ev x).plain
      rw [h1] at this
      exact this.toD h2
  · obtain⟨v,r,rfl,h1,h2,h3,h4⟩:=h
    exact hK r L v w' β ⟨h4,rfl⟩ h1 h2 h3
section small
variable {x y:Operand} {T T':TypeId} {k:IntKind} {m n:Int} {ts:Array TypeId}
theorem Ycb (ho:o.op=.call { callee:=.builtin .min,args:=#[x,y],argTypes:=ts }) (hx:ev l x=.sc (.int k m)) (hy:ev l y=.sc (.int k n)):H5 P o l L (Is (.sc (.int k (min m n))) L):=
  Hx fun a w β hsat hf=>by
    have h1:=hf.ev x
    have h2:=hf.ev y
    rw [hx] at h1; rw [hy] at h2
    refine⟨_,?_,.sc⟩
    have e:(if n < m then n else m)=min m n:=by simp only [Int.min_def]; split <;> split <;> omega
    simp [execOp,ho,resolve,invoke,builtin,Builtin.min_,Builtin.min2,h1.inv_sc,h2.inv_sc,e]
theorem Ycc (ho:o.op=.call { callee:=.builtin .max,args:=#[x,y],argTypes:=ts }) (hx:ev l x=.sc (.int k m)) (hy:ev l y=.sc (.int k n)):H5 P o l L (Is (.sc (.int k (max m n))) L):=
  Hx fun a w β hsat hf=>by
    have h1:=hf.ev x
    have h2:=hf.ev y
    rw [hx] at h1; rw [hy] at h2
    refine⟨_,?_,.sc⟩
    have e:(if n > m then n else m)=max m n:=by simp only [Int.max_def]; split <;> split <;> omega
    simp [execOp,ho,resolve,invoke,builtin,Builtin.max_,Builtin.max2,h1.inv_sc,h2.inv_sc,e]
theorem Yc6 {k':IntKind} {z:Int} {s:Nat} (hn:n=(s:Int)) (hz:m.fdiv (2 ^ (min s k.bits))=z) (ho:o.op=.binOp .shr T x y T') (hx:ev l x=.sc (.int k m)) (hy:ev l y=.sc (.int k' n)):H5 P o l L (Is (.sc (.int k z)) L):=
  H76 (fun P w=>by
    subst hz; subst hn
    have:¬ ((s:Int) < 0):=by omega
    simp [eqGuard,binOp,Op.shift,this]) hx hy ho
theorem J8d {a b:Bool} (hT:Jd9 P T=true) (ho:o.op=.binOp .eql T x y T') (hx:ev l x=.sc (.bool a)) (hy:ev l y=.sc (.bool b)):H5 P o l L (Is (.sc (.bool (a==b))) L):=
  Hx fun ac w β hsat hf=>by
    have h1:=hf.ev x
    have h2:=hf.ev y
    rw [hx] at h1; rw [hy] at h2
    refine⟨_,?_,.sc⟩
    simp [execOp,ho,eqGuard,binOp,h1.inv_sc,h2.inv_sc,run_equal_bool w T a b (Jd9.out hT)]
theorem G3d {f:FuncId} {xs:List Operand} {cs:List AV} (ho:o.op=.makeFunc (.func f) #[] xs.toArray) (hx:xs.map (ev l)=cs):H5 P o l L (Is (.fn f cs) L):=
  Hx fun ac w β hsat hf=>by
    refine⟨.func (.func f) #[] (xs.map ac.eval).toArray,by simp [execOp,ho,Instr.makeFunc],?_⟩
    subst hx
    refine .fn (vs:=(xs.map ac.eval).toArray) (by simp) fun j u v hu hv=>?_
    simp only [List.getElem?_map,Option.map_eq_some_iff,List.getElem?_toArray] at hu hv
    obtain⟨p,hp,rfl⟩:=hu
    obtain⟨q,hq,rfl⟩:=hv
    rw [hp] at hq; cases hq
    exact hf.ev p
theorem H94 {f:FuncId} {xs:List Operand} {cs:List AV} (ho:o.op=.makeFunc (.func f) xs.toArray #[]) (hx:xs.map (ev l)=cs):H5 P o l L (Is (.bfn f cs) L):=
  Hx fun ac w β hsat hf=>by
    refine⟨.func (.func f) (xs.map ac.eval).toArray #[],by simp [execOp,ho,Instr.makeFunc],?_⟩
    subst hx
    refine .bfn (vs:=(xs.map ac.eval).toArray) (by simp) fun j u v hu hv=>?_
    simp only [List.getElem?_map,Option.map_eq_some_iff,List.getElem?_toArray] at hu hv
    obtain⟨p,hp,rfl⟩:=hu
    obtain⟨q,hq,rfl⟩:=hv
    rw [hp] at hq; cases hq
    exact hf.ev p
end small

/-! ### Parts of slices -/
theorem J1e {k:Nat}:∀ {xs:List AV},(∀ x∈xs,x.cells.length=k)→∀ m,flat (xs.drop m)=(flat xs).drop (m*k)
  | [],_,m=>by simp [flat]
  | x::r,h,0=>by simp
  | x::r,h,m+1=>by
    have h1:=h x (by simp)
    rw [List.drop_succ_cons,J1e (fun y hy=>h y (by simp [hy])) m]
    simp only [flat]
    rw [List.drop_append,h1]
    have e:(m+1)*k=k+m*k:=by rw [Nat.succ_mul]; omega
    rw [e]
    have e1:List.drop (k+m*k) x.cells=[]:=by simp [h1]
    rw [e1]; simp
theorem G85 {k:Nat}:∀ {xs:List AV},(∀ x∈xs,x.cells.length=k)→∀ m,flat (xs.take m)=(flat xs).take (m*k)
  | [],_,m=>by simp [flat]
  | x::r,h,0=>by simp [flat]
  | x::r,h,m+1=>by
    have h1:=h x (by simp)
    rw [List.take_succ_cons]
    simp only [flat]
    rw [G85 (fun y hy=>h y (by simp [hy])) m,List.take_append,h1]
    have e:(m+1)*k=k+m*k:=by rw [Nat.succ_mul]; omega
    rw [e]
    have e1:List.take (k+m*k) x.cells=x.cells:=by rw [List.take_of_length_le]; omega
    rw [e1]; simp

theorem D.part {w:World} {S:Nat→Nat→Prop} {k m n:Nat} {xs:List AV} {a:Option Addr} {len cap:Nat} (h:D w S (.list k xs) (.slice a len cap)) (hmn:m≤n) (hn:n≤xs.length) :
    D w S (.list k ((xs.drop m).take (n - m))) (.slice (if cap=m then a else a.map (·.add (m*k))) (n - m) (cap - m)):=by
  have hlen:=h.len
  obtain⟨ao,c,he,hc1,hc2⟩:=hlen
  injection he with e1 e2 e3
  subst e2; subst e3
  rcases Nat.eq_or_lt_of_le hmn with e | hlt
  · subst e
    simp only [Nat.sub_self,List.take_zero]
    exact .nil (by omega)
  · have hne:¬ cap=m:=by omega
    rw [if_neg hne]
    generalize hx:xs=ys at *
    cases h with
    | nil _=>simp at hn; omega
    | @list _ b off _ _ vals hcap hm hk hS h=>
      have hl:(List.take (n - m) (List.drop m ys)).length=n - m:=by simp; omega
      have hfl:flat (List.take (n - m) (List.drop m ys))=((flat ys).drop (m*k)).take ((n - m)*k):=by
        rw [G85 (fun y hy=>hk y (List.mem_of_mem_drop hy)),J1e hk]
      have hfn:=Jm hk
      have hle:m*k+(n - m)*k≤ys.length*k:=by rw [← Nat.add_mul]; exact Nat.mul_le_mul_right _ (by omega)
      have e:(some (⟨b,off,none⟩:Addr)).map (·.add (m*k))=some ⟨b,off+m*k,none⟩:=by simp [Addr.add]
      rw [e]
      have key:D w S (.list k (List.take (n - m) (List.drop m ys))) (.slice (some ⟨b,off+m*k,none⟩) (List.take (n - m) (List.drop m ys)).length (cap - m)):=by
       refine .list (fun j=>vals (m*k+j)) (by omega) (by omega) (fun x hx=>hk x (List.mem_of_mem_drop (List.mem_of_mem_take hx))) (fun j hj=>?_) (fun j u hu=>?_)
       · rw [hfl] at hj
         simp only [List.length_take,List.length_drop] at hj
         have:=hS (m*k+j) (by omega)
         rw [← Nat.add_assoc] at this
         exact this
       · rw [hfl] at hu
         rw [List.getElem?_take] at hu
         split at hu
         · rw [List.getElem?_drop] at hu
           exact h _ u hu
         · cases hu
      rwa [hl] at key

theorem J13 {T E k:Nat} (hT:sliceB P T E k=true) (a:Option Addr) (len cap m n:Nat) (lo hi:Option Value) (w:World) (hmn:m≤n) (hn:n≤len) (hc:len≤cap)
    (hlo:(lo=none∧m=0)∨∃ kd,lo=some (.int kd m)) (hhi:(hi=none∧n=len)∨∃ kd,hi=some (.int kd n)) :
    (Instr.sliceAt T (.slice a len cap) lo hi none).run P w=.ok (.slice (if cap=m then a else a.map (·.add (m*k))) (n - m) (cap - m)) w:=by
  obtain⟨h1,h2⟩:=sliceB.out hT
  have h3:=Qw h2 w
  have hb:∀ (kd:IntKind) (i:Nat) (y:Nat) (c:BoundsCode),i≤y→(Instr.sliceBound (.int kd (i:Int)) y c).run P w=.ok i w:=fun kd i y c hi=>by
    have:(0:Int)≤i∧(i:Int)≤y:=⟨by omega,by omega⟩
    simp [Instr.sliceBound,asIntOf,this]
  have hs:(Instr.sliceBounds true len cap lo hi none).run P w=.ok (m,n,cap) w:=by
    rcases hlo with ⟨rfl,rfl⟩ | ⟨kd,rfl⟩ <;> rcases hhi with ⟨rfl,rfl⟩ | ⟨kd',rfl⟩
    · simp [Instr.sliceBounds]
    · simp [Instr.sliceBounds,hb _ n cap _ (by omega)]
    · simp [Instr.sliceBounds,hb _ m n _ hmn]
    · simp [Instr.sliceBounds,hb _ m n _ hmn,hb _ n cap _ (by omega)]
  simp [Instr.sliceAt,Instr.slice,run_underlying h1,hs,h3]

theorem Rd2 {x:Operand} {T E k m n:Nat} {lo hi:Option Operand} {xs:List AV} (ho:o.op=.slice T x lo hi none) (hT:sliceB P T E k=true) (hx:Qj (ev l x)=some (k,xs))
    (hlo:(lo=none∧m=0)∨∃ kd p,lo=some p∧ev l p=.sc (.int kd m)) (hhi:(hi=none∧n=xs.length)∨∃ kd p,hi=some p∧ev l p=.sc (.int kd n)) (hmn:m≤n) (hn:n≤xs.length) :
    H5 P o l L (Is (.list k ((xs.drop m).take (n - m))) L):=
  Hx fun a w β hsat hf=>by
    have h1:=(hf.ev x).Qj hx
    obtain⟨ao,cap,he,hc1,hc2⟩:=h1.len
    rw [he] at h1
    refine⟨_,?_,.data (h1.part hmn hn)⟩
    simp only [execOp,ho,he,Sem.run_bind,Option.map_none]
    rw [J13 hT ao xs.length cap m n _ _ w hmn hn hc1]
    · rfl
    · rcases hlo with ⟨rfl,rfl⟩ | ⟨kd,p,rfl,hp⟩
      · exact .inl ⟨rfl,rfl⟩
      · refine .inr ⟨kd,?_⟩
        have:=hf.ev p; rw [hp] at this
        simp [this.inv_sc]
    · rcases hhi with ⟨rfl,rfl⟩ | ⟨kd,p,rfl,hp⟩
      · exact .inl ⟨rfl,rfl⟩
      · refine .inr ⟨kd,?_⟩
        have:=hf.ev p; rw [hp] at this
        simp [this.inv_sc]
theorem Y07 {x p:Operand} {T E k n:Nat} {kd:IntKind} {ni:Int} {xs:List AV} (ho:o.op=.slice T x none (some p) none) (hx:Qj (ev l x)=some (k,xs)) (hp:ev l p=.sc (.int kd ni)) (hT:sliceB P T E k=true) (hn:ni=(n:Int)) (hmn:n≤xs.length) :
    H5 P o l L (Is (.list k (xs.take n)) L):=by
  subst hn
  have h:=Rd2 (L:=L) (m:=0) ho hT hx (.inl ⟨rfl,rfl⟩) (.inr ⟨kd,p,rfl,hp⟩) (Nat.zero_le _) hmn
  simpa using h
end

/-! ### A local variable that is not written any more -/
inductive Frz (i:Nat) (cs:List AV) (ok:Nat→Bool):AV→AV→Prop
  | conv {u u':AV} (h:Conv ok u u'):Frz i cs ok u u'
  | ptr {off:Nat}:Frz i cs ok (.ptr i off) (.dptr (cs.drop off))
def R9e (i:Nat) (cs:List AV) (ok:Nat→Bool) (l:Fr):Fr→Prop
  | []=>True
  | (t,u)::r=>Frz i cs ok (look l t) u∧R9e i cs ok l r
theorem R9e.get {i:Nat} {cs:List AV} {ok:Nat→Bool} {l:Fr}:∀ {l':Fr},R9e i cs ok l l'→∀ t,Frz i cs ok (look l t) (look l' t)
  | [],_,t=>.conv .junk
  | (t',u)::r,h,t=>by
    by_cases e:t'=t
    · subst e; simpa [look] using h.1
    · have hb:Nat.beq t' t=false:=by
        cases hb:Nat.beq t' t with
        | false=>rfl
        | true=>exact absurd (Nat.eq_of_beq_eq_true hb) e
      simpa [look,hb] using h.2.get t

theorem V.freeze {w:World} {β:Hd} {L L':Loc} {i off:Nat} {t:TypeId} {cs:List AV} (hsat:Sat w β L) (hi:lk L i=some (.box t cs)) (hd:G2c (fun _=>false) cs=true) (hdr:J5c L L') (hi':lk L' i=none) {v:Value}
    (h:V w β L (.ptr i off) v):V w β L' (.dptr (cs.drop off)) v:=by
  obtain⟨b,hb,rfl⟩:=h.inv_ptr
  obtain⟨vs,h1,h2,h3⟩:=J01 hsat hi hb
  have hlt:b < w.heap.size:=hsat.bnd i b (by rw [hi]; rfl) hb
  refine .data (.dptr (fun j=>(vs[off+j]?).getD undef) (fun j hj=>⟨⟨hlt,hsat.apart i b _ (by rw [hi]; rfl) hb,fun id o' ho' hb'=>?_⟩,?_⟩) (fun j u hu=>?_))
  · obtain⟨o1,ho1,_⟩:=hdr.like id o' ho'
    have:=hsat.inj id i b (by rw [ho1]; rfl) (by rw [hi]; rfl) hb' hb
    subst this
    rw [hi'] at ho'; cases ho'
  · simp only [List.length_drop] at hj
    have hj':off+j < vs.size:=by omega
    simp [World.cell?,h1,hj']
  · rw [List.getElem?_drop] at hu
    have hj':off+j < vs.size:=by rw [h2]; exact(Kh hu).1
    have hv:=h3 (off+j) u vs[off+j] hu (by simp [hj'])
    have hm:u∈cs:=Kk hu
    have hD:=(hv.toD (G37 hd u hm)).mono (S':=Qd w β L') fun b' i' hs=>⟨hdr.stab hs,rfl⟩
    simpa [hj'] using hD

theorem Ys.freeze {N:Cfg} {w0 w:World} {β0 β:Hd} {L0 L L':Loc} {a:Act} {l l':Fr} (hs:Ys N w0 β0 L0 a w β l L) (i:Nat) {t:TypeId} {cs:List AV} (hi:lk L i=some (.box t cs)) (hd:G2c (fun _=>false) cs=true)
    (hi':lk L' i=none) (hl:H00 (fun j=>(lk L' j).isSome) L L') (hb:allIn L' N.base=true) (hf:R9e i cs (fun j=>(lk L' j).isSome) l l'):Ys N w0 β0 L0 a w β l' L':=by
  have hfit:Fits N.base l L [] L':=⟨trivial,hl,hb⟩
  have h1:=hs.fits hfit
  refine⟨h1.sat,h1.step,⟨fun t'=>?_⟩,h1.size,h1.base,h1.defers⟩
  have hv:=hs.frame.tmp t'
  generalize hu:look l t'=u at hv
  have hz:=hf.get t'
  rw [hu] at hz
  generalize look l' t'=u' at hz
  cases hz with
  | conv hc=>exact hv.conv hfit.drop hc
  | ptr=>exact hv.freeze hs.sat hi hd hfit.drop hi'
theorem Gr {P:Program} {N:Cfg} {c:Code} {Q:Post} {l:Fr} {L:Loc} (l':Fr) (L':Loc) (i:Nat) {t:TypeId} {cs:List AV} (hi:lk L i=some (.box t cs)) (hd:G2c (fun _=>false) cs=true)
    (hi':lk L' i=none) (hl:H00 (fun j=>(lk L' j).isSome) L L') (hb:allIn L' N.base=true) (hf:R9e i cs (fun j=>(lk L' j).isSome) l l') (hk:JC P N c Q l' L'):JC P N c Q l L:=
  fun n w0 β0 L0 a w β hs=>hk n w0 β0 L0 a w β (hs.freeze i hi hd hi' hl hb hf)
set_option linter.unusedVariables false
set_option linter.unusedSimpArgs false

def Q35 (P:Program) (T:TypeId) (x y:Value):Option Bool:=
  match P.underlying T,x,y with
  | some .bool,.bool a,.bool b=>some (a==b)
  | some (.int _),.int k a,.int k' b=>if k=k' then some (a==b) else none
  | some .string,.string a,.string b=>some (a==b)
  | _,_,_=>none

def both:Option Bool→Option Bool→Option Bool
  | some a,some b=>some (a&&b)
  | _,_=>none

def seg (P:Program) (T:TypeId) (xs:List Value) (off:Nat):Option (List Value):=
  let r:=(xs.drop off).take (P.cellsOf T)
  if r.length=P.cellsOf T then some r else none

def Ha1 (P:Program):Nat→TypeId→List Value→List Value→Option Bool
  | 0,_,_,_=>none
  | m+1,T,xs,ys=>
    match P.underlying T with
    | some (.array n e)=>if (P.info? e).isSome then (List.range n).foldr (fun i r=>both (match seg P e xs (i*P.cellsOf e),seg P e ys (i*P.cellsOf e) with
        | some a,some b=>Ha1 P m e a b
        | _,_=>none) r) (some true) else none
    | some (.struct fs) => if P.stoodInHeld T then none else fs.toList.foldr (fun f r => if f.name = "_" then none else both (match seg P f.type xs f.offset, seg P f.type ys f.offset with
        | some a,some b=>Ha1 P m f.type a b
        | _,_=>none) r) (some true)
    | _=>match xs,ys with
      | [x],[y]=>Q35 P T x y
      | _,_=>none

section
variable {P:Program} (w:World)

def G3f (P:Program) (T:TypeId):Bool:=match P.underlying T with | some (.struct _) | some (.array _ _)=>true | _=>false
def Reads (P:Program) (T:TypeId) (x:Value) (xs:List Value):Prop:=if G3f P T then x=.agg xs.toArray else xs=[x]

theorem Qb0 {a b:Option Bool} {r:Bool} (h:both a b=some r):∃ p q,a=some p∧b=some q∧r=(p&&q):=by
  unfold both at h
  split at h
  · cases h; exact⟨_,_,rfl,rfl,rfl⟩
  · cases h

theorem Hbf {T off:Nat} {xs:Array Value} {s:List Value} (hi:(P.info? T).isSome=true) (hu:∃ d,P.underlying T=some d) (h:seg P T xs.toList off=some s) (h1:G3f P T=false→∃ x,s=[x]) :
    ∃ a,(part T xs off).run P w=.ok a w∧Reads P T a s:=by
  obtain⟨i,hi⟩:=Option.isSome_iff_exists.1 hi
  obtain⟨d,hu⟩:=hu
  unfold seg at h
  simp only at h
  split at h
  · rename_i hl
    cases h
    have hc:P.cellsOf T=i.size:=by simp [Program.cellsOf,hi]
    by_cases ha:G3f P T=true
    · refine⟨.agg (xs.extract off (off+i.size)),?_,?_⟩
      · have hg:(isAgg T).run P w=.ok true w:=by
          unfold G3f at ha
          split at ha
          · rename_i fs e; simp [isAgg,run_underlying e]
          · rename_i n e' e; simp [isAgg,run_underlying e]
          · cases ha
        simp [part,hg,run_sizeOf w hi,hc]
      · unfold Reads
        rw [if_pos ha,hc]
        congr 1
        apply Array.ext'
        simp [List.take_drop,Nat.add_comm]
    · have ha':G3f P T=false:=by simpa using ha
      obtain⟨x,hx⟩:=h1 ha'
      refine⟨x,?_,?_⟩
      · have hg:(isAgg T).run P w=.ok false w:=by
          unfold G3f at ha'
          cases d <;> simp [hu] at ha' <;> simp [isAgg,run_underlying hu]
        have h0:xs[off]? = some x:=by
          have:((xs.toList.drop off).take (P.cellsOf T))[0]? = some x:=by rw [hx]; rfl
          rw [List.getElem?_take] at this
          split at this
          · simpa [List.getElem?_drop] using this
          · cases this
        simp [part,hg,h0]
      · unfold Reads
        rw [if_neg ha]
        exact hx
  · cases h

theorem Qac {m T:Nat} {xs ys:List Value} {r:Bool} (ha:G3f P T=false) (h:Ha1 P (m+1) T xs ys=some r):∃ x y,xs=[x]∧ys=[y]∧Q35 P T x y=some r:=by
  unfold Ha1 at h
  split at h
  · rename_i e; simp [G3f,e] at ha
  · rename_i e; simp [G3f,e] at ha
  · split at h
    · exact⟨_,_,rfl,rfl,h⟩
    · cases h

theorem H64 {T:TypeId} {d:TypeDesc} (h:P.underlying T=some d):(P.info? T).isSome=true:=by
  obtain⟨i,hi⟩:=info_of_underlying h
  simp [hi]

theorem R33 {m T:Nat} {xs ys:List Value} {r:Bool} (h:Ha1 P m T xs ys=some r):∃ d,P.underlying T=some d:=by
  cases m with
  | zero=>cases h
  | succ m=>
    unfold Ha1 at h
    cases hu:P.underlying T with
    | some d=>exact⟨d,rfl⟩
    | none=>
      rw [hu] at h
      simp only at h
      split at h
      · unfold Q35 at h; rw [hu] at h; cases h
      · cases h

theorem J6d (d:Nat):∀ (m:Nat) (T:TypeId) (x y:Value) (xs ys:List Value) (r:Bool) (w:World),Ha1 P m T xs ys=some r→Reads P T x xs→Reads P T y ys→(Op.equalIn (d+m) T x y).run P w=.ok r w
  | 0,_,_,_,_,_,_,_,h,_,_=>by cases h
  | m+1,T,x,y,xs,ys,r,w,h,hx,hy=>by
    have step:∀ (T' off:Nat) (X Y:Array Value) (p:Bool) (w:World),(match seg P T' X.toList off,seg P T' Y.toList off with
        | some a,some b=>Ha1 P m T' a b
        | _,_=>none)=some p→∃ a b,(part T' X off).run P w=.ok a w∧(part T' Y off).run P w=.ok b w∧(Op.equalIn (d+m) T' a b).run P w=.ok p w:=by
      intro T' off X Y p w hp
      split at hp
      · rename_i a b h1 h2
        have hu:=R33 hp
        obtain⟨dd,hdd⟩:=hu
        have hi:=H64 hdd
        have hone:G3f P T'=false→∃ x y,a=[x]∧b=[y]∧Q35 P T' x y=some p:=fun ha=>by
          cases m with
          | zero=>cases hp
          | succ m'=>exact Qac ha hp
        obtain⟨u,hu1,hu2⟩:=Hbf w hi ⟨dd,hdd⟩ h1 (fun ha=>by obtain⟨x,y,e,_,_⟩:=hone ha; exact⟨x,e⟩)
        obtain⟨v,hv1,hv2⟩:=Hbf w hi ⟨dd,hdd⟩ h2 (fun ha=>by obtain⟨x,y,_,e,_⟩:=hone ha; exact⟨y,e⟩)
        exact⟨u,v,hu1,hv1,J6d d m T' u v a b p w hp hu2 hv2⟩
      · cases hp
    have hh:=h
    unfold Ha1 at h
    split at h
    · rename_i n e hu
      have ha:G3f P T=true:=by simp [G3f,hu]
      unfold Reads at hx hy
      rw [if_pos ha] at hx hy
      subst hx; subst hy
      split at h
      · rename_i hi
        obtain⟨i,hi⟩:=Option.isSome_iff_exists.1 hi
        rw [show d+(m+1)=(d+m)+1 from rfl,run_equalIn_array w (d+m) xs.toArray ys.toArray hu hi]
        generalize List.range n=is at h
        clear hh
        induction is generalizing r with
        | nil=>simp at h; subst h; simp [Op.eqItems]
        | cons j is ih=>
          rw [List.foldr_cons] at h
          obtain⟨p,q,hp,hq,rfl⟩:=Qb0 h
          obtain⟨a,b,p1,p2,p3⟩:=step e (j*P.cellsOf e) xs.toArray ys.toArray p w hp
          simp only [Op.eqItems,Sem.run_bind,p1,p2,p3,Result.andThen_ok]
          cases p
          · simp
          · simpa using ih q hq
      · cases h
    · rename_i fs hu
      have ha:G3f P T=true:=by simp [G3f,hu]
      unfold Reads at hx hy
      rw [if_pos ha] at hx hy
      subst hx; subst hy
      split at h
      · cases h
      · rename_i hst
        have hfs:P.fieldsOf T=fs:=by simp [Program.fieldsOf,hu]
        rw [show d+(m+1)=(d+m)+1 from rfl,run_equalIn_struct w (d+m) T xs.toArray ys.toArray (by rw [hfs]; exact hu) (by simpa using hst),hfs]
        generalize fs.toList=fl at h
        clear hh
        induction fl generalizing r with
        | nil=>simp at h; subst h; simp [Op.eqFields]
        | cons f fl ih=>
          rw [List.foldr_cons] at h
          split at h
          · cases h
          · rename_i hn
            obtain⟨p,q,hp,hq,rfl⟩:=Qb0 h
            obtain⟨a,b,p1,p2,p3⟩:=step f.type f.offset xs.toArray ys.toArray p w hp
            unfold Op.eqFields
            rw [if_pos hn]
            simp only [Sem.run_bind,p1,p2,p3,Result.andThen_ok]
            cases p
            · simp
            · simpa using ih q hq
    · rename_i hne1 hne2
      have ha:G3f P T=false:=by
        unfold G3f
        split
        · rename_i e; exact absurd e (hne2 _)
        · rename_i e; exact absurd e (hne1 _ _)
        · rfl
      obtain⟨x',y',e1,e2,hl⟩:=Qac ha hh
      unfold Reads at hx hy
      rw [ha] at hx hy
      simp only [Bool.false_eq_true,if_false] at hx hy
      rw [e1] at hx; rw [e2] at hy
      cases hx; cases hy
      rw [show d+(m+1)=(d+m)+1 from rfl]
      unfold Q35 at hl
      split at hl
      · rename_i e; cases hl; exact run_equalIn_bool w _ _ _ _ e
      · rename_i e
        split at hl
        · rename_i ek; subst ek; cases hl; exact run_equalIn_int w _ _ _ _ _ _ e
        · cases hl
      · rename_i a b e; cases hl
        rw [run_equalIn_string w _ _ _ _ e,beq_toListBytes]
      · cases hl

def Jd8 (P:Program):Nat→TypeId→List Value→Bool
  | 0,_,_=>false
  | m+1,T,xs=>
    match P.underlying T with
    | some (.array n e)=>(P.info? e).isSome&&(List.range n).all (fun i=>match seg P e xs (i*P.cellsOf e) with
        | some a=>Jd8 P m e a
        | none=>false)
    | some (.struct fs) => fs.toList.all (fun f => f.name != "_" && match seg P f.type xs f.offset with
        | some a=>Jd8 P m f.type a
        | none=>false)
    | some .bool | some (.int _) | some .string=>match xs with
      | [_]=>true
      | _=>false
    | _=>false

theorem Rfe {m T:Nat} {xs:List Value} (h:Jd8 P m T xs=true):∃ d,P.underlying T=some d∧(G3f P T=false→∃ x,xs=[x]):=by
  cases m with
  | zero=>cases h
  | succ m=>
    unfold Jd8 at h
    split at h
    · rename_i e; exact⟨_,e,fun h=>by simp [G3f,e] at h⟩
    · rename_i e; exact⟨_,e,fun h=>by simp [G3f,e] at h⟩
    all_goals first
      | (rename_i e
         split at h
         · exact⟨_,e,fun _=>⟨_,rfl⟩⟩
         · cases h)
      | cases h

theorem Q9b (em:Bool) (d:Nat):∀ (m:Nat) (T:TypeId) (x:Value) (xs:List Value) (w:World),Jd8 P m T xs=true→Reads P T x xs→(Instr.checkKey em (d+m) T x).run P w=.ok () w
  | 0,_,_,_,_,h,_=>by cases h
  | m+1,T,x,xs,w,h,hx=>by
    have step:∀ (T' off:Nat) (X:Array Value) (w:World),(match seg P T' X.toList off with
        | some a=>Jd8 P m T' a
        | none=>false)=true→∃ a,(part T' X off).run P w=.ok a w∧(Instr.checkKey em (d+m) T' a).run P w=.ok () w:=by
      intro T' off X w hp
      split at hp
      · rename_i a h1
        obtain⟨dd,hdd,hone⟩:=Rfe hp
        obtain⟨u,hu1,hu2⟩:=Hbf w (H64 hdd) ⟨dd,hdd⟩ h1 hone
        exact⟨u,hu1,Q9b em d m T' u a w hp hu2⟩
      · cases hp
    unfold Jd8 at h
    split at h
    · rename_i n e hu
      have ha:G3f P T=true:=by simp [G3f,hu]
      unfold Reads at hx
      rw [if_pos ha] at hx
      subst hx
      simp only [Kq] at h
      obtain⟨i,hi⟩:=Option.isSome_iff_exists.1 h.1
      have h2:=h.2
      have hc:i.size=P.cellsOf e:=by simp [Program.cellsOf,hi]
      rw [show d+(m+1)=(d+m)+1 from rfl,Instr.checkKey]
      simp only [Sem.run_bind,run_underlying hu,Result.andThen_ok]
      simp only [Std.Legacy.Range.forIn_eq_forIn_range',Std.Legacy.Range.size,Nat.sub_zero,Nat.add_one_sub_one,Nat.div_one]
      rw [List.range_eq_range'] at h2
      generalize List.range' 0 n=is at h2
      induction is with
      | nil=>simp
      | cons j is ih=>
        simp only [List.all_cons,Kq] at h2
        obtain⟨a,p1,p2⟩:=step e (j*P.cellsOf e) xs.toArray w h2.1
        simp only [List.forIn_cons,Sem.run_bind,run_sizeOf w hi,Result.andThen_ok,p1,p2,Sem.run_pure]
        exact ih h2.2
    · rename_i fs hu
      have ha:G3f P T=true:=by simp [G3f,hu]
      unfold Reads at hx
      rw [if_pos ha] at hx
      subst hx
      rw [show d+(m+1)=(d+m)+1 from rfl,Instr.checkKey]
      simp only [Sem.run_bind,run_underlying hu,Result.andThen_ok]
      rw [← Array.forIn_toList]
      generalize fs.toList=fl at h
      induction fl with
      | nil=>simp
      | cons f fl ih=>
        simp only [List.all_cons,Kq,bne_iff_ne,ne_eq] at h
        obtain⟨a,p1,p2⟩:=step f.type f.offset xs.toArray w h.1.2
        have hn:=h.1.1
        simp only [List.forIn_cons,Sem.run_bind,ne_eq,hn,not_false_eq_true,if_true,p1,p2,Result.andThen_ok,Sem.run_pure]
        exact ih h.2
    all_goals first
      | (rename_i hu
         rw [show d+(m+1)=(d+m)+1 from rfl,Instr.checkKey]
         simp [run_underlying hu]; done)
      | cases h

theorem H83.of_eq {k:TypeId} {κ:Type} [DecidableEq κ] (kv:κ→List Value) (hagg:G3f P k=true) (inj:∀ a b,kv a=kv b→a=b) (m:Nat) (hm:m≤10000) (heq:∀ a b,Ha1 P m k (kv a) (kv b)=some (decide (a=b))) (hchk:∀ a,Jd8 P m k (kv a)=true)
    (hsame:∀ a,Instr.sameBits 10000 (.agg (kv a).toArray) (.agg (kv a).toArray)=true):H83 P k (fun a=>.agg (kv a).toArray) where
  inj:=fun a b h=>inj a b (by simpa using h)
  check:=fun w em a=>by
    have:=Q9b em (10000 - m) m k (.agg (kv a).toArray) (kv a) w (hchk a) (by unfold Reads; rw [if_pos hagg])
    rwa [Nat.sub_add_cancel hm] at this
  find:=fun w a es he=>by
    obtain⟨dd,hdd⟩:=R33 (heq a a)
    have hnow:∀ (es:List MapEntry),es≠[]→Instr.findNow dd (.agg (kv a).toArray) es 0=none:=fun es hne=>by
      cases es with
      | nil=>exact absurd rfl hne
      | cons x r=>
        have:Instr.sameNow dd (.agg (kv a).toArray) x.key=none:=by
          unfold Instr.sameNow; split <;> simp_all
        simp [Instr.findNow,this]
    have key:∀ (es:List MapEntry) (i:Nat),(∀ e∈es,∃ b,e.key=Value.agg (kv b).toArray) →
        ((Instr.findAsking k (.agg (kv a).toArray) es i).run P w=.ok none w∧∀ e∈es,e.key≠.agg (kv a).toArray)∨∃ j e,(Instr.findAsking k (.agg (kv a).toArray) es i).run P w=.ok (some (i+j,e.val)) w∧es[j]? = some e∧e.key=.agg (kv a).toArray:=by
      intro es
      induction es with
      | nil=>intro i _; exact .inl ⟨rfl,by simp⟩
      | cons x r ih=>
        intro i he
        obtain⟨b,hb⟩:=he x (by simp)
        have hq:(Op.equal k (.agg (kv a).toArray) x.key).run P w=.ok (decide (a=b)) w:=by
          rw [hb]
          have:=J6d (10000 - m) m k (.agg (kv a).toArray) (.agg (kv b).toArray) (kv a) (kv b) _ w (heq a b) (by unfold Reads; rw [if_pos hagg]) (by unfold Reads; rw [if_pos hagg])
          rwa [Nat.sub_add_cancel hm] at this
        by_cases e:a=b
        · subst e
          refine .inr ⟨0,x,?_,rfl,hb⟩
          simp [Instr.findAsking,hq]
        · have hs:(Instr.findAsking k (.agg (kv a).toArray) (x::r) i).run P w=(Instr.findAsking k (.agg (kv a).toArray) r (i+1)).run P w:=by
            simp [Instr.findAsking,hq,e]
          rcases ih (i+1) (fun y hy=>he y (by simp [hy])) with ⟨h1,h2⟩ | ⟨j,y,h1,h2,h3⟩
          · refine .inl ⟨by rw [hs]; exact h1,fun y hy=>?_⟩
            rcases Kw.1 hy with rfl | hy
            · rw [hb]; intro e'; exact e (inj b a (by simpa using e')).symm
            · exact h2 y hy
          · exact .inr ⟨j+1,y,by rw [hs,h1]; congr 3; omega,by simpa using h2,h3⟩
    cases hes:es with
    | nil=>exact .inl ⟨by simp [Instr.findKey,run_underlying hdd,Instr.findNow],by simp⟩
    | cons x r=>
      rw [← hes]
      have hn:=hnow es (by simp [hes])
      rcases key es 0 he with ⟨h1,h2⟩ | ⟨j,e,h1,h2,h3⟩
      · exact .inl ⟨by simp [Instr.findKey,run_underlying hdd,hn,h1],h2⟩
      · exact .inr ⟨j,e,by simp [Instr.findKey,run_underlying hdd,hn,h1],h2,h3⟩
  stays:=fun w a=>by simp [Instr.keyThatStays,hsame a]

/-! ### Equality of aggregates as an operation -/
variable {o:Oper} {l:Fr} {L:Loc}
def scs (vs:List Value):List AV:=vs.map .sc
theorem V.inv_scs {β:Hd} {vs:List Value} {x:Value} {w:World} (h:V w β L (.agg (scs vs)) x):x=.agg vs.toArray:=by
  obtain⟨us,rfl,hl,hu⟩:=h.inv_agg
  congr 1
  apply Array.ext
  · simpa [scs] using hl
  · intro i h1 h2
    have h3:i < vs.length:=by simpa using h2
    have:=(hu i (.sc vs[i]) us[i] (by simp [scs,h3]) (by simp [h1])).inv_sc
    simpa using this

theorem Gfd {x y:Operand} {T T':TypeId} {vs us:List Value} {r:Bool} (m:Nat) (hm:Nat.ble m 10000=true) (hq:Ha1 P m T vs us=some r) (hagg:G3f P T=true) (hg:P.eqGuardType P.depth T=false)
    (ho:o.op=.binOp .eql T x y T') (hx:ev l x=.agg (scs vs)) (hy:ev l y=.agg (scs us)):H5 P o l L (Is (.sc (.bool r)) L):=
  Hx fun a w β hsat hf=>by
    have h1:=hf.ev x
    have h2:=hf.ev y
    rw [hx] at h1; rw [hy] at h2
    have e1:=V.inv_scs h1
    have e2:=V.inv_scs h2
    refine⟨_,?_,.sc⟩
    have h3:=J6d (10000 - m) m T (.agg vs.toArray) (.agg us.toArray) vs us r w hq (by unfold Reads; rw [if_pos hagg]) (by unfold Reads; rw [if_pos hagg])
    rw [Nat.sub_add_cancel (Nat.le_of_ble_eq_true hm)] at h3
    simp [execOp,ho,e1,e2,run_eqGuard_agg w .eql T x y _ _ hg,run_eql_struct,h3]
theorem Qdd {x y:Operand} {T T':TypeId} {vs us:List Value} {r:Bool} (m:Nat) (hm:Nat.ble m 10000=true) (hq:Ha1 P m T vs us=some r) (hagg:G3f P T=true) (hg:P.eqGuardType P.depth T=false)
    (ho:o.op=.binOp .neq T x y T') (hx:ev l x=.agg (scs vs)) (hy:ev l y=.agg (scs us)):H5 P o l L (Is (.sc (.bool (!r))) L):=
  Hx fun a w β hsat hf=>by
    have h1:=hf.ev x
    have h2:=hf.ev y
    rw [hx] at h1; rw [hy] at h2
    have e1:=V.inv_scs h1
    have e2:=V.inv_scs h2
    refine⟨_,?_,.sc⟩
    have h3:=J6d (10000 - m) m T (.agg vs.toArray) (.agg us.toArray) vs us r w hq (by unfold Reads; rw [if_pos hagg]) (by unfold Reads; rw [if_pos hagg])
    rw [Nat.sub_add_cancel (Nat.le_of_ble_eq_true hm)] at h3
    have h4:(binOp .neq T (.agg vs.toArray) (.agg us.toArray)).run P w=.ok (.bool (!r)) w:=by
      simp only [binOp,Op.equal,Op.maxDepth,Sem.run_bind,h3,Result.andThen_ok,Sem.run_pure]
    simp [execOp,ho,e1,e2,run_eqGuard_agg w .neq T x y _ _ hg,h4]
end
section
variable {P:Program} {N:Cfg} {Q:Post} {l:Fr} {L:Loc}
theorem Yt {x y:Code} {X:Type} (I:X→Prop) (F:X→Fr) (M:X→Loc)
  (h1:∀ K:Fr→Loc→Prop,(∀ l L v,I v→Fits N.base l L (F v) (M v)→K l L)→JC P N x (Q.seq K) l L)
  (h2:∀ v,I v→JC P N y Q (F v) (M v)):JC P N (.seq x y) Q l L:=
 G5 fun K hK=>h1 K fun l L v hv hf=>hK l L (G29 hf (h2 v hv))
theorem Q66 {c:Operand} {x y:Code} (hc:ev l c=.sc (.bool true)) (ht:JC P N x Q l L):JC P N (.cond c x y) Q l L:=
 Gj hc (fun _=>ht) (fun h=>by cases h)
theorem Q67 {c:Operand} {x y:Code} (hc:ev l c=.sc (.bool false)) (hf:JC P N y Q l L):JC P N (.cond c x y) Q l L:=
 Gj hc (fun h=>by cases h) (fun _=>hf)
def unseen (n:Nat) (seen:List Nat):Nat:=((List.range n).filter fun j=>!seen.contains j).length
theorem J90 {n j:Nat} {seen:List Nat} (hj:j < n) (hs:j ∉ seen):unseen n (seen++[j]) < unseen n seen:=by
 unfold unseen
 have h1:(List.range n).filter (fun i=>!(seen++[j]).contains i)=((List.range n).filter fun i=>!seen.contains i).filter fun i=>i != j:=by
  rw [List.filter_filter]
  congr 1
  funext i
  simp only [List.contains_append,Bool.not_or,List.contains_cons,List.contains_nil,Bool.or_false,bne]
  rw [Bool.and_comm]
 rw [h1]
 have hm:j∈(List.range n).filter fun i=>!seen.contains i:=by simp [hj,hs]
 have:∀ (l:List Nat),j∈l→(l.filter fun i=>i != j).length < l.length:=by
  intro l
  induction l with
  | nil=>intro h; cases h
  | cons a r ih=>
   intro h
   by_cases e:a=j
   ·subst e
    have:=List.length_filter_le (fun i=>i != a) r
    simp
    omega
   ·have hr:j∈r:=by
     rcases Kw.1 h with h | h
     ·exact absurd h.symm e
     ·exact h
    have:=ih hr
    simp [e]
    omega
 exact this _ hm
end
mutual
theorem R20 (ok:Nat→Bool):∀ u:AV,u.refs (fun _=>false)=true→u.refs ok=true
 | .junk,_=>rfl
 | .sc _,_=>rfl
 | .list _ _,_=>rfl
 | .lst ..,_=>rfl
 | .dptr _,_=>rfl
 | .agg cs,h=>R7 ok cs h
 | .tup cs,h=>R7 ok cs h
 | .fn _ cs,h=>R7 ok cs h
 | .bfn _ cs,h=>R7 ok cs h
 | .opt _ x,h=>R20 ok x h
 | .ptr _ _,h=>by cases h
 | .own ..,h=>by cases h
 | .ms ..,h=>by cases h
 | .mp _,h=>by cases h
 | .it _,h=>by cases h
 | .vec ..,h=>by cases h
theorem R7 (ok:Nat→Bool):∀ us:List AV,G2c (fun _=>false) us=true→G2c ok us=true
 | [],_=>rfl
 | u::r,h=>by
  simp only [G2c,Kq] at h ⊢
  exact⟨R20 ok u h.1,R7 ok r h.2⟩
end
set_option linter.unusedVariables false
set_option linter.unusedSimpArgs false
section
variable {κ ν:Type} [DecidableEq κ]

theorem R27 {l:List (κ×ν)} {a:κ}:Ge6 l a=true ↔ a∈l.map (·.1):=by
 simp [Ge6]
theorem H09 (p:κ×ν) (l:List (κ×ν)) (a:κ):G93 (p::l) a=if p.1=a then some p.2 else G93 l a:=by
 unfold G93
 rw [List.find?_cons]
 by_cases h:p.1=a <;> simp [h]
theorem Jd2 (l m:List (κ×ν)) (a:κ):G93 (l++m) a=(G93 l a).or (G93 m a):=by
 induction l with
 | nil=>simp [G93]
 | cons p l ih=>rw [List.cons_append,H09,H09,ih]; split <;> simp
theorem H88 {l:List (κ×ν)} {a:κ}:(G93 l a).isSome=Ge6 l a:=by
 induction l with
 | nil=>rfl
 | cons p l ih=>
  rw [H09]
  simp only [Ge6,List.any_cons]
  by_cases h:p.1=a
  ·simp [h]
  ·simpa [h,Ge6] using ih
theorem J75 {l:List (κ×ν)} {a:κ} (h:Ge6 l a=false):G93 l a=none:=by
 have:=H88 (l:=l) (a:=a)
 rw [h] at this
 simpa using this
theorem Qa5 (l:List (κ×ν)) (a b:κ) (v:ν):G93 (H77 l a v) b=if a=b then some v else G93 l b:=by
 unfold H77
 split
 ·rename_i h
  induction l with
  | nil=>simp [Ge6] at h
  | cons p l ih=>
   rw [List.map_cons,H09,H09]
   by_cases hp:p.1=a
   ·simp only [hp,if_true]
    by_cases hab:a=b
    ·simp [hab]
    ·simp only [hab,if_false]
     by_cases hl:Ge6 l a=true
     ·rw [ih hl,if_neg hab]
     ·have e:l.map (fun p=>if p.1=a then (a,v) else p)=l:=by
       conv=>rhs; rw [← List.map_id l]
       apply List.map_congr_left
       intro q hq
       have:q.1≠a:=fun e=>hl (R27.2 (Ku.2 ⟨q,hq,e⟩))
       simp [this]
      rw [e]
   ·simp only [hp,if_false]
    have hl:Ge6 l a=true:=by simpa [Ge6,hp] using h
    rw [ih hl]
    by_cases hpb:p.1=b
    ·have:¬ a=b:=fun e=>hp (hpb.trans e.symm)
     simp [hpb,this]
    ·simp [hpb]
 ·rename_i h
  rw [Jd2,H09]
  by_cases hab:a=b
  ·subst hab; rw [J75 (by simpa using h)]; simp
  ·have:G93 ([]:List (κ×ν)) b=none:=rfl
   simp [hab,this]
theorem Rf1 (l:List (κ×ν)) (a:κ) (z:ν):(G93 (H20 l a z) a).getD z=(G93 l a).getD z:=by
 unfold H20
 split
 ·rfl
 ·rename_i h
  rw [Jd2,J75 (by simpa using h),H09]; simp

def tally (l:List κ):List (κ×Int):=l.foldl (fun m a=>H77 m a ((G93 m a).getD 0+1)) []
theorem Hbb (l:List κ) (a:κ):tally (l++[a])=H77 (tally l) a ((G93 (tally l) a).getD 0+1):=by
 simp [tally,List.foldl_append]
theorem Qc3 {α:Type} {motive:List α→Prop} (l:List α) (h0:motive []) (h1:∀ l a,motive l→motive (l++[a])):motive l:=by
 have:∀ n (l:List α),l.length=n→motive l:=by
  intro n
  induction n with
  | zero=>intro l hl; rw [List.eq_nil_of_length_eq_zero hl]; exact h0
  | succ n ih=>
   intro l hl
   have hne:l≠[]:=by intro e; rw [e] at hl; simp at hl
   rw [← List.dropLast_concat_getLast hne]
   exact h1 _ _ (ih _ (by simp [hl]))
 exact this _ l rfl
theorem Jc6 (l:List κ):((tally l).map (·.1)).Nodup:=by
 induction l using Qc3 with
 | h0=>simp [tally]
 | h1 l a ih=>rw [Hbb]; exact Q31 ih _ _
theorem J93 (l:List κ) (a:κ):(G93 (tally l) a).getD 0=(l.count a:Int):=by
 induction l using Qc3 with
 | h0=>simp [tally,G93]
 | h1 l b ih=>
  rw [Hbb,Qa5,List.count_append]
  by_cases h:b=a
  ·subst h; rw [if_pos rfl,ih]; simp
  ·rw [if_neg h,ih]; simp [h]
theorem Q91 (l:List κ) (b:κ) (h:b∈l):b∈(tally l).map (·.1):=by
 rw [← R27,← H88]
 have h1:=J93 l b
 have h2:=List.count_pos_iff.2 h
 cases hm:G93 (tally l) b with
 | some _=>rfl
 | none=>rw [hm] at h1; simp at h1; omega
theorem Q90 (l:List κ) {j:Nat} {a:κ} {n:Int} (h:(tally l)[j]? = some (a,n)):n=(l.count a:Int):=by
 have h1:=(J1b (Jc6 l) h).1
 have h2:=J93 l a
 rw [h1] at h2
 simpa using h2
theorem R14 (l:List κ) (a:κ):0≤(G93 (tally l) a).getD 0∧(G93 (tally l) a).getD 0≤(l.length:Int):=by
 rw [J93]
 have:=List.count_le_length (a:=a) (l:=l)
 omega
theorem Qc0 (l:List κ):(∀ (j:Nat) a n,(tally l)[j]? = some (a,n)→n≤1) ↔ l.Nodup:=by
 rw [List.nodup_iff_count]
 constructor
 ·intro h a
  by_cases ha:a∈l
  ·obtain⟨p,hp,rfl⟩:=Ku.1 (Q91 l a ha)
   obtain⟨j,hj⟩:=List.mem_iff_getElem?.1 hp
   have:=h j p.1 p.2 hj
   rw [Q90 l hj] at this
   omega
  ·rw [List.count_eq_zero.2 ha]; omega
 ·intro h j a n hj
  rw [Q90 l hj]
  have:=h a
  omega
end
section
variable {P:Program} {o:Oper} {l:Fr} {L:Loc} {κ ν:Type} [DecidableEq κ] {kv:κ→Value} {av:ν→AV}
def Y5b (P:Program) (T E k:Nat):Bool:=(match P.underlying T with | some (.array _ e)=>e==E | _=>false)&&Zf P E k
theorem J5f {T E k:Nat} {parts:List (Nat×Operand)} {cs:List AV} (zs:List Value) (hT:Y5b P T E k=true) (hz:(P.info? T).bind (fun i=>i.zero.map Value.cells)=some zs.toArray) (ho:o.op=.build T parts.toArray) (hfill:H97 (fun i=>some (i*k,k)) (zs.map .sc) (parts.map fun p=>(p.1,ev l p.2))=some cs):H5 P o l L (Is (.agg cs) L):=
 Hx fun a w β _ hf=>by
  unfold Y5b at hT
  simp only [Kq] at hT
  obtain⟨hT,hE⟩:=hT
  split at hT
  ·rename_i n e hu
   simp at hT; subst hT
   cases h1:P.info? T with
   | none=>rw [h1] at hz; simp at hz
   | some inf=>
    rw [h1] at hz
    cases h2:inf.zero with
    | none=>simp [h2] at hz
    | some z=>
     simp only [Option.bind_some,h2,Option.map_some,Option.some.injEq] at hz
     obtain⟨vs',e1,e2,e3⟩:=H89 (w:=w) (β:=β) (L:=L) (qs:=parts.map fun p=>(p.1,a.eval p.2)) (vs:=zs.toArray) hfill (by simp) (fun j p q hp hq=>by
      simp only [List.getElem?_map,Option.map_eq_some_iff] at hp hq
      obtain⟨x,hx,rfl⟩:=hp
      obtain⟨y,hy,rfl⟩:=hq
      rw [hx] at hy; cases hy
      exact⟨rfl,hf.ev _⟩) (by simp) (fun j u v hu hv=>by
      simp only [List.getElem?_map,Option.map_eq_some_iff] at hu
      obtain⟨x,hx,rfl⟩:=hu
      simp [hx] at hv; subst hv; exact .sc)
     refine⟨.agg vs',?_,.agg e2 e3⟩
     simp [execOp,ho,Instr.build,zeroValue,typeInfo,h1,h2,run_underlying hu,Qw hE w,hz,e1]
  ·cases hT
theorem R4b {m x:Operand} {T K E i:Nat} {lst:List (κ×ν)} {a:κ} (z0:ν) (zv:Value) (ho:o.op=.lookup T m x false) (hm:ev l m=.mp i) (hi:lk L i=some (.map T (mapOf kv av (H20 lst a z0)))) (hn:(lst.map (·.1)).Nodup)
  (hx:ev l x=G2a (kv a)) (hk:H83 P K kv) (hT:Gf0 P T K E=true) (hz:(P.info? E).bind (·.zero)=some zv) (hzv:av z0=G2a zv) :
  H5 P o l L (Is (av ((G93 lst a).getD z0)) L):=by
 have h:=Q6d (L:=L) z0 zv ho hm hi (R8c hn a z0) hx hk hT hz hzv
 rw [Rf1] at h
 exact h
end
set_option linter.unusedVariables false
set_option linter.unusedSimpArgs false

/-! ### The cells of a box, one by one -/
def Hda (ok:Nat→Bool):List AV→List AV→Prop
 | [],[]=>True
 | u::r,u'::r'=>Conv ok u u'∧Hda ok r r'
 | _,_=>False
theorem Hda.length {ok:Nat→Bool}:∀ {cs cs':List AV},Hda ok cs cs'→cs.length=cs'.length
 | [],[],_=>rfl
 | _::_,_::_,h=>by simp [Hda.length h.2]
 | [],_::_,h=>h.elim
 | _::_,[],h=>h.elim
theorem Hda.get {ok:Nat→Bool}:∀ {cs cs':List AV},Hda ok cs cs'→∀ (j:Nat) u u',cs[j]? = some u→cs'[j]? = some u'→Conv ok u u'
 | u::r,u'::r',h,0,x,x',hx,hx'=>by simp at hx hx'; subst hx; subst hx'; exact h.1
 | u::r,u'::r',h,j+1,x,x',hx,hx'=>by simp at hx hx'; exact Hda.get h.2 j x x' hx hx'
 | [],[],_,j,_,_,hx,_=>by simp at hx
 | [],_::_,h,_,_,_,_,_=>h.elim
 | _::_,[],h,_,_,_,_,_=>h.elim
theorem Hda.sm {ok:Nat→Bool}:∀ {us us':List AV},us=us'→us'.all (fun u=>u.refs ok)=true→Hda ok us us'
 | [],_,rfl,_=>trivial
 | u::r,_,rfl,h=>by
  rw [List.all_cons,Kq] at h
  exact⟨.same h.1,Hda.sm rfl h.2⟩
def looks (l:Fr):Fr→List AV
 | []=>[]
 | (t,_)::r=>look l t::looks l r
def vals:Fr→List AV
 | []=>[]
 | (_,u)::r=>u::vals r
theorem Jdd.sm {ok:Nat→Bool} {l:Fr}:∀ {l':Fr},looks l l'=vals l'→(vals l').all (fun u=>u.refs ok)=true→Jdd ok l l'
 | [],_,_=>trivial
 | (t,u)::r,h,h2=>by
  have h':look l t::looks l r=u::vals r:=h
  have h2':(u::vals r).all (fun u=>u.refs ok)=true:=h2
  rw [List.all_cons,Kq] at h2'
  injection h' with e1 e2
  exact⟨.eq e1 h2'.1,Jdd.sm e2 h2'.2⟩
theorem Ge3.boxL {ok:Nat→Bool} {o:Jt} {t:Nat} {cs cs':List AV} (ho:o=.box t cs) (h:Hda ok cs cs'):Ge3 ok o (.box t cs'):=by
 subst ho; exact .box h.length h.get

/-! ### A nil slice in a box that is going to be appended to -/
theorem H58 {w:World} {β:Hd} {L:Loc} {i:Nat} (E k:Nat) (hi:lk L i=none):Step w β L w (upP β i none) ((i,.spare E k 0 0)::L):=by
 have hne:∀ id,(lk L id).isSome=true→i≠id:=fun id h e=>by subst e; rw [hi] at h; cases h
 refine⟨rfl,rfl,⟨rfl,Kn⟩,Kn,fun _ _ _=>Iff.rfl,fun b j hs=>⟨⟨hs.lt,hs.seen,fun id ob hid hb=>?_⟩,rfl⟩,fun b hb hfar=>⟨rfl,fun id hid e=>?_⟩,fun id t cs hid=>?_,fun id t cs hid=>?_,fun id t n cs hid=>?_,fun id t k' ver xs hid=>?_,fun id t k' ver hw hid=>?_⟩
 ·rw [Gs] at hid
  by_cases e:i=id
  ·subst e; simp [upP] at hb
  ·rw [if_neg e] at hid; simp only [upP,if_neg (Ne.symm e)] at hb; exact hs.kept id ob hid hb
 ·rw [Gs] at hid
  by_cases e':i=id
  ·subst e'; simp [upP] at e
  ·rw [if_neg e'] at hid; simp only [upP,if_neg (Ne.symm e')] at e; exact hfar id hid e
 all_goals
  have e:=hne id (by rw [hid]; rfl)
 ·exact⟨by simp [upP,Ne.symm e],cs,by rw [Gs,if_neg e]; exact hid⟩
 ·exact⟨by simp [upP,Ne.symm e],cs,by rw [Gs,if_neg e]; exact hid⟩
 ·exact⟨by simp [upP,Ne.symm e],n,cs,by rw [Gs,if_neg e]; exact hid⟩
 ·exact⟨ver,xs,by rw [Gs,if_neg e]; exact hid,Kn,fun _=>⟨rfl,by simp [upP,Ne.symm e],fun _ _=>rfl⟩⟩
 ·exact⟨ver,hw,by rw [Gs,if_neg e]; exact hid,Kn,fun _=>⟨rfl,by simp [upP,Ne.symm e],fun _ _=>rfl⟩⟩
theorem J95 {w:World} {β:Hd} {L:Loc} {i:Nat} (E k:Nat) (hsat:Sat w β L) (hi:lk L i=none):Sat w (upP β i none) ((i,.spare E k 0 0)::L):=by
 refine⟨hsat.hid,fun id b hid hb=>?_,fun id b j hid hb=>?_,fun id id' b h1 h2 h3 h4=>?_,fun id ob hid=>?_⟩
 ·rw [Gs] at hid
  by_cases e:i=id
  ·subst e; simp [upP] at hb
  ·rw [if_neg e] at hid; simp only [upP,if_neg (Ne.symm e)] at hb; exact hsat.bnd id b hid hb
 ·rw [Gs] at hid
  by_cases e:i=id
  ·subst e; simp [upP] at hb
  ·rw [if_neg e] at hid; simp only [upP,if_neg (Ne.symm e)] at hb; exact hsat.apart id b j hid hb
 ·by_cases e:i=id
  ·subst e; simp [upP] at h3
  ·by_cases e':i=id'
   ·subst e'; simp [upP] at h4
   ·rw [Gs,if_neg e] at h1
    rw [Gs,if_neg e'] at h2
    simp only [upP,if_neg (Ne.symm e)] at h3
    simp only [upP,if_neg (Ne.symm e')] at h4
    exact hsat.inj id id' b h1 h2 h3 h4
 ·rw [Gs] at hid
  by_cases e:i=id
  ·subst e; simp at hid; subst hid; exact .inl ⟨by simp [upP],rfl⟩
  ·rw [if_neg e] at hid
   simp only [upP,if_neg (Ne.symm e)]
   exact(hsat.obj id ob hid).step (H58 E k hi) (fun b hb=>rfl)
theorem Y4f {w:World} {β:Hd} {L:Loc} {i:Nat} (E k:Nat):V w (upP β i none) ((i,.spare E k 0 0)::L) (.own i 0 k []) (.slice none 0 0):=
 .own (.nil (Nat.zero_le _)) ⟨E,0,0,by rw [Gs,if_pos rfl],Kn,fun _=>⟨rfl,by simp [Value.ownBlock,upP],[],⟨by simp,.inl ⟨rfl,rfl⟩⟩,fun j u hu=>by simp [flat] at hu⟩⟩

theorem Ys.redescribeB {N:Cfg} {w0 w:World} {β0 β:Hd} {L0 L:Loc} {a:Act} {l:Fr} (hs:Ys N w0 β0 L0 a w β l L) {i:Nat} {t:TypeId} {cs cs':List AV} (hi:lk L i=some (.box t cs)) (hl:cs.length=cs'.length)
  (h:∀ (vs:Array Value) (j:Nat) u v,(∃ b,β i=some b∧w.heap[b]? = some (.cells vs t (0,0)))→(∀ (j:Nat) u v,cs[j]? = some u→vs[j]? = some v→V w β L u v)→vs.size=cs.length→cs'[j]? = some u→vs[j]? = some v→V w β L u v):Ys N w0 β0 L0 a w β l ((i,.box t cs')::L):=by
 obtain⟨b,hb,vs,hv1,hv2,hv3⟩:=hs.sat.obj i _ hi
 have hsome:∀ id,(lk ((i,Jt.box t cs')::L) id).isSome=(lk L id).isSome:=fun id=>by
  rw [Gs]; split
  ·rename_i e; subst e; rw [hi]; rfl
  ·rfl
 have hstab:∀ b j,Qd w β L b j→Qd w β ((i,.box t cs')::L) b j:=fun b j hst=>⟨hst.lt,hst.seen,fun id o ho hb=>by
  rw [Gs] at ho
  split at ho
  ·rename_i e; subst e; cases ho; exact(hst.kept i _ hi hb).elim
  ·exact hst.kept id o ho hb⟩
 have st:Step w β L w β ((i,.box t cs')::L):=by
  refine⟨rfl,rfl,⟨rfl,Kn⟩,Kn,fun _ _ _=>Iff.rfl,fun b j h=>⟨hstab b j h,rfl⟩,fun b hb hf=>⟨rfl,fun id hid e=>hf id (by rw [← hsome id]; exact hid) e⟩,fun id t2 cs2 hid=>?_,fun id t2 cs2 hid=>?_,fun id m n es hid=>?_,fun id t2 k2 ver xs hid=>?_,fun id t2 k2 ver hw hid=>?_⟩
  ·refine⟨rfl,?_⟩
   rw [Gs]; split
   ·rename_i e; subst e; rw [hi] at hid; cases hid; exact⟨_,rfl⟩
   ·exact⟨_,hid⟩
  ·refine⟨rfl,cs2,?_⟩
   rw [Gs,if_neg (fun e=>by subst e; rw [hi] at hid; cases hid)]; exact hid
  ·refine⟨rfl,n,es,?_⟩
   rw [Gs,if_neg (fun e=>by subst e; rw [hi] at hid; cases hid)]; exact hid
  ·refine⟨ver,xs,?_,Kn,fun _=>⟨rfl,rfl,fun _ _=>rfl⟩⟩
   rw [Gs,if_neg (fun e=>by subst e; rw [hi] at hid; cases hid)]; exact hid
  ·refine⟨ver,hw,?_,Kn,fun _=>⟨rfl,rfl,fun _ _=>rfl⟩⟩
   rw [Gs,if_neg (fun e=>by subst e; rw [hi] at hid; cases hid)]; exact hid
 refine⟨⟨hs.sat.hid,fun id b h1 h2=>hs.sat.bnd id b (by rw [← hsome id]; exact h1) h2,fun id b j h1 h2=>hs.sat.apart id b j (by rw [← hsome id]; exact h1) h2,fun id id' b h1 h2 h3 h4=>hs.sat.inj id id' b (by rw [← hsome id]; exact h1) (by rw [← hsome id']; exact h2) h3 h4,fun id o ho=>?_⟩,hs.step.trans st,hs.frame.step st,hs.size,hs.base,hs.defers.step st⟩
 rw [Gs] at ho
 split at ho
 ·rename_i e; subst e; cases ho
  exact⟨b,hb,vs,hv1,by omega,fun j u v hu hv=>(h vs j u v ⟨b,hb,hv1⟩ hv3 hv2 hu hv).step st⟩
 ·exact(hs.sat.obj id o ho).step st (fun b hb=>rfl)

theorem Ys.redescribe {N:Cfg} {w0 w:World} {β0 β:Hd} {L0 L:Loc} {a:Act} {l:Fr} (hs:Ys N w0 β0 L0 a w β l L) {i:Nat} {t:TypeId} {cs cs':List AV} (hi:lk L i=some (.box t cs)) (hl:cs.length=cs'.length)
  (h:∀ (vs:Array Value) (j:Nat) u v,(∀ (j:Nat) u v,cs[j]? = some u→vs[j]? = some v→V w β L u v)→vs.size=cs.length→cs'[j]? = some u→vs[j]? = some v→V w β L u v):Ys N w0 β0 L0 a w β l ((i,.box t cs')::L):=
 hs.redescribeB hi hl (fun vs j u v _=>h vs j u v)

theorem Ys.ownCell {N:Cfg} {w0 w:World} {β0 β:Hd} {L0 L:Loc} {a:Act} {l:Fr} (hs:Ys N w0 β0 L0 a w β l L) (i j id E k:Nat) {t:TypeId} {cs cs':List AV} (hi:lk L i=some (.box t cs)) (hid:lk L id=none) (hj:cs[j]? = some (.sc (.slice none 0 0)))
  (hcs:cs.set j (.own id 0 k [])=cs'):∃ β',Ys N w0 β0 L0 a w β' l ((i,.box t cs')::(id,.spare E k 0 0)::L):=by
 have st:=H58 (w:=w) (β:=β) E k hid
 have h1:Ys N w0 β0 L0 a w (upP β id none) l ((id,.spare E k 0 0)::L):=⟨J95 E k hs.sat hid,hs.step.trans st,hs.frame.step st,hs.size,hs.base,hs.defers.step st⟩
 have hne:id≠i:=fun e=>by subst e; rw [hi] at hid; cases hid
 refine⟨_,h1.redescribe (i:=i) (t:=t) (cs:=cs) (by rw [Gs,if_neg hne]; exact hi) (by rw [← hcs]; simp) fun vs q u v hall hsz hu hv=>?_⟩
 rw [← hcs] at hu
 by_cases e:j=q
 ·subst e
  have hjl:j < cs.length:=(Kh hj).1
  simp [List.getElem?_set,hjl] at hu
  subst hu
  have:=hall j _ v hj hv
  rw [this.inv_sc]
  exact Y4f E k
 ·rw [List.getElem?_set_ne e] at hu
  exact hall q u v hu hv
theorem Q62 {P:Program} {N:Cfg} {ops:Array Oper} {rest:List Oper} {Q:Post} {l:Fr} {L:Loc} (i j id E k:Nat) {t:TypeId} {cs cs':List AV} (hi:lk L i=some (.box t cs)) (hid:lk L id=none) (hj:cs[j]? = some (.sc (.slice none 0 0)))
  (hcs:cs.set j (.own id 0 k [])=cs') (hk:JL P N ops rest Q l ((i,.box t cs')::(id,.spare E k 0 0)::L)):JL P N ops rest Q l L:=
 fun n w0 β0 L0 a w β hs=>by
  obtain⟨β',h⟩:=hs.ownCell i j id E k hi hid hj hcs
  exact hk n w0 β0 L0 a w β' h

/-! ### Zero values whose slices are seen as empty lists -/
def ZOk:List AV→List Value→Prop
 | [],[]=>True
 | u::r,v::s=>(u=.sc v∨∃ k,u=.list k []∧v=.slice none 0 0)∧ZOk r s
 | _,_=>False
theorem ZOk.length:∀ {us:List AV} {vs:List Value},ZOk us vs→us.length=vs.length
 | [],[],_=>rfl
 | _::_,_::_,h=>by simp [ZOk.length h.2]
 | [],_::_,h=>h.elim
 | _::_,[],h=>h.elim
theorem ZOk.get {w:World} {β:Hd} {L:Loc}:∀ {us:List AV} {vs:List Value},ZOk us vs→∀ (j:Nat) u v,us[j]? = some u→vs[j]? = some v→V w β L u v
 | u::r,v::s,h,0,x,y,hx,hy=>by
  simp at hx hy; subst hx; subst hy
  rcases h.1 with h | ⟨k,h1,h2⟩
  ·subst h; exact .sc
  ·subst h1; subst h2; exact .data (.nil (Nat.zero_le _))
 | u::r,v::s,h,j+1,x,y,hx,hy=>by simp at hx hy; exact ZOk.get h.2 j x y hx hy
 | [],[],_,j,_,_,hx,_=>by simp at hx
 | [],_::_,h,_,_,_,_,_=>h.elim
 | _::_,[],h,_,_,_,_,_=>h.elim
section
variable {P:Program} {o:Oper} {l:Fr} {L:Loc}
theorem G34 (i:Nat) {T:Nat} (us:List AV) (zs:List Value) (hz:(P.info? T).bind (fun i=>i.zero.map Value.cells)=some zs.toArray) (hu:ZOk us zs) (ho:o.op=.alloc T) (hi:lk L i=none) :
  H5 P o l L (Is (.ptr i 0) ((i,.box T us)::L)):=by
 intro a w β K Q hsat hf hK
 cases h1:P.info? T with
 | none=>rw [h1] at hz; simp at hz
 | some inf=>
  rw [h1] at hz
  cases h2:inf.zero with
  | none=>simp [h2] at hz
  | some z=>
   simp only [Option.bind_some,h2,Option.map_some,Option.some.injEq] at hz
   unfold Oper.wp
   have hr:(execOp a.eval o).run P w=.ok (.value (.pointer (some ⟨w.heap.size,0,none⟩))) (w.alloc (.cells z.cells T)):=by
    simp [execOp,ho,Instr.alloc,zeroValue,typeInfo,h1,h2,newVar,newRow]
   rw [hr]
   refine hK _ _ _ _ (upP β i (some w.heap.size)) ⟨rfl,rfl⟩ (hsat.alloc hi _ (fun hs=>⟨_,rfl,z.cells,heap_alloc_new w _,by simp [hz,hu.length],fun j u v hj hv=>?_⟩)) (Step.alloc hi hsat.bnd _) (.ptr (t:=T) (cs:=us) (by simp [Gs]) (by simp [upP]))
   rw [hz] at hv
   exact hu.get j u v hj (by simpa using hv)
theorem Jk {T:TypeId} {parts:List (Nat×Operand)} {cs:List AV} (pl:List (Nat×Nat)) (us:List AV) (zs:List Value) (hpl:placesOf P T=some pl) (hz:(P.info? T).bind (fun i=>i.zero.map Value.cells)=some zs.toArray) (hu:ZOk us zs) (ho:o.op=.build T parts.toArray) (hfill:H97 (fun i=>pl[i]?) us (parts.map fun p=>(p.1,ev l p.2))=some cs):H5 P o l L (Is (.agg cs) L):=
 Hx fun a w β _ hf=>by
  cases h1:P.info? T with
  | none=>rw [h1] at hz; simp at hz
  | some inf=>
   rw [h1] at hz
   cases h2:inf.zero with
   | none=>simp [h2] at hz
   | some z=>
    simp only [Option.bind_some,h2,Option.map_some,Option.some.injEq] at hz
    unfold placesOf at hpl
    split at hpl
    ·rename_i fs hfs
     have hrp:=run_places (P:=P) (w:=w) fs.toList pl hpl
     obtain⟨vs',e1,e2,e3⟩:=H89 (w:=w) (β:=β) (L:=L) (qs:=parts.map fun p=>(p.1,a.eval p.2)) (vs:=zs.toArray) hfill (by simp) (fun j p q hp hq=>by
      simp only [List.getElem?_map,Option.map_eq_some_iff] at hp hq
      obtain⟨x,hx,rfl⟩:=hp
      obtain⟨y,hy,rfl⟩:=hq
      rw [hx] at hy; cases hy
      exact⟨rfl,hf.ev _⟩) (by simp [hu.length]) (fun j u v hj hv=>hu.get j u v hj (by simpa using hv))
     refine⟨.agg vs',?_,.agg e2 e3⟩
     have hm:(fs.mapM (fun f=>Prod.mk f.offset <$> sizeOf f.type:Field→Sem (Nat×Nat))).run P w=.ok pl.toArray w:=by
      rw [← Array.toArray_toList (xs:=fs),List.mapM_toArray]
      simp only [Sem.run_map,hrp,Result.andThen_ok]
     simp [execOp,ho,Instr.build,zeroValue,typeInfo,h1,h2,underlying,hfs,hm,hz,e1]
    ·cases hpl
end
/-! ### A result that lies in a variable -/
theorem Jcf {P:Program} {T k b:Nat} {vs:Array Value} {t:TypeId} {w:World} (hT:Gff P T k=true) (hv:w.heap[b]? = some (.cells vs t (0,0))) (hk:vs.size=k) :
  (loadVar T ⟨b,0,none⟩).run P w=.ok (.agg vs) w:=by
 have h1:=Gef (P:=P) (T:=T) (k:=k) (b:=b) (o':=0) (vs:=vs.toList) hT (by simpa using hk) (w:=w) (fun j v h=>by
  simp at h
  simp [World.cell?,hv,h])
 simpa [Instr.loadAt,Instr.sureAddr,asAddr] using h1

section model
variable {α β σ:Type}

def loop (b:(σ→Option β)→σ→Option β):Nat→σ→Option β
 | 0,_=>none
 | n+1,s=>b (loop b n) s
def each (b:α→Nat→σ→(σ→Option β)→Option β) (kx:σ→Option β):List α→Nat→σ→Option β
 | [],_,s=>kx s
 | x::xs,i,s=>b x i s (each b kx xs (i+1))
def upto (b:Nat→σ→(σ→Option β)→Option β) (kx:σ→Option β):Nat→Nat→σ→Option β
 | 0,_,s=>kx s
 | n+1,i,s=>b i s (upto b kx n (i+1))
def jp (m:(α→Option β)→Option β) (k:α→Option β):Option β:=m k
def bnd (m:Option α) (k:α→Option β):Option β:=match m with
 | some x=>k x
 | none=>none
def Rbe (z:Int):Bool:=decide (-9223372036854775808≤z)&&decide (z≤9223372036854775807)
def chk (z:Int) (k:Int→Option β):Option β:=bif Rbe z then k z else none
def wrp (z:Int) (k:Int→Option β):Option β:=k (IntKind.i64.wrap z)
theorem Y43 {z:Int} {k:Int→Option β} {r:β} (h:wrp z k=some r):∃ v,IntKind.i64.wrap z=v∧k v=some r:=⟨_,rfl,h⟩
def Qm (l:List α) (i:Int) (k:α→Option β):Option β:=bif decide (0≤i) then bnd l[i.toNat]? k else none
def need (b:Bool) (k:Option β):Option β:=bif b then k else none

theorem J77 {b:(σ→Option β)→σ→Option β} {n:Nat} {s:σ} {r:β} (h:loop b n s=some r):∃ m nx,n=m+1∧loop b m=nx∧b nx s=some r:=by
 cases n with
 | zero=>cases h
 | succ m=>exact⟨m,_,rfl,rfl,h⟩
theorem Hk {b:α→Nat→σ→(σ→Option β)→Option β} {kx:σ→Option β} {xs:List α} {i k:Nat} {s:σ} {r:β} (h:each b kx (xs.drop k) i s=some r) (hk:¬ k < xs.length):kx s=some r:=by
 rw [List.drop_eq_nil_of_le (by omega)] at h; exact h
theorem Hj {b:α→Nat→σ→(σ→Option β)→Option β} {kx:σ→Option β} {xs:List α} {i k:Nat} {s:σ} {r:β} (h:each b kx (xs.drop k) i s=some r) (hk:k < xs.length) :
  ∃ x nx,xs[k]? = some x∧each b kx (xs.drop (k+1)) (i+1)=nx∧b x i s nx=some r:=by
 rw [List.drop_eq_getElem_cons hk] at h
 exact⟨xs[k],_,by simp [hk],rfl,h⟩
theorem G59 {b:Nat→σ→(σ→Option β)→Option β} {kx:σ→Option β} {n i k:Nat} {s:σ} {r:β} (h:upto b kx (n - k) i s=some r) (hk:¬ k < n):kx s=some r:=by
 rw [show n - k=0 by omega] at h; exact h
theorem G58 {b:Nat→σ→(σ→Option β)→Option β} {kx:σ→Option β} {n i k:Nat} {s:σ} {r:β} (h:upto b kx (n - k) i s=some r) (hk:k < n) :
  ∃ nx,upto b kx (n - (k+1)) (i+1)=nx∧b i s nx=some r:=by
 rw [show n - k=(n - (k+1))+1 by omega] at h
 exact⟨_,rfl,h⟩
theorem G09 {m:(α→Option β)→Option β} {k:α→Option β} {r:β} (h:jp m k=some r):∃ kk,k=kk∧m kk=some r:=⟨k,rfl,h⟩
theorem Gd {m:Option α} {k:α→Option β} {r:β} (h:bnd m k=some r):∃ x,m=some x∧k x=some r:=by
 cases m with
 | none=>cases h
 | some x=>exact⟨x,rfl,h⟩
theorem Qk {z:Int} {k:Int→Option β} {r:β} (h:chk z k=some r):∃ v,IntKind.i64.wrap z=v∧k v=some r:=by
 unfold chk at h
 cases hz:Rbe z with
 | true=>
  rw [hz] at h
  simp only [Rbe,Kq,Kr] at hz
  exact⟨z,Je8 hz.1 hz.2,h⟩
 | false=>rw [hz] at h; cases h
theorem Rb {l:List α} {i:Int} {k:α→Option β} {r:β} (h:Qm l i k=some r):∃ (m:Nat) (x:α),i=(m:Int)∧l[m]? = some x∧k x=some r:=by
 unfold Qm at h
 cases hz:decide (0≤i) with
 | true=>
  rw [hz] at h
  obtain⟨x,hx,h⟩:=Gd h
  exact⟨i.toNat,x,by have:=Kd hz; omega,hx,h⟩
 | false=>rw [hz] at h; cases h
theorem Hp {b:Bool} {k:Option β} {r:β} (h:need b k=some r):b=true∧k=some r:=by
 cases b with
 | true=>exact⟨rfl,h⟩
 | false=>cases h
theorem Gw {c:Bool} {x y z:α} (hc:c=true) (h:(bif c then x else y)=z):x=z:=by subst hc; exact h
theorem Hg {c:Bool} {x y z:α} (hc:c=false) (h:(bif c then x else y)=z):y=z:=by subst hc; exact h
theorem Y51 {f:α→AV} {l:List α} {m:Nat} {x:α} (h:l[m]? = some x):(l.map f)[m]? = some (f x):=by simp [h]
end model

abbrev ST (s:ByteArray):AV:=.sc (.string s)
abbrev LS {α:Type} (k:Nat) (f:α→AV) (xs:List α):AV:=.list k (xs.map f)
abbrev E0:Value:=.int .i64 0
abbrev Ei (n:Nat):AV:=I64 (n:Int)
abbrev Ea:=LS 1 U8
abbrev E1:=LS 1 I64
abbrev OW {α:Type} (i k:Nat) (f:α→AV) (xs:List α):AV:=.own i xs.length k (xs.map f)

section ops
variable {P:Program} {N:Cfg} {Q:Post} {l:Fr} {L L':Loc} {ops:Array Oper} {o:Oper} {rest:List Oper} {u:AV} {α:Type}

theorem H1 {x:Operand} {T E k k' d:Nat} {f:α→AV} {xs:List α} (hT:sliceB P T E k'=true) (ho:o.op=.call { callee:=.builtin .len,args:=#[x],argTypes:=#[T] }) (hx:Qj (ev l x)=some (k,xs.map f))
  (hk:xs.length≤maxLen→JL P N ops rest Q ((d,I64 (xs.length:Int))::l) L) (hg:o.guard=none) (hd:o.dst=some d) (hn:Nat.blt d N.n=true):JL P N ops (o::rest) Q l L:=
 Y91 hT (fun hm=>by simp only [Ks] at hm ⊢; exact hk hm) ho hx hg hd hn
theorem JLl {x:Operand} {T E k k' d:Nat} {f:α→AV} {xs:List α} (hT:sliceB P T E k'=true) (ho:o.op=.call { callee:=.builtin .len,args:=#[x],argTypes:=#[T] }) (hx:Qj (ev l x)=some (k,xs.map f)) (hd:o.dst=some d)
  (hk:xs.length≤maxLen→JL P N ops rest Q ((d,I64 (xs.length:Int))::l) L) (hg:o.guard=none:=by rfl) (hn:Nat.blt d N.n=true:=by rfl):JL P N ops (o::rest) Q l L:=H1 hT ho hx hk hg hd hn
theorem Qs {x:Operand} {T E k k':Nat} {f:α→AV} {xs:List α} (hT:sliceB P T E k'=true) (ho:o.op=.call { callee:=.builtin .len,args:=#[x],argTypes:=#[T] }) (hx:Qj (ev l x)=some (k,xs.map f)):H5 P o l L (Is (I64 (xs.length:Int)) L):=by
 have:=Y3f (L:=L) hT ho hx
 simpa only [Ks] using this
theorem Ga {x:Operand} {T f off:Nat} {cs ds:List AV} (hT:Qi P T f off=true) (ho:o.op=.fieldAddr T x f) (hx:ev l x=.dptr cs) (hd:cs.drop off=ds):H5 P o l L (Is (.dptr ds) L):=hd ▸ Y6d hT ho hx
theorem Gv {x ix:Operand} {T E k m:Nat} {kd:IntKind} {n:Int} {f:α→AV} {xs:List α} {y:α} (ho:o.op=.indexAddr T x ix) (hx:Qj (ev l x)=some (k,xs.map f)) (hi:ev l ix=.sc (.int kd n)) (hT:sliceB P T E k=true) (hy:xs[m]? = some y) (hm:n=(m:Int)) :
  H5 P o l L (Is (.dptr (f y).cells) L):=Y6c ho hx hi hT (Y51 hy) hm
theorem Q8 {s x:Operand} {T E k by_ i kx:Nat} {f:α→AV} {xs ys:List α} (ho:o.op=.call { callee:=.builtin .append,args:=#[s,x],argTypes:=#[T,T] }) (hs:ev l s=OW i k f xs) (hi:lk L i=some (.spare E k xs.length xs.length)) (hx:Qj (ev l x)=some (kx,ys.map f))
  (hT:sliceB P T E k=true) (hE:Zr P E k by_=true) (hb:decide ((xs.length+ys.length)*by_≤140737488355328∧xs.length+ys.length≤maxLen)=true) (hcell:∀ y,(f y).flatOk=true) (hk:kx=k∨ys=[]) (hy:ys.length=1) :
  H5 P o l L (Is (OW i k f (xs++ys)) ((i,.spare E k (xs++ys).length (xs++ys).length)::L)):=by
 have hb':=Kd hb
 have h:=R4d (xs:=xs.map f) (ys:=ys.map f) ho hs hi hx hT hE (by simpa using hb'.1) (by simpa using hb'.2) (fun y hy=>by
  obtain⟨z,_,rfl⟩:=Ku.1 hy
  exact hcell z) (hk.imp id (fun e=>by rw [e]; rfl))
 simpa only [OW,List.map_append,Ko,Ks,hy] using h
theorem Ra3 {x p:Operand} {T E k n:Nat} {kd:IntKind} {ni:Int} {f:α→AV} {xs:List α} (ho:o.op=.slice T x none (some p) none) (hx:Qj (ev l x)=some (k,xs.map f)) (hp:ev l p=.sc (.int kd ni)) (hT:sliceB P T E k=true) (hn:ni=(n:Int)∧n≤xs.length) :
  H5 P o l L (Is (LS k f (xs.take n)) L):=by
 have h:=Y07 (L:=L) ho hx hp hT hn.1 (by simpa using hn.2)
 simpa only [LS,List.map_take] using h
end ops

section model
variable {α β σ:Type}
theorem G2d {z v:Int} (h:chk z some=some v):IntKind.i64.wrap z=v:=by
 obtain⟨x,hx,e⟩:=Qk h
 cases e; exact hx
theorem Q0 {l:List α} {i:Int} {x:α} (h:Qm l i some=some x):∃ m:Nat,i=(m:Int)∧l[m]? = some x:=by
 obtain⟨m,y,hm,hy,e⟩:=Rb h
 cases e; exact⟨m,hm,hy⟩
theorem Gd8 {l:List α} {i:Int} {k:α→Option β} {r:β} (h:Qm l i k=some r):∃ x,i=(i.toNat:Int)∧l[i.toNat]? = some x∧k x=some r:=by
 obtain⟨m,x,hm,hx,h⟩:=Rb h
 exact⟨x,by omega,by rw [hm]; exact hx,h⟩
theorem Q39 {l:List α} {i:Int} {x:α} (h:Qm l i some=some x):i=(i.toNat:Int):=by obtain⟨m,hm,_⟩:=Q0 h; omega
theorem Hc6 {l:List α} {i:Int} {x:α} (h:Qm l i some=some x):l[i.toNat]? = some x:=by obtain⟨m,hm,h⟩:=Q0 h; rw [hm]; exact h
def G70 (i:Int) (n:Nat):Option Nat:=bif decide (0≤i)&&decide (i.toNat≤n) then some i.toNat else none
theorem Zv {i:Int} {n m:Nat} (h:G70 i n=some m):i=(m:Int)∧m≤n:=by
 unfold G70 at h
 cases hb:decide (0≤i)&&decide (i.toNat≤n) with
 | true=>
  rw [hb] at h; cases h
  simp only [Kq,Kr] at hb
  exact⟨by omega,hb.2⟩
 | false=>rw [hb] at h; cases h
theorem Hb {k n:Nat} (hk:k < n) (hn:n≤maxLen):IntKind.i64.wrap ((k:Int)+1)=((k+1:Nat):Int):=by
 rw [Je8 (by omega) (by unfold maxLen at hn; omega)]; rfl
theorem G5d {k:Nat} {e:Int} (h:decide ((k:Int) < e)=true):k < e.toNat:=by have:=Kd h; omega
theorem Yi {k:Nat} {e:Int} (h:decide ((k:Int) < e)=false):¬ k < e.toNat:=by have:=Ke h; omega
theorem J8 {k n:Nat} (h:decide ((k:Int) < (n:Int))=true):k < n:=by have:=Kd h; omega
theorem H3 {k n:Nat} (h:decide ((k:Int) < (n:Int))=false):¬ k < n:=by have:=Ke h; omega
theorem G36 {e:Int} (h:decide (e≤9223372036854775807)=true):e.toNat≤maxLen:=by have:=Kd h; unfold maxLen; omega
theorem app1 {α β:Type} {f g:α→β} {x:α} {r:β} (e:f=g) (h:g x=r):f x=r:=e ▸ h
theorem Y5c {α γ β:Type} {f g:α→γ→β} {x:α} {y:γ} {r:β} (e:f=g) (h:g x y=r):f x y=r:=e ▸ h
theorem J02 {α γ δ β:Type} {f g:α→γ→δ→β} {x:α} {y:γ} {z:δ} {r:β} (e:f=g) (h:g x y z=r):f x y z=r:=e ▸ h
theorem R8 {α γ δ ε β:Type} {f g:α→γ→δ→ε→β} {x:α} {y:γ} {z:δ} {u:ε} {r:β} (e:f=g) (h:g x y z u=r):f x y z u=r:=e ▸ h
theorem Hv {b:α→Nat→σ→(σ→Option β)→Option β} {kx:σ→Option β} {xs:List α} {s:σ} {r:Option β} (h:each b kx xs 0 s=r):∃ b' kx',b=b'∧kx=kx'∧each b' kx' (xs.drop 0) 0 s=r:=⟨b,kx,rfl,rfl,by rw [List.drop_zero]; exact h⟩
theorem G8a {b:Nat→σ→(σ→Option β)→Option β} {kx:σ→Option β} {n:Nat} {s:σ} {r:Option β} (h:upto b kx n 0 s=r):∃ b' kx',b=b'∧kx=kx'∧upto b' kx' (n - 0) 0 s=r:=⟨b,kx,rfl,rfl,h⟩
theorem Jef {b:(σ→Option β)→σ→Option β} {n:Nat} {s:σ} {r:Option β} (h:loop b n s=r):∃ b',b=b'∧loop b' n s=r:=⟨b,rfl,h⟩
end model

section code
variable {P:Program} {N:Cfg} {Q:Post} {l:Fr} {L:Loc}
theorem Hc {body:Code} {σ:Type} (I:Nat→σ→Prop) (F:Nat→σ→Fr) (M:Nat→σ→Loc) (μ:Nat→Nat) (i0:Nat) (s0:σ) (h0:I i0 s0) (hf:Fits N.base l L (F i0 s0) (M i0 s0))
  (hr:∀ i s,I i s→∀ K:Fr→Loc→Prop,(∀ l L i' s',I i' s'→μ i' < μ i→Fits N.base l L (F i' s') (M i' s')→K l L)→JC P N body (Q.seq K) (F i s) (M i s)):JC P N (.loop body) Q l L:=
 Rcb (fun x:Nat×σ=>I x.1 x.2) (fun x=>F x.1 x.2) (fun x=>M x.1 x.2) (fun x=>μ x.1) (i0,s0) h0 hf
  (fun x hi K hK=>hr x.1 x.2 hi K (fun l L i' s' h1 h2 h3=>hK l L (i',s') h1 h2 h3))
end code

def Rd (w:World) (S:Nat→Nat→Prop) (us:List AV) (cs:List Value):Prop:=
 cs.length=us.length∧∀ (j:Nat) u v,us[j]? = some u→cs[j]? = some v→D w S u v

def isAgg (P:Program) (t:TypeId):Bool:=match P.underlying t with
 | some (.struct _)=>true
 | _=>false

def H78 (P:Program) (t:TypeId) (us:List AV):AV:=bif isAgg P t then .agg us else us.headD .junk

def Ref (P:Program) (ok:TypeId→Bool):List Field→Nat→Nat→Bool
 | [],off,tot=>Nat.beq off tot
 | f::fs,off,tot=>Nat.beq f.offset off&&ok f.type&&Ref P ok fs (off+P.cellsOf f.type) tot

def Qc7 (P:Program):Nat→TypeId→Bool
 | 0,_=>false
 | n+1,t=>match P.underlying t with
  | some .bool=>true
  | some .string=>true
  | some (.int _)=>true
  | some (.slice e)=>Nat.blt 0 (P.cellsOf e)&&Qc7 P n e
  | some (.struct fs)=>Ref P (Qc7 P n) fs.toList 0 (P.cellsOf t)
  | _=>false

def Jf1 (P:Program) (F:TypeId→List AV→Prop):List Field→List AV→Prop
 | [],us=>us=[]
 | f::fs,us=>∃ a b,us=a++b∧a.length=P.cellsOf f.type∧F f.type a∧Jf1 P F fs b

def Yn (P:Program) (M:Nat):Nat→TypeId→List AV→Prop
 | 0,_,_=>False
 | n+1,t,us=>match P.underlying t with
  | some .bool=>∃ b,us=[.sc (.bool b)]
  | some .string=>∃ s:ByteArray,us=[.sc (.string s)]∧s.size≤maxLen
  | some (.int k)=>∃ z,us=[.sc (.int k z)]∧(Lit.int k z).wf=true
  | some (.slice e)=>∃ xss:List (List AV),us=[.list (P.cellsOf e) (xss.map (H78 P e))]∧xss.length≤M∧∀ xs∈xss,Yn P M n e xs
  | some (.struct fs)=>Jf1 P (Yn P M n) fs.toList us
  | _=>False

theorem Rd.append {w:World} {S:Nat→Nat→Prop} {us us':List AV} {cs cs':List Value} (h:Rd w S us cs) (h':Rd w S us' cs'):Rd w S (us++us') (cs++cs'):=by
 refine⟨by simp [h.1,h'.1],fun j u v hu hv=>?_⟩
 by_cases hj:j < us.length
 ·rw [List.getElem?_append_left hj] at hu
  rw [List.getElem?_append_left (by rw [h.1]; exact hj)] at hv
  exact h.2 j u v hu hv
 ·rw [List.getElem?_append_right (by omega)] at hu
  rw [List.getElem?_append_right (by rw [h.1]; omega),h.1] at hv
  exact h'.2 _ u v hu hv

theorem Rb2 {P:Program} {ok:TypeId→Bool}:∀ {fs:List Field} {off tot:Nat},Ref P ok fs off tot=true→off≤tot
 | [],_,_,h=>Nat.le_of_eq (Nat.eq_of_beq_eq_true h)
 | _::fs,_,_,h=>by
  simp only [Ref,Kq] at h
  have:=Rb2 h.2
  omega

theorem Rc0 {P:Program} {w:World} {S:Nat→Nat→Prop} {ok:TypeId→Bool} {F:TypeId→List AV→Prop} {cs:List Value} :
  ∀ {fs:List Field} {off tot:Nat},Ref P ok fs off tot=true→cs.length=tot →
   (∀ f∈fs,ok f.type=true→∃ us,F f.type us∧Rd w S us ((cs.drop f.offset).take (P.cellsOf f.type)))→∃ us,Jf1 P F fs us∧Rd w S us (cs.drop off)
 | [],off,tot,h,hl,_=>by
  have:=Nat.eq_of_beq_eq_true h
  refine⟨[],rfl,?_,fun j u v hu=>by cases hu⟩
  rw [List.length_drop,hl,this]; simp
 | f::fs,off,tot,h,hl,hf=>by
  simp only [Ref,Kq] at h
  obtain⟨⟨h1,h2⟩,h3⟩:=h
  have h1:=Nat.eq_of_beq_eq_true h1
  obtain⟨us1,f1,r1⟩:=hf f (List.mem_cons_self ..) h2
  obtain⟨us2,f2,r2⟩:=Rc0 h3 hl (fun g hg=>hf g (List.mem_cons_of_mem _ hg))
  rw [h1] at r1
  have hle:=Rb2 h3
  refine⟨us1++us2,⟨us1,us2,rfl,?_,f1,f2⟩,?_⟩
  ·rw [← r1.1,List.length_take,List.length_drop]; omega
  ·have e:cs.drop off=(cs.drop off).take (P.cellsOf f.type)++cs.drop (off+P.cellsOf f.type):=by
    rw [← List.drop_drop,List.take_append_drop]
   rw [e]
   exact r1.append r2

theorem Q3d {P:Program} {M n:Nat} {t:TypeId} {us:List AV} (h:Yn P M n t us):(H78 P t us).cells=us:=by
 cases n with
 | zero=>exact h.elim
 | succ n=>
  unfold Yn at h
  unfold H78 isAgg
  revert h
  split
  ·rintro⟨b,rfl⟩; simp_all [AV.cells]
  ·rintro⟨b,rfl,_⟩; simp_all [AV.cells]
  ·rintro⟨b,rfl,_⟩; simp_all [AV.cells]
  ·rintro⟨xss,rfl,_⟩; simp_all [AV.cells]
  ·intro _; simp_all [AV.cells]
  ·intro h; exact h.elim

theorem cell_spot {w:World} {a:Addr} {v:Value} (h:w.cell? a=some v):a.spot=none:=by
 cases hs:a.spot with
 | none=>rfl
 | some s=>
  unfold World.cell? at h
  split at h
  ·rw [hs] at h; simp at h
  ·cases h

theorem Y59 {w:World} {a:Addr} {v:Value} (h:w.cell? a=some v):a.block < w.heap.size:=by
 unfold World.cell? at h
 split at h
 ·rename_i hh
  exact(Array.getElem?_eq_some_iff.1 hh).1
 ·cases h

theorem R29 {α β:Type} {f:α→Option β}:∀ {l:List α} {r:List β},l.mapM f=some r→r.length=l.length∧∀ (i:Nat) x,l[i]? = some x→f x=r[i]?
 | [],r,h=>by
  simp at h; subst h
  exact⟨rfl,fun i x hx=>by cases hx⟩
 | x::l,r,h=>by
  rw [List.mapM_cons] at h
  cases hx:f x with
  | none=>rw [hx] at h; cases h
  | some y=>
   rw [hx] at h
   cases hl:l.mapM f with
   | none=>rw [hl] at h; cases h
   | some r'=>
    rw [hl] at h
    cases h
    obtain⟨h1,h2⟩:=R29 hl
    refine⟨by simp [h1],fun i z hz=>?_⟩
    cases i with
    | zero=>simp at hz; subst hz; simpa using hx
    | succ i=>simpa using h2 i z (by simpa using hz)

theorem Ja1 {w:World} {base:Nat} {a:Addr} {n:Nat} {cs:List Value} (h:w.cells? base a n=some cs):cs.length=n∧∀ j,j < n→w.cell? (a.add j)=cs[j]? := by
 unfold World.cells? at h
 split at h
 ·obtain⟨h1,h2⟩:=R29 h
  exact⟨by simpa using h1,fun j hj=>h2 j j (by simp [hj])⟩
 ·cases h

theorem Qcf {b off:Nat} (i:Nat):Addr.add ⟨b,off,none⟩ i=⟨b,off+i,none⟩:=by
 unfold Addr.add
 split <;> simp_all

section
variable {H:Type} {enc:TypeId×Value→H} {P:Program} {w:World} {base:Nat} {spare:Nat→Bool} {held:Bool} {S:Nat→Nat→Prop}

theorem R94 {M n:Nat} {e:TypeId} {a:Addr} {len cap:Nat} (hS:∀ b i,b < w.heap.size→S b i) (hk:0 < P.cellsOf e) (hl:len≤cap) (hm:cap≤maxLen)
  (hel:∀ i,i < len→∃ us cs,Yn P M n e us∧Rd w S us cs∧w.cells? base (a.add (i*P.cellsOf e)) (P.cellsOf e)=some cs) :
  ∃ xss:List (List AV),xss.length=len∧(∀ xs∈xss,Yn P M n e xs)∧D w S (.list (P.cellsOf e) (xss.map (H78 P e))) (.slice (some a) len cap):=by
 have hel':∀ i,∃ us,i < len→∃ cs,Yn P M n e us∧Rd w S us cs∧w.cells? base (a.add (i*P.cellsOf e)) (P.cellsOf e)=some cs:=fun i=>by
  by_cases hi:i < len
  ·obtain⟨us,cs,h⟩:=hel i hi
   exact⟨us,fun _=>⟨cs,h⟩⟩
  ·exact⟨[],fun h=>(hi h).elim⟩
 obtain⟨f,hf⟩:=Classical.skolem.1 hel'
 refine⟨(List.range len).map f,by simp,?_,?_⟩
 ·intro xs hx
  obtain⟨i,hi,rfl⟩:=Ku.1 hx
  obtain⟨cs,h,_⟩:=hf i (List.mem_range.1 hi)
  exact h
 cases len with
 | zero=>exact .nil hm
 | succ len=>
  obtain⟨cs0,_,_,hc0⟩:=hf 0 (Nat.succ_pos _)
  obtain⟨l0,g0⟩:=Ja1 hc0
  have g00:=g0 0 hk
  have hx:∃ v,cs0[0]? = some v:=⟨cs0[0],by simp⟩
  obtain⟨v0,hv0⟩:=hx
  rw [hv0] at g00
  have hsp:a.spot=none:=by
   have:=cell_spot g00
   unfold Addr.add at this
   simpa using this
  obtain⟨b,off,sp⟩:=a
  subst hsp
  have hb:b < w.heap.size:=by
   have:=Y59 g00
   simpa [Qcf] using this
  have hcl:∀ x∈((List.range (len+1)).map f).map (H78 P e),x.cells.length=P.cellsOf e:=by
   intro x hx
   obtain⟨us,hu,rfl⟩:=Ku.1 hx
   obtain⟨i,hi,rfl⟩:=Ku.1 hu
   obtain⟨cs,h1,h2,h3⟩:=hf i (List.mem_range.1 hi)
   rw [Q3d h1,← h2.1,(Ja1 h3).1]
  have hlen:(((List.range (len+1)).map f).map (H78 P e)).length=len+1:=by simp
  have hflat:∀ J,J < (flat (((List.range (len+1)).map f).map (H78 P e))).length→∃ u v,(flat (((List.range (len+1)).map f).map (H78 P e)))[J]? = some u∧w.cell? ⟨b,off+J,none⟩=some v∧D w S u v:=by
   intro J hJ
   rw [Jm hcl,hlen] at hJ
   have hi:J / P.cellsOf e < len+1:=(Nat.div_lt_iff_lt_mul hk).2 hJ
   have hj:J % P.cellsOf e < P.cellsOf e:=Nat.mod_lt _ hk
   have hJ':J / P.cellsOf e*P.cellsOf e+J % P.cellsOf e=J:=by
    rw [Nat.mul_comm]; exact Nat.div_add_mod J _
   obtain⟨cs,h1,h2,h3⟩:=hf _ hi
   obtain⟨l1,g1⟩:=Ja1 h3
   have hx:(((List.range (len+1)).map f).map (H78 P e))[J / P.cellsOf e]? = some (H78 P e (f (J / P.cellsOf e))):=by
    rw [List.getElem?_map,List.getElem?_map,List.getElem?_range hi]; rfl
   have hfl:=Qc8 hcl hx _ hj
   rw [hJ',Q3d h1] at hfl
   have hul:(f (J / P.cellsOf e)).length=P.cellsOf e:=by rw [← h2.1,l1]
   have hu:(f (J / P.cellsOf e))[J % P.cellsOf e]? = some ((f (J / P.cellsOf e))[J % P.cellsOf e]'(by rw [hul]; exact hj)):=by simp
   have hv:cs[J % P.cellsOf e]? = some (cs[J % P.cellsOf e]'(by rw [l1]; exact hj)):=by simp
   refine⟨_,_,hfl.trans hu,?_,h2.2 _ _ _ hu hv⟩
   have:=g1 _ hj
   rw [Qcf,Qcf,Nat.add_assoc,hJ',hv] at this
   exact this
  have hD:=D.list (w:=w) (S:=S) (k:=P.cellsOf e) (b:=b) (off:=off) (cap:=cap) (xs:=((List.range (len+1)).map f).map (H78 P e)) (fun J=>(w.cell? ⟨b,off+J,none⟩).getD undef) (by rw [hlen]; exact hl) hm hcl
   (fun J hJ=>by
    obtain⟨u,v,_,hv,_⟩:=hflat J hJ
    exact⟨hS _ _ hb,by rw [hv]; rfl⟩)
   (fun J u hu=>by
    have hJ:J < (flat (((List.range (len+1)).map f).map (H78 P e))).length:=(Kh hu).1
    obtain⟨u',v,hu',hv,hd⟩:=hflat J hJ
    rw [hu] at hu'
    cases hu'
    rw [hv]; exact hd)
  rw [hlen] at hD
  exact hD

structure J83 (H:Type) (M:Nat) (small:DataW H→Prop):Prop where
 slice:∀ elems spare,small (.slice elems spare)→elems.length≤maxLen→elems.length≤M∧∀ e∈elems,small e
 agg:∀ parts,small (.agg parts)→∀ p∈parts,small p
theorem J83.all {H:Type}:J83 H maxLen (fun _=>True):=⟨fun _ _ _ h=>⟨h,fun _ _=>trivial⟩,fun _ _ _ _=>trivial⟩
theorem Hc7 (hS:∀ b i,b < w.heap.size→S b i) {M:Nat} {small:DataW H→Prop} (hsm:J83 H M small):∀ (n:Nat) (t:TypeId) (fuel:Nat) (cs:List Value) (x:DataW H×List MemPlace),Qc7 P n t=true →
  DataW.trod enc P w base spare held fuel t cs=some x→small x.1→∃ us,Yn P M n t us∧Rd w S us cs
 | 0,_,_,_,_,h,_,_=>by cases h
 | n+1,t,fuel,cs,x,h,hx,hxs=>by
  unfold Qc7 at h
  unfold Yn
  have one:∀ {u:AV} {v:Value},D w S u v→Rd w S [u] [v]:=fun {u v} hd=>⟨rfl,fun j u' v' hu hv=>by
   cases j with
   | zero=>simp at hu hv; subst hu; subst hv; exact hd
   | succ j=>cases hu⟩
  revert h
  split
  ·rename_i ht
   intro _
   obtain⟨b,rfl,_⟩:=DataW.trod_bool ht hx
   exact⟨_,⟨b,rfl⟩,one .sc⟩
  ·rename_i ht
   intro _
   obtain⟨s,rfl,_,hs⟩:=DataW.trod_string ht hx
   exact⟨_,⟨s,rfl,hs⟩,one .sc⟩
  ·rename_i k ht
   intro _
   obtain⟨z,rfl,_,hz⟩:=DataW.trod_int ht hx
   exact⟨_,⟨z,rfl,hz⟩,one .sc⟩
  ·rename_i e ht
   intro h
   rw [Kq] at h
   have hk:0 < P.cellsOf e:=Eq.mp Nat.blt_eq h.1
   rcases DataW.trod_slice ht hx with ⟨rfl,_⟩ | ⟨a,len,cap,elems,rest,m,_,rfl,hx1,hb,hl,hm,hlen,hel,_,_⟩
   ·exact⟨_,⟨[],rfl,Nat.zero_le _,fun xs hx=>by cases hx⟩,one (.nil (Nat.zero_le _))⟩
   ·rw [hx1] at hxs
    obtain⟨hM,hsub⟩:=hsm.slice _ _ hxs (by rw [Ks,hlen]; exact Nat.le_trans hl hm)
    rw [Ks,hlen] at hM
    obtain⟨xss,h1,h2,h3⟩:=R94 (P:=P) (base:=base) (n:=n) (e:=e) (a:=a) (len:=len) (cap:=cap) hS hk hl hm (fun i hi=>by
     have he:=hel i hi
     rw [Ki (by rw [hlen]; exact hi)] at he
     obtain⟨cs',hc,ht'⟩:=Option.bind_eq_some_iff.1 he
     obtain⟨us,hf,hr⟩:=Hc7 hS hsm n e m cs' _ h.2 ht' (hsub _ (Ku.2 ⟨_,List.getElem_mem _,rfl⟩))
     exact⟨us,cs',hf,hr,hc⟩)
    exact⟨_,⟨xss,rfl,by rw [h1]; exact hM,h2⟩,one h3⟩
  ·rename_i fs ht
   intro h
   obtain⟨xs,m,_,hx1,hl,hlen,hf⟩:=DataW.trod_struct ht hx
   rw [hx1] at hxs
   have hsub:=hsm.agg _ hxs
   obtain⟨us,h1,h2⟩:=Rc0 (w:=w) (S:=S) (F:=Yn P M n) h hl (fun f hf' hok=>by
    obtain⟨i,hi⟩:=List.mem_iff_getElem?.1 hf'
    have hi':fs[i]? = some f:=by simpa using hi
    have:=hf i f hi'
    have hlt:i < xs.length:=by rw [hlen]; exact(Array.getElem?_eq_some_iff.1 hi').1
    rw [Ki hlt] at this
    exact Hc7 hS hsm n f.type m _ _ hok this (hsub _ (Ku.2 ⟨_,List.getElem_mem hlt,rfl⟩)))
   exact⟨us,h1,by simpa using h2⟩
  ·intro h; cases h

theorem J80 (hS:∀ b i,b < w.heap.size→S b i) {M:Nat} {small:DataW H→Prop} (hsm:J83 H M small) {n:Nat} {t:TypeId} {r:Reach} {b0:Nat} {v:Value} {d:DataW H} {ps:List MemPlace} (hok:Qc7 P n t=true)
  (hval:Value.okWide P w r b0 t v) (hd:DataW.Trod enc P w base spare held t v d ps) (hds:small d):∃ us,Yn P M n t us∧D w S (H78 P t us) v:=by
 obtain⟨fuel,hf⟩:=hd
 obtain⟨us,h1,h2⟩:=Hc7 hS hsm n t fuel _ _ hok hf hds
 refine⟨us,h1,?_⟩
 have single:∀ {u:AV},us=[u]→isAgg P t=false→v.cells.toList=[v]→D w S (H78 P t us) v:=fun {u} hu ha hv=>by
  subst hu
  unfold H78
  rw [ha]
  rw [hv] at h2
  exact h2.2 0 _ _ rfl rfl
 cases n with
 | zero=>exact h1.elim
 | succ n=>
  unfold Yn at h1
  revert h1
  split
  ·rename_i ht
   rintro⟨b,e⟩
   obtain⟨b',rfl⟩:=Go.WideShapes.okWide_bool ht hval
   exact single e (by simp [isAgg,ht]) (by simp [Value.cells])
  ·rename_i ht
   rintro⟨b,e,_⟩
   obtain⟨b',rfl⟩:=Go.WideShapes.okWide_string ht hval
   exact single e (by simp [isAgg,ht]) (by simp [Value.cells])
  ·rename_i ht
   rintro⟨b,e,_⟩
   obtain⟨b',rfl⟩:=Go.WideShapes.okWide_int ht hval
   exact single e (by simp [isAgg,ht]) (by simp [Value.cells])
  ·rename_i ht
   rintro⟨b,e,_⟩
   obtain⟨a,l,c,rfl⟩:=Go.WideShapes.okWide_slice ht hval
   exact single e (by simp [isAgg,ht]) (by simp [Value.cells])
  ·rename_i fs ht
   intro _
   obtain⟨cs,rfl,_⟩:=Go.WideShapes.okWide_struct ht hval
   unfold H78
   rw [show isAgg P t=true by simp [isAgg,ht]]
   refine .agg ?_ (fun j u v hu hv=>h2.2 j u v hu ?_)
   ·simpa [Value.cells] using h2.1
   ·simpa [Value.cells] using hv
  ·intro h; exact h.elim

end

theorem Step.below {w w':World} {β β':Hd} {L':Loc} (h:Step w β [] w' β' L'):Below w.heap.size w w':=
 ⟨h.os,h.tape,h.output.1,h.size,fun k hk=>(h.far k hk (fun id hi=>by simp [lk] at hi)).1⟩

theorem Y4b {P:Program} {f:FuncId} {args:List AV} {R:AV→Prop} (hc:Pure P f args R) {w:World} {vs:Array Value} (hl:vs.size=args.length)
  (hv:∀ (j:Nat) u v,args[j]? = some u→vs[j]? = some v→D w (Qd w ⟨fun _=>none,fun _ _=>False⟩ []) u v) :
  Calls P f vs w fun e w'=>∃ v r β' ,e=.returned v∧Below w.heap.size w w'∧V w' β' [] r v∧R r:=by
 refine(hc w ⟨fun _=>none,fun _ _=>False⟩ vs ⟨fun b i h=>h.elim,fun id b h=>by simp [lk] at h,fun id b j h=>by simp [lk] at h,fun id id' b h=>by simp [lk] at h,fun id o h=>by simp [lk] at h⟩ hl
  (fun j u v hu hv'=>.data (hv j u v hu hv'))).mono fun e w' h=>?_
 obtain⟨v,r,β',L',he,hsat',hst,hvr,rfl,hR⟩:=h
 exact⟨v,r,β',he,hst.below,hvr,hR⟩

theorem J66 {w:World}:∀ b i,b < w.heap.size→Qd w ⟨fun _=>none,fun _ _=>False⟩ [] b i:=fun _ _ h=>⟨h,fun h=>h,fun id o h=>by simp [lk] at h⟩

section
variable {P:Program} {M n:Nat} {t e:TypeId} {us:List AV}
theorem R7f (h:Yn P M (n+1) t us) (ht:P.underlying t=some .bool):∃ b:Bool,True∧us=[BL b]:=by
 unfold Yn at h; rw [ht] at h
 obtain⟨b,rfl⟩:=h
 exact⟨b,trivial,rfl⟩
theorem Qbf (h:Yn P M (n+1) t us) (ht:P.underlying t=some .string):∃ s:ByteArray,s.size≤maxLen∧us=[ST s]:=by
 unfold Yn at h; rw [ht] at h
 obtain⟨s,rfl,hs⟩:=h
 exact⟨s,hs,rfl⟩
theorem Q8f {k:IntKind} (h:Yn P M (n+1) t us) (ht:P.underlying t=some (.int k)):∃ z:Int,(Lit.int k z).wf=true∧us=[.sc (.int k z)]:=by
 unfold Yn at h; rw [ht] at h
 obtain⟨z,rfl,hz⟩:=h
 exact⟨z,hz,rfl⟩
theorem G98 {α:Type} {av:α→AV} {ok:α→Prop} {k:Nat} (h:Yn P M (n+1) t us) (ht:P.underlying t=some (.slice e)) (hk:P.cellsOf e=k)
  (hel:∀ us,Yn P M n e us→∃ x,ok x∧H78 P e us=av x):∃ xs:List α,((∀ x∈xs,ok x)∧xs.length≤M)∧us=[LS k av xs]:=by
 unfold Yn at h; rw [ht] at h
 obtain⟨xss,rfl,hl,hx⟩:=h
 have key:∀ (l:List (List AV)),(∀ xs∈l,Yn P M n e xs)→∃ xs:List α,(∀ x∈xs,ok x)∧xs.length=l.length∧l.map (H78 P e)=xs.map av:=by
  intro l
  induction l with
  | nil=>exact fun _=>⟨[],⟨fun x hx=>(Km hx).elim,rfl,rfl⟩⟩
  | cons a l ih=>
   intro hl
   obtain⟨x,h1,h2⟩:=hel a (hl a (List.mem_cons_self ..))
   obtain⟨xs,h3,h4,h5⟩:=ih (fun y hy=>hl y (List.mem_cons_of_mem _ hy))
   refine⟨x::xs,fun y hy=>?_,by simp [h4],by simp [h2,h5]⟩
   rcases Kw.1 hy with rfl | hy
   ·exact h1
   ·exact h3 y hy
 obtain⟨xs,h1,h2,h3⟩:=key xss hx
 exact⟨xs,⟨h1,by rw [h2]; exact hl⟩,by rw [hk,h3]⟩
theorem G08 {fs:Array Field} (h:Yn P M (n+1) t us) (ht:P.underlying t=some (.struct fs)):Jf1 P (Yn P M n) fs.toList us:=by
 unfold Yn at h; rw [ht] at h
 exact h
theorem Hfd {fs:Array Field} (ht:P.underlying t=some (.struct fs)):H78 P t us=.agg us:=by
 unfold H78 isAgg; rw [ht]; rfl
theorem Qc9 {u:AV} (ht:isAgg P t=false):H78 P t [u]=u:=by
 unfold H78; rw [ht]; rfl
end

theorem u8r {z:Int} (h:(Lit.int .u8 z).wf=true):0≤z∧z≤255:=by
 simp only [Lit.wf,Kq,Kr] at h
 exact h

def Yb8 (P:Program) (l:Fr) (L:Loc):ResultVar→AV→Prop
 | .tmp t,u=>look l t=u
 | .cell t T,u=>∃ i tt cs k,look l t=.ptr i 0∧lk L i=some (.box tt cs)∧cs.length=k∧((Gff P T k=true∧u=.agg cs)∨(Z1 P T=true∧cs[0]? = some u))
inductive Rce (ok:Nat→Bool):AV→AV→Prop
 | conv {u u':AV} (h:Conv ok u u'):Rce ok u u'
 | agg {cs cs':List AV} (h:Hda ok cs cs'):Rce ok (.agg cs) (.agg cs')
def R99 (P:Program) (l:Fr) (L:Loc) (ok:Nat→Bool):List ResultVar→List AV→Prop
 | [],[]=>True
 | rv::r,u'::s=>(∃ u,Yb8 P l L rv u∧Rce ok u u')∧R99 P l L ok r s
 | _,_=>False
def Y1f:List AV→AV
 | [u]=>u
 | us=>.tup us
def Y64 (P:Program) (B:List Nat) (rvs:List ResultVar) (R:AV→Loc→Prop):Fr→Loc→Prop:=
 fun l L=>∃ us L',H00 (fun i=>(lk L' i).isSome) L L'∧allIn L' B=true∧R99 P l L (fun i=>(lk L' i).isSome) rvs us∧R (Y1f us) L'

theorem V.convA {w:World} {β:Hd} {L L':Loc} (hd:J5c L L') {u u':AV} {v:Value} (h:V w β L u v) (hc:Rce (fun i=>(lk L' i).isSome) u u'):V w β L' u' v:=by
 cases hc with
 | conv hc=>exact h.conv hd hc
 | @agg cs cs' hc=>
  obtain⟨vs,rfl,hl,hv⟩:=h.inv_agg
  exact .agg (hl.trans hc.length) (fun j u' v hu hvj=>by
   have hj:j < vs.size:=(Array.getElem?_eq_some_iff.1 hvj).1
   obtain⟨u,hu0⟩:∃ u,cs[j]? = some u:=⟨_,Ki (hl ▸ hj)⟩
   exact(hv j u v hu0 hvj).conv hd (hc.get j u u' hu0 hu))

def J96 (a:Act):ResultVar→Sem Value
 | .tmp t=>pure (a.tmps.getD t undef)
 | .cell q t=>do loadVar t (← asAddr (a.tmps.getD q undef))
theorem Raa {P:Program} {w:World} {β:Hd} {L L':Loc} {l:Fr} {a:Act} (hsat:Sat w β L) (hf:Qe a w β L l) (hd:J5c L L') :
  ∀ {rvs:List ResultVar} {us:List AV},R99 P l L (fun i=>(lk L' i).isSome) rvs us →
  ∃ vs:List Value,(rvs.mapM (J96 a)).run P w=.ok vs w∧vs.length=us.length ∧
   ∀ (j:Nat) u v,us[j]? = some u→vs[j]? = some v→V w β L' u v
 | [],[],_=>⟨[],by simp,rfl,fun j u v hu=>by simp at hu⟩
 | rv::r,u'::s,⟨⟨u,hu,hc⟩,h⟩=>by
  obtain⟨vs,h1,h2,h3⟩:=Raa (P:=P) hsat hf hd (rvs:=r) (us:=s) h
  have key:∃ v,(J96 a rv).run P w=.ok v w∧V w β L u v:=by
   cases rv with
   | tmp t=>
    refine⟨_,rfl,?_⟩
    have:=hf.tmp t
    rw [show look l t=u from hu] at this
    exact this
   | cell q T=>
    obtain⟨i,tt,cs,k,e1,e2,e3,e4⟩:=hu
    have hv:=hf.tmp q
    rw [e1] at hv
    obtain⟨b,hb,he⟩:=hv.inv_ptr
    obtain⟨xs,x1,x2,x3⟩:=J01 hsat e2 hb
    rcases e4 with ⟨e4,rfl⟩ | ⟨e4,e5⟩
    ·refine⟨.agg xs,?_,.agg x2 x3⟩
     have:=Jcf (w:=w) e4 x1 (x2.trans e3)
     simp only [J96,he,asAddr,Sem.run_bind,Sem.run_pure,Result.andThen_ok]
     exact this
    ·have hlt:0 < xs.size:=by
      have:=(Kh e5).1
      omega
     refine⟨xs[0],?_,x3 0 u _ e5 (by simp [hlt])⟩
     have h5:=Gbf (P:=P) (T:=T) (b:=b) (o':=0) (v:=xs[0]) e4 (w:=w) (by simp [World.cell?,x1,hlt])
     simp only [J96,he,asAddr,Sem.run_bind,Sem.run_pure,Result.andThen_ok]
     simpa [Instr.loadAt,Instr.sureAddr,asAddr] using h5
  obtain⟨v,k1,k2⟩:=key
  refine⟨v::vs,?_,by simp [h2],fun j u0 v0 hu0 hv0=>?_⟩
  ·rw [List.mapM_cons,Sem.run_bind,k1,Result.andThen_ok,Sem.run_bind,h1,Result.andThen_ok]
   rfl
  ·cases j with
   | zero=>simp at hu0 hv0; subst hu0 hv0; exact k2.convA hd hc
   | succ j=>simp at hu0 hv0; exact h3 j u0 v0 hu0 hv0
 | [],_::_,h=>h.elim
 | _::_,[],h=>h.elim

theorem H13 {P:Program} {f:FuncId} {fn:Func} {c:Code} {args:List AV} {L0:Loc} {R:AV→Loc→Prop} (base:List Nat) (rvs:List ResultVar) (hf:P.funcs[f]? = some fn) (hb:fn.body=some c) (hres:fn.results=rvs.toArray)
  (hbase:∀ id,(lk L0 id).isSome=true→id∈base) (h:JC P ⟨fn.ntmps,base,none⟩ c (.fin (Y64 P base rvs R)) (H2f 0 args) L0):Ym P f args L0 R:=
 Hcb hf hb hbase (fun w0 β0 a w β l L hs hq=>by
  obtain⟨us,L',q1,q2,q3,q4⟩:=hq
  have hfit:Fits base l L [] L':=⟨trivial,q1,q2⟩
  have hs':=hs.fits hfit
  obtain⟨vs,h1,h2,h3⟩:=Raa hs.sat hs.frame hfit.drop q3
  have hrun:(results fn a.tmps).run P w=.ok (if h:vs.toArray.size=1 then vs.toArray[0] else .tuple vs.toArray) w:=by
   have e:results fn a.tmps=(do let vs ← fn.results.mapM (J96 a); pure (if h:vs.size=1 then vs[0] else .tuple vs)):=by
    unfold results
    refine congrArg (fun g=>bind (Array.mapM g fn.results) _) ?_
    funext rv
    cases rv <;> rfl
   rw [e,hres,List.mapM_toArray,Sem.run_bind]
   rw [show (List.toArray <$> List.mapM (J96 a) rvs:Sem (Array Value)).run P w=.ok vs.toArray w from by
    rw [map_eq_pure_bind,Sem.run_bind,h1,Result.andThen_ok]; rfl]
   rfl
  refine⟨_,Y1f us,L',hrun,hs'.sat,hs'.step,?_,q4⟩
  match us,vs,h2,h3 with
  | [u],[v],_,h3=>simpa [Y1f] using h3 0 u v rfl rfl
  | [],[],_,h3=>exact .tup rfl (fun j u v hu=>by simp at hu)
  | u::u2::us,v::v2::vs,h2,h3=>
   have:¬ (v::v2::vs).toArray.size=1:=by simp
   rw [dif_neg this]
   exact .tup (by simpa using h2) (fun j u v hu hv=>h3 j u v hu (by simpa using hv))) h

theorem Gy {P:Program} {f:FuncId} {fn:Func} {c:Code} {args:List AV} {R:AV→Prop} (rvs:List ResultVar) (hf:P.funcs[f]? = some fn) (hb:fn.body=some c) (hres:fn.results=rvs.toArray)
  (h:JC P ⟨fn.ntmps,[],none⟩ c (.fin (Y64 P [] rvs (fun r L'=>L'=[]∧R r))) (H2f 0 args) []):Pure P f args R:=H13 [] rvs hf hb hres Y20 h
theorem fin1 {P:Program} {t:Tmp} {α:Type} {l:Fr} {L:Loc} (f:α→AV) {a r:α} (h:some a=some r) (hc:Conv (fun i=>(lk [] i).isSome) (look l t) (f a):=by exact .same rfl):Y64 P [] [.tmp t] (fun u L'=>L'=[]∧u=f r) l L:=
 ⟨[f a],[],trivial,rfl,⟨⟨_,rfl,.conv hc⟩,trivial⟩,rfl,congrArg f (Kj h)⟩
theorem fin1l {P:Program} {t:Tmp} {α:Type} {l:Fr} {L:Loc} (f:α→AV) {a r:α} (h:some a=some r) (hc:Conv (fun i=>(lk [] i).isSome) (look l t) (f a):=by exact .list rfl):Y64 P [] [.tmp t] (fun u L'=>L'=[]∧u=f r) l L:=fin1 f h hc

def inL (L:Loc) (i:Nat):Bool:=(lk L i).isSome
def Hd3 (L L0:Loc):Loc:=L.filter fun p=>!inL L0 p.1
theorem Rbb:∀ (L L0:Loc) (id:Nat),lk (Hd3 L L0) id=if inL L0 id=true then none else lk L id
 | [],L0,id=>by simp [Hd3,lk]
 | (i,o)::r,L0,id=>by
  have ih:=Rbb r L0 id
  unfold Hd3 at ih ⊢
  rw [List.filter_cons,Gs]
  by_cases hi:inL L0 i=true
  ·rw [if_neg (by simp [hi]),ih]
   by_cases e:i=id
   ·subst e; simp [hi]
   ·simp [e]
  ·rw [if_pos (by simpa using hi),Gs,ih]
   by_cases e:i=id
   ·subst e; simp [hi]
   ·simp [e]
theorem Qa7:∀ (L M:Loc) (id:Nat),lk (L++M) id=if inL L id=true then lk L id else lk M id
 | [],M,id=>by simp [inL,lk]
 | (i,o)::r,M,id=>by
  have ih:=Qa7 r M id
  rw [List.cons_append,Gs,Gs,ih]
  by_cases e:i=id
  ·subst e; simp [inL,Gs]
  ·rw [if_neg e,if_neg e]; simp only [inL,Gs,if_neg e]; rfl
def H30 (L L0 L':Loc):Loc:=L'++Hd3 L L0
def H66 (β β':Hd) (L0 L':Loc):Hd:=⟨fun id=>if inL L' id=true∨inL L0 id=true then β'.at_ id else β.at_ id,β.hid⟩

def Jt.refs (ok:Nat→Bool):Jt→Bool
 | .box _ cs=>G2c ok cs
 | .iter m _ _=>ok m
 | _=>true
theorem V.down {w:World} {β β0:Hd} {L L0:Loc} (hS:∀ b i,Qd w β L b i→Qd w β0 L0 b i) (hid:∀ id o,lk L0 id=some o→lk L id=some o∧β0.at_ id=β.at_ id) {u:AV} {v:Value} (h:V w β L u v) :
  u.refs (inL L0)=true→V w β0 L0 u v:=by
 have mono:∀ {u v},D w (Qd w β L) u v→D w (Qd w β0 L0) u v:=fun h=>h.mono fun b i hs=>⟨hS b i hs,rfl⟩
 have mem:∀ {cs:List AV},G2c (inL L0) cs=true→∀ (j:Nat) u,cs[j]? = some u→u.refs (inL L0)=true:=
  fun h j u hu=>G37 h u (Kk hu)
 have get:∀ {i o},inL L0 i=true→lk L i=some o→lk L0 i=some o∧β0.at_ i=β.at_ i:=fun hi ho=>by
  obtain⟨o',ho'⟩:=Option.isSome_iff_exists.1 hi
  obtain⟨h1,h2⟩:=hid _ o' ho'
  rw [ho] at h1; cases h1
  exact⟨ho',h2⟩
 induction h with
 | data h=>exact fun _=>.data (mono h)
 | agg hl _ ih=>exact fun hr=>.agg hl fun j u v hu hv=>ih j u v hu hv (mem (by simpa [AV.refs] using hr) j u hu)
 | tup hl _ ih=>exact fun hr=>.tup hl fun j u v hu hv=>ih j u v hu hv (mem (by simpa [AV.refs] using hr) j u hu)
 | fn hl _ ih=>exact fun hr=>.fn hl fun j u v hu hv=>ih j u v hu hv (mem (by simpa [AV.refs] using hr) j u hu)
 | bfn hl _ ih=>exact fun hr=>.bfn hl fun j u v hu hv=>ih j u v hu hv (mem (by simpa [AV.refs] using hr) j u hu)
 | opt _ h0 ih=>exact fun hr=>.opt (fun e=>ih e (by simpa [AV.refs] using hr)) h0
 | ptr hi h=>intro hr; obtain⟨h1,h2⟩:=get (by simpa [AV.refs] using hr) hi; exact .ptr h1 (h2.trans h)
 | ms hi h hn hm=>intro hr; obtain⟨h1,h2⟩:=get (by simpa [AV.refs] using hr) hi; exact .ms h1 (h2.trans h) hn hm
 | mp hi h=>intro hr; obtain⟨h1,h2⟩:=get (by simpa [AV.refs] using hr) hi; exact .mp h1 (h2.trans h)
 | it hi h=>intro hr; obtain⟨h1,h2⟩:=get (by simpa [AV.refs] using hr) hi; exact .it h1 (h2.trans h)
 | vec hp hv=>
  intro hr
  obtain⟨t,ver',xs,hi,hle,hx⟩:=hp
  obtain⟨h1,h2⟩:=get (by simpa [AV.refs] using hr) hi
  exact .vec ⟨t,ver',xs,h1,hle,fun e=>⟨(hx e).1,by rw [h2]; exact(hx e).2⟩⟩ hv
 | vptr hp hv=>
  intro hr
  obtain⟨t,k,ver',xs,hi,hle,hx⟩:=hp
  obtain⟨h1,h2⟩:=get (by simpa [AV.refs] using hr) hi
  exact .vptr ⟨t,k,ver',xs,h1,hle,fun e=>by rw [h2]; exact hx e⟩ hv
 | vcap hp hv=>
  intro hr
  obtain⟨t,ver',xs,hi,hle,hx⟩:=hp
  obtain⟨h1,h2⟩:=get (by simpa [AV.refs] using hr) hi
  exact .vcap ⟨t,ver',xs,h1,hle,fun e=>by rw [h2]; exact hx e⟩ hv
 | nst vs hi hle hr0 hpre _ hv ih=>
  intro hr
  simp only [AV.refs,Kq] at hr
  obtain⟨h1,h2⟩:=get hr.1 hi
  exact .nst vs h1 hle (fun e=>by rw [h2]; exact hr0 e) (fun e j u x hu hx=>mono (hpre e j u x hu hx)) (fun x e h0 hx=>ih x e h0 hx hr.2) hv
 | nptr b vs hi hle hr0 _ hv ih=>
  intro hr
  simp only [AV.refs,Kq] at hr
  obtain⟨h1,h2⟩:=get hr.1 hi
  exact .nptr b vs h1 hle (fun e=>by rw [h2]; exact hr0 e) (fun x e hx=>ih x e hx hr.2) hv
 | vsl hp hv=>
  intro hr
  obtain⟨t,ver',xs,hi,hle,hx⟩:=hp
  obtain⟨h1,h2⟩:=get (by simpa [AV.refs] using hr) hi
  exact .vsl ⟨t,ver',xs,h1,hle,fun e=>by rw [h2]; exact hx e⟩ hv
 | own hd hp=>
  intro hr
  obtain⟨t,ver',hw,hi,hle,hx⟩:=hp
  obtain⟨h1,h2⟩:=get (by simpa [AV.refs] using hr) hi
  refine .own (mono hd) ⟨t,ver',hw,h1,hle,fun e=>?_⟩
  obtain⟨a1,a2,vals,a3,a4⟩:=hx e
  refine⟨a1,a2.trans h2.symm,vals,a3,fun j u hu=>?_⟩
  obtain⟨x,hx1,hx2⟩:=a4 j u hu
  exact⟨x,hx1,mono hx2⟩

theorem V.up {w:World} {β β0:Hd} {L L0:Loc} (hS:∀ b i,Qd w β L b i→Qd w β0 L0 b i) (hid:∀ id o,lk L id=some o→lk L0 id=some o∧β0.at_ id=β.at_ id) {u:AV} {v:Value} (h:V w β L u v):V w β0 L0 u v:=by
 have mono:∀ {u v},D w (Qd w β L) u v→D w (Qd w β0 L0) u v:=fun h=>h.mono fun b i hs=>⟨hS b i hs,rfl⟩
 induction h with
 | data h=>exact .data (mono h)
 | agg hl _ ih=>exact .agg hl ih
 | tup hl _ ih=>exact .tup hl ih
 | fn hl _ ih=>exact .fn hl ih
 | bfn hl _ ih=>exact .bfn hl ih
 | opt _ h0 ih=>exact .opt ih h0
 | ptr hi h=>obtain⟨h1,h2⟩:=hid _ _ hi; exact .ptr h1 (h2.trans h)
 | ms hi h hn hm=>obtain⟨h1,h2⟩:=hid _ _ hi; exact .ms h1 (h2.trans h) hn hm
 | mp hi h=>obtain⟨h1,h2⟩:=hid _ _ hi; exact .mp h1 (h2.trans h)
 | it hi h=>obtain⟨h1,h2⟩:=hid _ _ hi; exact .it h1 (h2.trans h)
 | vec hp hv=>
  obtain⟨t,ver',xs,hi,hle,hx⟩:=hp
  obtain⟨h1,h2⟩:=hid _ _ hi
  exact .vec ⟨t,ver',xs,h1,hle,fun e=>⟨(hx e).1,by rw [h2]; exact(hx e).2⟩⟩ hv
 | vptr hp hv=>
  obtain⟨t,k,ver',xs,hi,hle,hx⟩:=hp
  obtain⟨h1,h2⟩:=hid _ _ hi
  exact .vptr ⟨t,k,ver',xs,h1,hle,fun e=>by rw [h2]; exact hx e⟩ hv
 | vcap hp hv=>
  obtain⟨t,ver',xs,hi,hle,hx⟩:=hp
  obtain⟨h1,h2⟩:=hid _ _ hi
  exact .vcap ⟨t,ver',xs,h1,hle,fun e=>by rw [h2]; exact hx e⟩ hv
 | nst vs hi hle hr0 hpre _ hv ih=>
  obtain⟨h1,h2⟩:=hid _ _ hi
  exact .nst vs h1 hle (fun e=>by rw [h2]; exact hr0 e) (fun e j u x hu hx=>mono (hpre e j u x hu hx)) (fun x e h0 hx=>ih x e h0 hx) hv
 | nptr b vs hi hle hr0 _ hv ih=>
  obtain⟨h1,h2⟩:=hid _ _ hi
  exact .nptr b vs h1 hle (fun e=>by rw [h2]; exact hr0 e) (fun x e hx=>ih x e hx) hv
 | vsl hp hv=>
  obtain⟨t,ver',xs,hi,hle,hx⟩:=hp
  obtain⟨h1,h2⟩:=hid _ _ hi
  exact .vsl ⟨t,ver',xs,h1,hle,fun e=>by rw [h2]; exact hx e⟩ hv
 | own hd hp=>
  obtain⟨t,ver',hw,hi,hle,hx⟩:=hp
  obtain⟨h1,h2⟩:=hid _ _ hi
  refine .own (mono hd) ⟨t,ver',hw,h1,hle,fun e=>?_⟩
  obtain⟨a1,a2,vals,a3,a4⟩:=hx e
  refine⟨a1,a2.trans h2.symm,vals,a3,fun j u hu=>?_⟩
  obtain⟨x,hx1,hx2⟩:=a4 j u hu
  exact⟨x,hx1,mono hx2⟩

theorem Gd9.up {w:World} {β β0:Hd} {L L0:Loc} (hS:∀ b i,Qd w β L b i→Qd w β0 L0 b i) (hid:∀ id o,lk L id=some o→lk L0 id=some o∧β0.at_ id=β.at_ id) {ob:Option Nat} {o:Jt} (h:Gd9 w β L ob o):Gd9 w β0 L0 ob o:=by
 have mono:∀ {u v},D w (Qd w β L) u v→D w (Qd w β0 L0) u v:=fun h=>h.mono fun b i hs=>⟨hS b i hs,rfl⟩
 cases o with
 | box t cs=>
  obtain⟨b,hb,vs,h1,h2,h3⟩:=h
  exact⟨b,hb,vs,h1,h2,fun j u v hu hv=>(h3 j u v hu hv).up hS hid⟩
 | spare t k ver hw=>exact h
 | vec t k ver xs=>
  refine⟨h.1,h.2.imp id ?_⟩
  rintro⟨b,hb,vs,h1,h2,h3⟩
  exact⟨b,hb,vs,h1,h2,fun j u v hu hv=>mono (h3 j u v hu hv)⟩
 | map t es=>
  obtain⟨b,hb,ents,h1,h2,h3⟩:=h
  exact⟨b,hb,ents,h1,h2,fun i e k u he hu=>⟨(h3 i e k u he hu).1,mono (h3 i e k u he hu).2.1,(h3 i e k u he hu).2.2⟩⟩
 | iter m n seen=>
  obtain⟨b,hb,bm,t,es,h1,h2,h3⟩:=h
  exact⟨b,hb,bm,t,es,(hid _ _ h1).1,(hid _ _ h1).2.trans h2,h3⟩

theorem Gd9.down {w:World} {β β0:Hd} {L L0:Loc} (hS:∀ b i,Qd w β L b i→Qd w β0 L0 b i) (hid:∀ id o,lk L0 id=some o→lk L id=some o∧β0.at_ id=β.at_ id) {ob:Option Nat} {o:Jt} (h:Gd9 w β L ob o) (hr:o.refs (inL L0)=true):Gd9 w β0 L0 ob o:=by
 have mono:∀ {u v},D w (Qd w β L) u v→D w (Qd w β0 L0) u v:=fun h=>h.mono fun b i hs=>⟨hS b i hs,rfl⟩
 cases o with
 | box t cs=>
  obtain⟨b,hb,vs,h1,h2,h3⟩:=h
  exact⟨b,hb,vs,h1,h2,fun j u v hu hv=>(h3 j u v hu hv).down hS hid (G37 (by simpa [Jt.refs] using hr) u (Kk hu))⟩
 | spare t k ver hw=>exact h
 | vec t k ver xs=>
  refine⟨h.1,h.2.imp id ?_⟩
  rintro⟨b,hb,vs,h1,h2,h3⟩
  exact⟨b,hb,vs,h1,h2,fun j u v hu hv=>mono (h3 j u v hu hv)⟩
 | map t es=>
  obtain⟨b,hb,ents,h1,h2,h3⟩:=h
  exact⟨b,hb,ents,h1,h2,fun i e k u he hu=>⟨(h3 i e k u he hu).1,mono (h3 i e k u he hu).2.1,(h3 i e k u he hu).2.2⟩⟩
 | iter m n seen=>
  obtain⟨b,hb,bm,t,es,h1,h2,h3⟩:=h
  have hm:inL L0 m=true:=by simpa [Jt.refs] using hr
  obtain⟨o',ho'⟩:=Option.isSome_iff_exists.1 hm
  obtain⟨e1,e2⟩:=hid _ o' ho'
  rw [h1] at e1; cases e1
  exact⟨b,hb,bm,t,es,ho',e2.trans h2,h3⟩

theorem Q3a {P:Program} {f:FuncId} {args:List AV} {L0 L:Loc} {R:AV→Loc→Prop} (hc:Ym P f args L0 R) {w:World} {β:Hd} (hsat:Sat w β L)
  (hsub:∀ id o,lk L0 id=some o→lk L id=some o) (hcl:∀ id o,lk L0 id=some o→o.refs (inL L0)=true) {vs:Array Value} (hl:vs.size=args.length)
  (hv:∀ (j:Nat) u v,args[j]? = some u→vs[j]? = some v→V w β L u v∧u.refs (inL L0)=true)
  (hnew:∀ r L',R r L'→∀ id,inL L' id=true→inL L0 id=true∨lk L id=none) :
  Calls P f vs w fun e w'=>∃ v r β' L',e=.returned v∧R r L'∧Sat w' (H66 β β' L0 L') (H30 L L0 L')∧Step w β L w' (H66 β β' L0 L') (H30 L L0 L')∧V w' (H66 β β' L0 L') (H30 L L0 L') r v:=by
 let β0:Hd:=⟨fun id=>if inL L0 id=true then β.at_ id else none,fun b i=>b < w.heap.size∧¬ Qd w β L b i∧∀ id,inL L0 id=true→β.at_ id≠some b⟩
 have hin:∀ id,inL L0 id=true→∃ o,lk L0 id=some o∧lk L id=some o:=fun id h=>by
  obtain⟨o,ho⟩:=Option.isSome_iff_exists.1 h
  exact⟨o,ho,hsub id o ho⟩
 have b0:∀ id b,β0.at_ id=some b→inL L0 id=true∧β.at_ id=some b:=fun id b h=>by
  by_cases hi:inL L0 id=true
  ·exact⟨hi,by simpa [β0,hi] using h⟩
  ·simp [β0,hi] at h
 have isL:∀ id,inL L0 id=true→(lk L id).isSome=true:=fun id h=>by
  obtain⟨o,_,ho⟩:=hin id h
  rw [ho]; rfl
 have hS:∀ b i,Qd w β L b i→Qd w β0 L0 b i:=fun b i hs=>⟨hs.lt,fun h=>h.2.1 hs,fun id o ho hb=>hs.kept id o (hsub id o ho) (b0 id b hb).2⟩
 have hid:∀ id o,lk L0 id=some o→lk L id=some o∧β0.at_ id=β.at_ id:=fun id o ho=>⟨hsub id o ho,by
  have:inL L0 id=true:=by unfold inL; rw [ho]; rfl
  simp [β0,this]⟩
 have sat0:Sat w β0 L0:=⟨fun b i h=>h.1,fun id b h1 h2=>hsat.bnd id b (isL id h1) (b0 id b h2).2,fun id b j h1 h2 h3=>h3.2.2 id h1 (b0 id b h2).2,
  fun id id' b h1 h2 h3 h4=>hsat.inj id id' b (isL id h1) (isL id' h2) (b0 id b h3).2 (b0 id' b h4).2,
  fun id o ho=>by
   have:=(hsat.obj id o (hsub id o ho)).down hS hid (hcl id o ho)
   rw [(hid id o ho).2]; exact this⟩
 refine(hc w β0 vs sat0 hl (fun j u v hu hv'=>(hv j u v hu hv').1.down hS hid (hv j u v hu hv').2)).mono fun e w' h=>?_
 obtain⟨v,r,β',L',he,sat',st,hvr,hR⟩:=h
 have hnw:=hnew r L' hR
 have hlk:∀ id,lk (H30 L L0 L') id=if inL L' id=true then lk L' id else if inL L0 id=true then none else lk L id:=fun id=>by
  unfold H30; rw [Qa7,Rbb]
 have hat:∀ id,(H66 β β' L0 L').at_ id=if inL L' id=true∨inL L0 id=true then β'.at_ id else β.at_ id:=fun id=>rfl
 have hrest:∀ id o,lk (H30 L L0 L') id=some o→inL L' id=false→inL L0 id=false∧lk L id=some o∧(H66 β β' L0 L').at_ id=β.at_ id:=fun id o h1 h2=>by
  rw [hlk,if_neg (by simp [h2])] at h1
  by_cases h3:inL L0 id=true
  ·rw [if_pos h3] at h1; cases h1
  ·rw [if_neg h3] at h1
   exact⟨by simpa using h3,h1,by rw [hat,if_neg (by simp [h2,h3])]⟩
 have hkeep:∀ id o,lk L id=some o→inL L0 id=false→lk (H30 L L0 L') id=some o∧(H66 β β' L0 L').at_ id=β.at_ id:=fun id o h1 h2=>by
  have h3:inL L' id=false:=by
   cases h3:inL L' id with
   | false=>rfl
   | true=>
    rcases hnw id h3 with h4 | h4
    ·rw [h2] at h4; cases h4
    ·rw [h1] at h4; cases h4
  exact⟨by rw [hlk,if_neg (by simp [h3]),if_neg (by simp [h2])]; exact h1,by rw [hat,if_neg (by simp [h2,h3])]⟩
 have hup:∀ id o,lk L' id=some o→lk (H30 L L0 L') id=some o∧(H66 β β' L0 L').at_ id=β'.at_ id:=fun id o ho=>by
  have:inL L' id=true:=by unfold inL; rw [ho]; rfl
  exact⟨by rw [hlk,if_pos this]; exact ho,by rw [hat,if_pos (.inl this)]⟩
 have hhid:∀ b i,b < w.heap.size→(β'.hid b i ↔ β0.hid b i):=st.hid
 -- what is not hidden from the call is not hidden from the caller's own callers
 have nothid:∀ b i,¬ β'.hid b i→¬ β.hid b i:=fun b i hn hh=>by
  have hb:=hsat.hid b i hh
  rw [hhid b i hb] at hn
  refine hn ⟨hb,fun hs=>hs.seen hh,fun id h1 h2=>hsat.apart id b i (isL id h1) h2 hh⟩
 have farrest:∀ id o b,lk L id=some o→inL L0 id=false→β.at_ id=some b→b < w.heap.size∧(∀ id',inL L0 id'=true→β0.at_ id'≠some b):=fun id o b h1 h2 h3=>by
  refine⟨hsat.bnd id b (by rw [h1]; rfl) h3,fun id' h4 h5=>?_⟩
  have:=hsat.inj id id' b (by rw [h1]; rfl) (isL id' h4) h3 (b0 id' b h5).2
  subst this; rw [h2] at h4; cases h4
 have hSup:∀ b i,Qd w' β' L' b i→Qd w' (H66 β β' L0 L') (H30 L L0 L') b i:=fun b i hs=>by
  refine⟨hs.lt,nothid b i hs.seen,fun id o h1 h2=>?_⟩
  cases h3:inL L' id with
  | true=>
   obtain⟨o',ho'⟩:=Option.isSome_iff_exists.1 h3
   obtain⟨e1,e2⟩:=hup id o' ho'
   rw [h1] at e1; cases e1
   exact hs.kept id _ ho' (e2 ▸ h2)
  | false=>
   obtain⟨r1,r2,r3⟩:=hrest id o h1 h3
   rw [r3] at h2
   obtain⟨f1,f2⟩:=farrest id o b r2 r1 h2
   have hn:=hs.seen
   rw [hhid b i f1] at hn
   have hst:Qd w β L b i:=Classical.byContradiction fun hn'=>hn ⟨f1,hn',fun id' h4 h5=>f2 id' h4 (by simp [β0,h4,h5])⟩
   exact hst.kept id o r2 h2
 have step:Step w β L w' (H66 β β' L0 L') (H30 L L0 L'):=by
  refine⟨st.os,st.tape,st.output,st.size,fun _ _ _=>Iff.rfl,fun b i hs=>?_,fun b hb hf=>?_,fun id t cs h1=>?_,fun id t cs h1=>?_,fun id m n es h1=>?_,fun id t k ver xs h1=>?_,fun id t k ver hw h1=>?_⟩
  ·obtain⟨s1,s2⟩:=st.stab b i (hS b i hs)
   exact⟨hSup b i s1,s2⟩
  ·obtain⟨f1,f2⟩:=st.far b hb (fun id h1 h2=>hf id (isL id h1) (b0 id b h2).2)
   refine⟨f1,fun id h1 h2=>?_⟩
   obtain⟨o,ho⟩:=Option.isSome_iff_exists.1 h1
   cases h3:inL L' id with
   | true=>
    obtain⟨o',ho'⟩:=Option.isSome_iff_exists.1 h3
    exact f2 id h3 ((hup id o' ho').2 ▸ h2)
   | false=>
    obtain⟨r1,r2,r3⟩:=hrest id o ho h3
    exact hf id (by rw [r2]; rfl) (r3 ▸ h2)
  ·cases h2:inL L0 id with
   | true=>
    obtain⟨o,ho,ho'⟩:=hin id h2
    rw [h1] at ho'; cases ho'
    obtain⟨s1,cs',s2⟩:=st.box id t cs ho
    exact⟨(hup id _ s2).2.trans (s1.trans (hid id _ ho).2),cs',(hup id _ s2).1⟩
   | false=>exact⟨(hkeep id _ h1 h2).2,cs,(hkeep id _ h1 h2).1⟩
  ·cases h2:inL L0 id with
   | true=>
    obtain⟨o,ho,ho'⟩:=hin id h2
    rw [h1] at ho'; cases ho'
    obtain⟨s1,cs',s2⟩:=st.map id t cs ho
    exact⟨(hup id _ s2).2.trans (s1.trans (hid id _ ho).2),cs',(hup id _ s2).1⟩
   | false=>exact⟨(hkeep id _ h1 h2).2,cs,(hkeep id _ h1 h2).1⟩
  ·cases h2:inL L0 id with
   | true=>
    obtain⟨o,ho,ho'⟩:=hin id h2
    rw [h1] at ho'; cases ho'
    obtain⟨s1,n',cs',s2⟩:=st.iter id m n es ho
    exact⟨(hup id _ s2).2.trans (s1.trans (hid id _ ho).2),n',cs',(hup id _ s2).1⟩
   | false=>exact⟨(hkeep id _ h1 h2).2,n,es,(hkeep id _ h1 h2).1⟩
  ·cases h2:inL L0 id with
   | true=>
    obtain⟨o,ho,ho'⟩:=hin id h2
    rw [h1] at ho'; cases ho'
    obtain⟨ver',xs',s1,s2,s3⟩:=st.vec id t k ver xs ho
    refine⟨ver',xs',(hup id _ s1).1,s2,fun e=>?_⟩
    obtain⟨q1,q2,q3⟩:=s3 e
    exact⟨q1,(hup id _ s1).2.trans (q2.trans (hid id _ ho).2),fun b hb=>q3 b ((hid id _ ho).2.trans hb)⟩
   | false=>
    refine⟨ver,xs,(hkeep id _ h1 h2).1,Kn,fun _=>⟨rfl,(hkeep id _ h1 h2).2,fun b hb=>?_⟩⟩
    obtain⟨f1,f2⟩:=farrest id _ b h1 h2 hb
    exact G5a (st.far b f1 (fun id' h4=>f2 id' h4)).1
  ·cases h2:inL L0 id with
   | true=>
    obtain⟨o,ho,ho'⟩:=hin id h2
    rw [h1] at ho'; cases ho'
    obtain⟨ver',hw',s1,s2,s3⟩:=st.spare id t k ver hw ho
    refine⟨ver',hw',(hup id _ s1).1,s2,fun e=>?_⟩
    obtain⟨q1,q2,q3⟩:=s3 e
    exact⟨q1,(hup id _ s1).2.trans (q2.trans (hid id _ ho).2),fun b hb=>q3 b ((hid id _ ho).2.trans hb)⟩
   | false=>
    refine⟨ver,hw,(hkeep id _ h1 h2).1,Kn,fun _=>⟨rfl,(hkeep id _ h1 h2).2,fun b hb=>?_⟩⟩
    obtain⟨f1,f2⟩:=farrest id _ b h1 h2 hb
    exact(st.far b f1 (fun id' h4=>f2 id' h4)).1
 refine⟨v,r,β',L',he,hR,?_,step,hvr.up hSup hup⟩
 refine⟨fun b i h=>Nat.lt_of_lt_of_le (hsat.hid b i h) st.size,fun id b h1 h2=>?_,fun id b j h1 h2=>?_,fun id id' b h1 h2 h3 h4=>?_,fun id o ho=>?_⟩
 ·obtain⟨o,ho⟩:=Option.isSome_iff_exists.1 h1
  cases h3:inL L' id with
  | true=>
   obtain⟨o',ho'⟩:=Option.isSome_iff_exists.1 h3
   exact sat'.bnd id b h3 ((hup id o' ho').2 ▸ h2)
  | false=>
   obtain⟨r1,r2,r3⟩:=hrest id o ho h3
   exact Nat.lt_of_lt_of_le (hsat.bnd id b (by rw [r2]; rfl) (r3 ▸ h2)) st.size
 ·obtain⟨o,ho⟩:=Option.isSome_iff_exists.1 h1
  cases h3:inL L' id with
  | true=>
   obtain⟨o',ho'⟩:=Option.isSome_iff_exists.1 h3
   exact nothid b j (sat'.apart id b j h3 ((hup id o' ho').2 ▸ h2))
  | false=>
   obtain⟨r1,r2,r3⟩:=hrest id o ho h3
   exact hsat.apart id b j (by rw [r2]; rfl) (r3 ▸ h2)
 ·have key:∀ id id',inL L' id=true→(H66 β β' L0 L').at_ id=some b→(lk (H30 L L0 L') id').isSome=true→inL L' id'=false→(H66 β β' L0 L').at_ id'=some b→False:=by
   intro id id' h3 h2 h1' h3' h2'
   obtain⟨o',ho'⟩:=Option.isSome_iff_exists.1 h3
   obtain⟨o2,ho2⟩:=Option.isSome_iff_exists.1 h1'
   obtain⟨r1,r2,r3⟩:=hrest id' o2 ho2 h3'
   obtain⟨f1,f2⟩:=farrest id' o2 b r2 r1 (r3 ▸ h2')
   exact(st.far b f1 (fun i h=>f2 i h)).2 id h3 ((hup id o' ho').2 ▸ h2)
  cases e1:inL L' id with
  | true=>
   cases e2:inL L' id' with
   | true=>
    obtain⟨o1,ho1⟩:=Option.isSome_iff_exists.1 e1
    obtain⟨o2,ho2⟩:=Option.isSome_iff_exists.1 e2
    exact sat'.inj id id' b e1 e2 ((hup id o1 ho1).2 ▸ h3) ((hup id' o2 ho2).2 ▸ h4)
   | false=>exact(key id id' e1 h3 h2 e2 h4).elim
  | false=>
   cases e2:inL L' id' with
   | true=>exact(key id' id e2 h4 h1 e1 h3).elim
   | false=>
    obtain⟨o1,ho1⟩:=Option.isSome_iff_exists.1 h1
    obtain⟨o2,ho2⟩:=Option.isSome_iff_exists.1 h2
    obtain⟨_,r2,r3⟩:=hrest id o1 ho1 e1
    obtain⟨_,q2,q3⟩:=hrest id' o2 ho2 e2
    exact hsat.inj id id' b (by rw [r2]; rfl) (by rw [q2]; rfl) (r3 ▸ h3) (q3 ▸ h4)
 ·cases h3:inL L' id with
  | true=>
   obtain⟨o',ho'⟩:=Option.isSome_iff_exists.1 h3
   obtain⟨e1,e2⟩:=hup id o' ho'
   rw [ho] at e1; cases e1
   rw [e2]
   exact(sat'.obj id _ ho').up hSup hup
  | false=>
   obtain⟨r1,r2,r3⟩:=hrest id o ho h3
   rw [r3]
   exact(hsat.obj id o r2).step step (fun b hb=>by
    obtain⟨f1,f2⟩:=farrest id o b r2 r1 hb
    exact(st.far b f1 (fun id' h4=>f2 id' h4)).1)
end Go.Proofs.YthcpolfodgjekaaGreat
