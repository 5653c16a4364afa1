/-
  Calls whose result is known,closures,the small builtins,slicing,and local variables that become fixed.
-/
import Derived.Test.YtecjdioomlhhiaaGreatMapOps
namespace Go.Proofs.YtecjdioomlhhiaaGreat
open Go.RowKit
set_option linter.unusedVariables false
set_option linter.unusedSimpArgs false

section
variable {P:Program} {o:Oper} {l:Fr} {L:Loc} {u:AV}

theorem H1.is {R:AV→Loc→Prop} (h:H1 P o l L R) {L':Loc} (hR:∀ r M,R r M→r=u∧M=L'):H1 P o l L (Is u L'):=
  fun a w β K Q hs hf hK=>h a w β K Q hs hf fun r M v w' β' hr=>hK r M v w' β' (hR r M hr)

theorem Gm {f:FuncId} {xs:List Operand} {args:List AV} {ts:Array TypeId} (ho:o.op=.call { callee:=.value (.func f),args:=xs.toArray,argTypes:=ts }) (hc:Pure P f args (·=u)) (hB:H7 P f=true) (ha:Gb6 l xs args):H1 P o l L (Is u L):=
  (Y48 hc hB ha ho).is fun r M h=>⟨h.2,h.1⟩

theorem Gb3 {f:FuncId} {x:Operand} {xs:List Operand} {args caps:List AV} {ts:Array TypeId} (ho:o.op=.call { callee:=.value x,args:=xs.toArray,argTypes:=ts }) (hx:ev l x=.fn f caps) (hc:Pure P f (args++caps) (·=u)) (hB:H7 P f=true) (ha:Gb6 l xs args) (hcd:G06 (fun _=>false) caps=true):H1 P o l L (Is u L):=
  (Y1b hc hB ha ho hx hcd).is fun r M h=>⟨h.2,h.1⟩

theorem Gcf {f:FuncId} {x:Operand} {xs:List Operand} {args firsts:List AV} {ts:Array TypeId} (ho:o.op=.call { callee:=.value x,args:=xs.toArray,argTypes:=ts }) (hx:ev l x=.bfn f firsts) (hc:Pure P f (firsts++args) (·=u)) (hB:H7 P f=true) (ha:Gb6 l xs args) (hcd:G06 (fun _=>false) firsts=true):H1 P o l L (Is u L):=by
  intro a w β K Q hsat hf hK
  have hv:=hf.ev x
  rw [hx] at hv
  obtain⟨vs,he,hl,hcv⟩:=hv.inv_bfn
  have hr:(execOp a.eval o).run P w=.ok (.enter f (vs++xs.toArray.map a.eval)) w:=by
    simp [execOp,ho,resolve,he,Deferred.ofValue,invoke,H7.out hB]
  unfold Oper.wp
  rw [hr]
  show Calls P f _ w _
  refine(Hf9 hc hsat (vs:=vs++xs.toArray.map a.eval) (by simp [ha.length,hl]) (fun j u v hu hv=>?_)).mono fun e w' h=>?_
  · rcases Nat.lt_or_ge j firsts.length with hj | hj
    · rw [List.getElem?_append_left hj] at hu
      rw [Array.getElem?_append_left (by rw [hl]; exact hj)] at hv
      exact(hcv _ u v hu hv).toD (G27 hcd u (List.mem_of_getElem? hu))
    · rw [List.getElem?_append_right hj] at hu
      rw [Array.getElem?_append_right (by rw [hl]; exact hj),hl] at hv
      simp only [Array.getElem?_map,List.getElem?_toArray,Option.map_eq_some_iff] at hv
      obtain⟨x,hx,rfl⟩:=hv
      obtain⟨h1,h2⟩:=ha.get hx hu
      have:=(hf.ev x).plain
      rw [h1] at this
      exact this.toD h2
  · obtain⟨v,r,rfl,h1,h2,h3,h4⟩:=h
    exact hK r L v w' β ⟨h4,rfl⟩ h1 h2 h3
section small
variable {x y:Operand} {T T':TypeId} {k:IntKind} {m n:Int} {ts:Array TypeId}
theorem Y7e (ho:o.op=.call { callee:=.builtin .min,args:=#[x,y],argTypes:=ts }) (hx:ev l x=.sc (.int k m)) (hy:ev l y=.sc (.int k n)):H1 P o l L (Is (.sc (.int k (min m n))) L):=
  Hq fun a w β hsat hf=>by
    have h1:=hf.ev x
    have h2:=hf.ev y
    rw [hx] at h1; rw [hy] at h2
    refine⟨_,?_,.sc⟩
    have e:(if n < m then n else m)=min m n:=by simp only [Int.min_def]; split <;> split <;> omega
    simp [execOp,ho,resolve,invoke,builtin,Builtin.min_,Builtin.min2,h1.inv_sc,h2.inv_sc,e]
theorem Y79 {k':IntKind} {z:Int} {s:Nat} (hn:n=(s:Int)) (hz:m.fdiv (2 ^ (min s k.bits))=z) (ho:o.op=.binOp .shr T x y T') (hx:ev l x=.sc (.int k m)) (hy:ev l y=.sc (.int k' n)):H1 P o l L (Is (.sc (.int k z)) L):=
  H4b (fun P w=>by
    subst hz; subst hn
    have:¬ ((s:Int) < 0):=by omega
    simp [eqGuard,binOp,Op.shift,this]) hx hy ho
theorem J5b {a b:Bool} (hT:J97 P T=true) (ho:o.op=.binOp .eql T x y T') (hx:ev l x=.sc (.bool a)) (hy:ev l y=.sc (.bool b)):H1 P o l L (Is (.sc (.bool (a==b))) L):=
  Hq fun ac w β hsat hf=>by
    have h1:=hf.ev x
    have h2:=hf.ev y
    rw [hx] at h1; rw [hy] at h2
    refine⟨_,?_,.sc⟩
    simp [execOp,ho,eqGuard,binOp,h1.inv_sc,h2.inv_sc,run_equal_bool w T a b (J97.out hT)]
theorem G91 {f:FuncId} {xs:List Operand} {cs:List AV} (ho:o.op=.makeFunc (.func f) #[] xs.toArray) (hx:xs.map (ev l)=cs):H1 P o l L (Is (.fn f cs) L):=
  Hq fun ac w β hsat hf=>by
    refine⟨.func (.func f) #[] (xs.map ac.eval).toArray,by simp [execOp,ho,Instr.makeFunc],?_⟩
    subst hx
    refine .fn (vs:=(xs.map ac.eval).toArray) (by simp) fun j u v hu hv=>?_
    simp only [List.getElem?_map,Option.map_eq_some_iff,List.getElem?_toArray] at hu hv
    obtain⟨p,hp,rfl⟩:=hu
    obtain⟨q,hq,rfl⟩:=hv
    rw [hp] at hq; cases hq
    exact hf.ev p
theorem G65 {f:FuncId} {xs:List Operand} {cs:List AV} (ho:o.op=.makeFunc (.func f) xs.toArray #[]) (hx:xs.map (ev l)=cs):H1 P o l L (Is (.bfn f cs) L):=
  Hq fun ac w β hsat hf=>by
    refine⟨.func (.func f) (xs.map ac.eval).toArray #[],by simp [execOp,ho,Instr.makeFunc],?_⟩
    subst hx
    refine .bfn (vs:=(xs.map ac.eval).toArray) (by simp) fun j u v hu hv=>?_
    simp only [List.getElem?_map,Option.map_eq_some_iff,List.getElem?_toArray] at hu hv
    obtain⟨p,hp,rfl⟩:=hu
    obtain⟨q,hq,rfl⟩:=hv
    rw [hp] at hq; cases hq
    exact hf.ev p
end small

/-! ### Parts of slices -/
theorem Hff {k:Nat}:∀ {xs:List AV},(∀ x∈xs,x.cells.length=k)→∀ m,flat (xs.drop m)=(flat xs).drop (m*k)
  | [],_,m=>by simp [flat]
  | x::r,h,0=>by simp
  | x::r,h,m+1=>by
    have h1:=h x (by simp)
    rw [List.drop_succ_cons,Hff (fun y hy=>h y (by simp [hy])) m]
    simp only [flat]
    rw [List.drop_append,h1]
    have e:(m+1)*k=k+m*k:=by rw [Nat.succ_mul]; omega
    rw [e]
    have e1:List.drop (k+m*k) x.cells=[]:=by simp [h1]
    rw [e1]; simp
theorem G73 {k:Nat}:∀ {xs:List AV},(∀ x∈xs,x.cells.length=k)→∀ m,flat (xs.take m)=(flat xs).take (m*k)
  | [],_,m=>by simp [flat]
  | x::r,h,0=>by simp [flat]
  | x::r,h,m+1=>by
    have h1:=h x (by simp)
    rw [List.take_succ_cons]
    simp only [flat]
    rw [G73 (fun y hy=>h y (by simp [hy])) m,List.take_append,h1]
    have e:(m+1)*k=k+m*k:=by rw [Nat.succ_mul]; omega
    rw [e]
    have e1:List.take (k+m*k) x.cells=x.cells:=by rw [List.take_of_length_le]; omega
    rw [e1]; simp

theorem D.part {w:World} {S:Nat→Nat→Prop} {k m n:Nat} {xs:List AV} {a:Option Addr} {len cap:Nat} (h:D w S (.list k xs) (.slice a len cap)) (hmn:m≤n) (hn:n≤xs.length) :
    D w S (.list k ((xs.drop m).take (n - m))) (.slice (if cap=m then a else a.map (·.add (m*k))) (n - m) (cap - m)):=by
  have hlen:=h.len
  obtain⟨ao,c,he,hc1,hc2⟩:=hlen
  injection he with e1 e2 e3
  subst e2; subst e3
  rcases Nat.eq_or_lt_of_le hmn with e | hlt
  · subst e
    simp only [Nat.sub_self,List.take_zero]
    exact .nil (by omega)
  · have hne:¬ cap=m:=by omega
    rw [if_neg hne]
    generalize hx:xs=ys at *
    cases h with
    | nil _=>simp at hn; omega
    | @list _ b off _ _ vals hcap hm hk hS h=>
      have hl:(List.take (n - m) (List.drop m ys)).length=n - m:=by simp; omega
      have hfl:flat (List.take (n - m) (List.drop m ys))=((flat ys).drop (m*k)).take ((n - m)*k):=by
        rw [G73 (fun y hy=>hk y (List.mem_of_mem_drop hy)),Hff hk]
      have hfn:=Jd hk
      have hle:m*k+(n - m)*k≤ys.length*k:=by rw [← Nat.add_mul]; exact Nat.mul_le_mul_right _ (by omega)
      have e:(some (⟨b,off,none⟩:Addr)).map (·.add (m*k))=some ⟨b,off+m*k,none⟩:=by simp [Addr.add]
      rw [e]
      have key:D w S (.list k (List.take (n - m) (List.drop m ys))) (.slice (some ⟨b,off+m*k,none⟩) (List.take (n - m) (List.drop m ys)).length (cap - m)):=by
       refine .list (fun j=>vals (m*k+j)) (by omega) (by omega) (fun x hx=>hk x (List.mem_of_mem_drop (List.mem_of_mem_take hx))) (fun j hj=>?_) (fun j u hu=>?_)
       · rw [hfl] at hj
         simp only [List.length_take,List.length_drop] at hj
         have:=hS (m*k+j) (by omega)
         rw [← Nat.add_assoc] at this
         exact this
       · rw [hfl] at hu
         rw [List.getElem?_take] at hu
         split at hu
         · rw [List.getElem?_drop] at hu
           exact h _ u hu
         · cases hu
      rwa [hl] at key

theorem Hf7 {T E k:Nat} (hT:sliceB P T E k=true) (a:Option Addr) (len cap m n:Nat) (lo hi:Option Value) (w:World) (hmn:m≤n) (hn:n≤len) (hc:len≤cap)
    (hlo:(lo=none∧m=0)∨∃ kd,lo=some (.int kd m)) (hhi:(hi=none∧n=len)∨∃ kd,hi=some (.int kd n)) :
    (Instr.sliceAt T (.slice a len cap) lo hi none).run P w=.ok (.slice (if cap=m then a else a.map (·.add (m*k))) (n - m) (cap - m)) w:=by
  obtain⟨h1,h2⟩:=sliceB.out hT
  have h3:=Qr h2 w
  have hb:∀ (kd:IntKind) (i:Nat) (y:Nat) (c:BoundsCode),i≤y→(Instr.sliceBound (.int kd (i:Int)) y c).run P w=.ok i w:=fun kd i y c hi=>by
    have:(0:Int)≤i∧(i:Int)≤y:=⟨by omega,by omega⟩
    simp [Instr.sliceBound,asIntOf,this]
  have hs:(Instr.sliceBounds true len cap lo hi none).run P w=.ok (m,n,cap) w:=by
    rcases hlo with ⟨rfl,rfl⟩ | ⟨kd,rfl⟩ <;> rcases hhi with ⟨rfl,rfl⟩ | ⟨kd',rfl⟩
    · simp [Instr.sliceBounds]
    · simp [Instr.sliceBounds,hb _ n cap _ (by omega)]
    · simp [Instr.sliceBounds,hb _ m n _ hmn]
    · simp [Instr.sliceBounds,hb _ m n _ hmn,hb _ n cap _ (by omega)]
  simp [Instr.sliceAt,Instr.slice,run_underlying h1,hs,h3]

theorem R7b {x:Operand} {T E k m n:Nat} {lo hi:Option Operand} {xs:List AV} (ho:o.op=.slice T x lo hi none) (hT:sliceB P T E k=true) (hx:Qd (ev l x)=some (k,xs))
    (hlo:(lo=none∧m=0)∨∃ kd p,lo=some p∧ev l p=.sc (.int kd m)) (hhi:(hi=none∧n=xs.length)∨∃ kd p,hi=some p∧ev l p=.sc (.int kd n)) (hmn:m≤n) (hn:n≤xs.length) :
    H1 P o l L (Is (.list k ((xs.drop m).take (n - m))) L):=
  Hq fun a w β hsat hf=>by
    have h1:=(hf.ev x).Qd hx
    obtain⟨ao,cap,he,hc1,hc2⟩:=h1.len
    rw [he] at h1
    refine⟨_,?_,.data (h1.part hmn hn)⟩
    simp only [execOp,ho,he,Sem.run_bind,Option.map_none]
    rw [Hf7 hT ao xs.length cap m n _ _ w hmn hn hc1]
    · rfl
    · rcases hlo with ⟨rfl,rfl⟩ | ⟨kd,p,rfl,hp⟩
      · exact .inl ⟨rfl,rfl⟩
      · refine .inr ⟨kd,?_⟩
        have:=hf.ev p; rw [hp] at this
        simp [this.inv_sc]
    · rcases hhi with ⟨rfl,rfl⟩ | ⟨kd,p,rfl,hp⟩
      · exact .inl ⟨rfl,rfl⟩
      · refine .inr ⟨kd,?_⟩
        have:=hf.ev p; rw [hp] at this
        simp [this.inv_sc]
theorem Rb8 {x p:Operand} {T E k n:Nat} {kd:IntKind} {ni:Int} {xs:List AV} (ho:o.op=.slice T x none (some p) none) (hx:Qd (ev l x)=some (k,xs)) (hp:ev l p=.sc (.int kd ni)) (hT:sliceB P T E k=true) (hn:ni=(n:Int)) (hmn:n≤xs.length) :
    H1 P o l L (Is (.list k (xs.take n)) L):=by
  subst hn
  have h:=R7b (L:=L) (m:=0) ho hT hx (.inl ⟨rfl,rfl⟩) (.inr ⟨kd,p,rfl,hp⟩) (Nat.zero_le _) hmn
  simpa using h
end

/-! ### A local variable that is not written any more -/
inductive Frz (i:Nat) (cs:List AV) (ok:Nat→Bool):AV→AV→Prop
  | conv {u u':AV} (h:Conv ok u u'):Frz i cs ok u u'
  | ptr {off:Nat}:Frz i cs ok (.ptr i off) (.dptr (cs.drop off))
def R4c (i:Nat) (cs:List AV) (ok:Nat→Bool) (l:Fr):Fr→Prop
  | []=>True
  | (t,u)::r=>Frz i cs ok (look l t) u∧R4c i cs ok l r
theorem R4c.get {i:Nat} {cs:List AV} {ok:Nat→Bool} {l:Fr}:∀ {l':Fr},R4c i cs ok l l'→∀ t,Frz i cs ok (look l t) (look l' t)
  | [],_,t=>.conv .junk
  | (t',u)::r,h,t=>by
    by_cases e:t'=t
    · subst e; simpa [look] using h.1
    · have hb:Nat.beq t' t=false:=by
        cases hb:Nat.beq t' t with
        | false=>rfl
        | true=>exact absurd (Nat.eq_of_beq_eq_true hb) e
      simpa [look,hb] using h.2.get t

theorem V.freeze {w:World} {β:H5} {L L':Loc} {i off:Nat} {t:TypeId} {cs:List AV} (hsat:Sat w β L) (hi:lk L i=some (.box t cs)) (hd:G06 (fun _=>false) cs=true) (hdr:J32 L L') (hi':lk L' i=none) {v:Value}
    (h:V w β L (.ptr i off) v):V w β L' (.dptr (cs.drop off)) v:=by
  obtain⟨b,hb,rfl⟩:=h.inv_ptr
  obtain⟨vs,h1,h2,h3⟩:=He5 hsat hi hb
  have hlt:b < w.heap.size:=hsat.bnd i b (by rw [hi]; rfl) hb
  refine .data (.dptr (fun j=>(vs[off+j]?).getD undef) (fun j hj=>⟨⟨hlt,hsat.apart i b _ (by rw [hi]; rfl) hb,fun id o' ho' hb'=>?_⟩,?_⟩) (fun j u hu=>?_))
  · obtain⟨o1,ho1,_⟩:=hdr.like id o' ho'
    have:=hsat.inj id i b (by rw [ho1]; rfl) (by rw [hi]; rfl) hb' hb
    subst this
    rw [hi'] at ho'; cases ho'
  · simp only [List.length_drop] at hj
    have hj':off+j < vs.size:=by omega
    simp [World.cell?,h1,hj']
  · rw [List.getElem?_drop] at hu
    have hj':off+j < vs.size:=by rw [h2]; exact(List.getElem?_eq_some_iff.1 hu).1
    have hv:=h3 (off+j) u vs[off+j] hu (by simp [hj'])
    have hm:u∈cs:=List.mem_of_getElem? hu
    have hD:=(hv.toD (G27 hd u hm)).mono (S':=Jy w β L') fun b' i' hs=>⟨hdr.stab hs,rfl⟩
    simpa [hj'] using hD

theorem Yt.freeze {N:Cfg} {w0 w:World} {β0 β:H5} {L0 L L':Loc} {a:Act} {l l':Fr} (hs:Yt N w0 β0 L0 a w β l L) (i:Nat) {t:TypeId} {cs:List AV} (hi:lk L i=some (.box t cs)) (hd:G06 (fun _=>false) cs=true)
    (hi':lk L' i=none) (hl:Gea (fun j=>(lk L' j).isSome) L L') (hb:allIn L' N.base=true) (hf:R4c i cs (fun j=>(lk L' j).isSome) l l'):Yt N w0 β0 L0 a w β l' L':=by
  have hfit:Fits N.base l L [] L':=⟨trivial,hl,hb⟩
  have h1:=hs.fits hfit
  refine⟨h1.sat,h1.step,⟨fun t'=>?_⟩,h1.size,h1.base,h1.defers⟩
  have hv:=hs.frame.tmp t'
  generalize hu:look l t'=u at hv
  have hz:=hf.get t'
  rw [hu] at hz
  generalize look l' t'=u' at hz
  cases hz with
  | conv hc=>exact hv.conv hfit.drop hc
  | ptr=>exact hv.freeze hs.sat hi hd hfit.drop hi'
theorem Gx {P:Program} {N:Cfg} {c:Code} {Q:Post} {l:Fr} {L:Loc} (l':Fr) (L':Loc) (i:Nat) {t:TypeId} {cs:List AV} (hi:lk L i=some (.box t cs)) (hd:G06 (fun _=>false) cs=true)
    (hi':lk L' i=none) (hl:Gea (fun j=>(lk L' j).isSome) L L') (hb:allIn L' N.base=true) (hf:R4c i cs (fun j=>(lk L' j).isSome) l l') (hk:JC P N c Q l' L'):JC P N c Q l L:=
  fun n w0 β0 L0 a w β hs=>hk n w0 β0 L0 a w β (hs.freeze i hi hd hi' hl hb hf)
end Go.Proofs.YtecjdioomlhhiaaGreat
