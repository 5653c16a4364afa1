/-
 Calls by contract; new slices; append; structs built. Small lemmas that the walks use at every turn. Slices that the call makes itself: the nil slice to be appended to,append,literals; parts of tuples; slices of slices. Slices laid out in the text; slices of slices. A statement whose operations may be carried out in more than one order: if each of them does the same wherever it may come,the order is of no account. Maps of the call's own: made,looked into,written,ranged over.
-/
import Derived.Test.YthcpolfodgjekaaGreatFlow
import Derived.IntWalk
import Derived.Orders
import Derived.DeepKeys5
import Derived.Laws.StructEq
namespace Go.Proofs.YthcpolfodgjekaaGreat
open Go.RowKit

/-! ### A call of a function that knows nothing of the local objects -/
mutual
def AV.plain:AV→AV
 | .own _ _ k xs=>.list k xs
 | .agg cs=>.agg (H2d cs)
 | u=>u
def H2d:List AV→List AV
 | []=>[]
 | u::r=>u.plain::H2d r
end
theorem J17:∀ {cs:List AV} {j:Nat} {u:AV},(H2d cs)[j]? = some u→∃ x,cs[j]? = some x∧u=x.plain
 | [],j,u,h=>by simp [H2d] at h
 | c::r,0,u,h=>by simp [H2d] at h; exact⟨c,rfl,h.symm⟩
 | c::r,j+1,u,h=>by
  simp only [H2d,List.getElem?_cons_succ] at h
  obtain⟨x,hx,e⟩:=J17 (cs:=r) (j:=j) h
  exact⟨x,by simpa using hx,e⟩
theorem Gc0:∀ {cs:List AV},(H2d cs).length=cs.length
 | []=>rfl
 | c::r=>by simp [H2d,Gc0 (cs:=r)]

def AV.isData (u:AV):Bool:=u.refs (fun _=>false)

theorem V.toD {w:World} {β:Hd} {L:Loc} {u:AV} {v:Value} (h:V w β L u v):u.isData=true→D w (Qd w β L) u v:=by
 have mem:∀ {cs:List AV},G2c (fun _=>false) cs=true→∀ (j:Nat) u,cs[j]? = some u→u.isData=true:=
  fun h j u hu=>G37 h u (Kk hu)
 induction h with
 | data h=>exact fun _=>h
 | agg hl _ ih=>exact fun hr=>.agg hl fun j u v hu hv=>ih j u v hu hv (mem (by simpa [AV.isData,AV.refs] using hr) j u hu)
 | tup hl _ ih=>exact fun hr=>.tup hl fun j u v hu hv=>ih j u v hu hv (mem (by simpa [AV.isData,AV.refs] using hr) j u hu)
 | fn hl _ ih=>exact fun hr=>.fn hl fun j u v hu hv=>ih j u v hu hv (mem (by simpa [AV.isData,AV.refs] using hr) j u hu)
 | bfn hl _ ih=>exact fun hr=>.bfn hl fun j u v hu hv=>ih j u v hu hv (mem (by simpa [AV.isData,AV.refs] using hr) j u hu)
 | opt _ h0 ih=>exact fun hr=>.opt (fun e=>ih e (by simpa [AV.isData,AV.refs] using hr)) h0
 | ptr=>exact fun hr=>by simp [AV.isData,AV.refs] at hr
 | ms=>exact fun hr=>by simp [AV.isData,AV.refs] at hr
 | mp=>exact fun hr=>by simp [AV.isData,AV.refs] at hr
 | it=>exact fun hr=>by simp [AV.isData,AV.refs] at hr
 | vptr=>exact fun hr=>by simp [AV.isData,AV.refs] at hr
 | vsl=>exact fun hr=>by simp [AV.isData,AV.refs] at hr
 | vcap=>exact fun hr=>by simp [AV.isData,AV.refs] at hr
 | nst=>exact fun hr=>by simp [AV.isData,AV.refs] at hr
 | nptr=>exact fun hr=>by simp [AV.isData,AV.refs] at hr
 | vec=>exact fun hr=>by simp [AV.isData,AV.refs] at hr
 | own=>exact fun hr=>by simp [AV.isData,AV.refs] at hr

theorem D.plain {w:World} {S:Nat→Nat→Prop} {u:AV} {v:Value} (h:D w S u v):D w S u.plain v:=by
 induction h with
 | junk=>exact .junk
 | sc=>exact .sc
 | agg hl _ ih=>
  refine .agg (by rw [Gc0]; exact hl) fun j u v hu hv=>?_
  obtain⟨x,hx,rfl⟩:=J17 hu
  exact ih j x v hx hv
 | tup hl h _=>exact .tup hl h
 | nil h=>exact .nil h
 | list vals hcap hm hk hS h _=>exact .list vals hcap hm hk hS h
 | lnil h=>exact .lnil h
 | lst vals hcap hm hk hS h _=>exact .lst vals hcap hm hk hS h
 | dptr vals hS h _=>exact .dptr vals hS h
 | fn hl h _=>exact .fn hl h
 | bfn hl h _=>exact .bfn hl h
 | opt h h0 _=>exact .opt h h0
theorem V.plain {w:World} {β:Hd} {L:Loc} {u:AV} {v:Value} (h:V w β L u v):V w β L u.plain v:=by
 induction h with
 | data h=>exact .data h.plain
 | agg hl _ ih=>
  refine .agg (by rw [Gc0]; exact hl) fun j u v hu hv=>?_
  obtain⟨x,hx,rfl⟩:=J17 hu
  exact ih j x v hx hv
 | own hd hp=>exact .data hd
 | tup hl h _=>exact .tup hl h
 | ptr hi h=>exact .ptr hi h
 | ms hi h hn hm=>exact .ms hi h hn hm
 | it hi h=>exact .it hi h
 | vec hp hv=>exact .vec hp hv
 | vptr hp hv=>exact .vptr hp hv
 | vsl hp hv=>exact .vsl hp hv
 | vcap hp hv=>exact .vcap hp hv
 | nst vs hi hle hr hpre hlast hv _=>exact .nst vs hi hle hr hpre hlast hv
 | nptr b vs hi hle hr hu hv _=>exact .nptr b vs hi hle hr hu hv
 | mp hi h=>exact .mp hi h
 | fn hl h _=>exact .fn hl h
 | bfn hl h _=>exact .bfn hl h
 | opt h h0 _=>exact .opt h h0

theorem V.data_of_nil {w:World} {β:Hd} {u:AV} {v:Value} (h:V w β [] u v):D w (Qd w β []) u v:=by
 induction h with
 | data h=>exact h
 | agg hl _ ih=>exact .agg hl ih
 | tup hl _ ih=>exact .tup hl ih
 | fn hl _ ih=>exact .fn hl ih
 | bfn hl _ ih=>exact .bfn hl ih
 | opt _ h0 ih=>exact .opt ih h0
 | ptr hi=>simp [lk] at hi
 | ms hi=>simp [lk] at hi
 | mp hi=>simp [lk] at hi
 | it hi=>simp [lk] at hi
 | vptr hp=>obtain⟨_,_,_,_,hi,_⟩:=hp; simp [lk] at hi
 | vsl hp=>obtain⟨_,_,_,hi,_⟩:=hp; simp [lk] at hi
 | vcap hp=>obtain⟨_,_,_,hi,_⟩:=hp; simp [lk] at hi
 | nst vs hi=>simp [lk] at hi
 | nptr _ vs hi=>simp [lk] at hi
 | vec hp=>obtain⟨_,_,_,hi,_⟩:=hp; simp [lk] at hi
 | own _ hp=>obtain⟨_,_,_,hi,_⟩:=hp; simp [lk] at hi

def Gd0 (l:Fr):List Operand→List AV→Prop
 | [],[]=>True
 | x::r,u::s=>(ev l x).plain=u∧u.isData=true∧Gd0 l r s
 | _,_=>False

theorem Gd0.length {l:Fr}:∀ {xs:List Operand} {us:List AV},Gd0 l xs us→xs.length=us.length
 | [],[],_=>rfl
 | _::_,_::_,h=>by simp [Gd0.length h.2.2]
 | [],_::_,h=>h.elim
 | _::_,[],h=>h.elim

theorem Gd0.get {l:Fr}:∀ {xs:List Operand} {us:List AV},Gd0 l xs us→∀ {j:Nat} {x:Operand} {u:AV},xs[j]? = some x→us[j]? = some u→(ev l x).plain=u∧u.isData=true
 | x::r,u::s,h,j,x',u',hx,hu=>by
  cases j with
  | zero=>simp at hx hu; subst hx; subst hu; exact⟨h.1,h.2.1⟩
  | succ j=>simp at hx hu; exact h.2.2.get hx hu
 | [],[],_,j,_,_,hx,_=>by simp at hx
 | [],_::_,h,_,_,_,_,_=>h.elim
 | _::_,[],h,_,_,_,_,_=>h.elim

def Pure (P:Program) (f:FuncId) (args:List AV) (R:AV→Prop):Prop:=Ym P f args [] (fun r L'=>L'=[]∧R r)

theorem J16 {P:Program} {f:FuncId} {args:List AV} {R:AV→Prop} (hc:Pure P f args R) {w:World} {β:Hd} {L:Loc} (hsat:Sat w β L) {vs:Array Value} (hl:vs.size=args.length)
  (hv:∀ (j:Nat) u v,args[j]? = some u→vs[j]? = some v→D w (Qd w β L) u v) :
  Calls P f vs w fun e w'=>∃ v r,e=.returned v∧Sat w' β L∧Step w β L w' β L∧V w' β L r v∧R r:=by
 have hmono:∀ b i,Qd w β L b i→Qd w ⟨fun _=>none,fun b i=>¬ Qd w β L b i∧b < w.heap.size⟩ [] b i:=fun b i hs=>⟨hs.lt,fun h=>h.1 hs,fun id o h=>by simp [lk] at h⟩
 refine(hc w ⟨fun _=>none,fun b i=>¬ Qd w β L b i∧b < w.heap.size⟩ vs ⟨fun b i h=>h.2,fun id b h=>by simp [lk] at h,fun id b j h=>by simp [lk] at h,fun id id' b h=>by simp [lk] at h,fun id o h=>by simp [lk] at h⟩ hl
  (fun j u v hu hv'=>.data ((hv j u v hu hv').mono fun b i hs=>⟨hmono b i hs,rfl⟩))).mono fun e w' h=>?_
 obtain⟨v,r,β',L',he,hsat',hst,hvr,rfl,hR⟩:=h
 have far:∀ b,b < w.heap.size→w'.heap[b]? = w.heap[b]? := fun b hb=>(hst.far b hb (fun id h=>by simp [lk] at h)).1
 have stab:∀ b i,Qd w β L b i→Qd w' β L b i:=fun b i hs=>⟨Nat.lt_of_lt_of_le hs.lt hst.size,hs.seen,hs.kept⟩
 have step:Step w β L w' β L:=⟨hst.os,hst.tape,hst.output,hst.size,fun _ _ _=>Iff.rfl,fun b i hs=>⟨stab b i hs,World.cell?_of_block (w:=w) (far b hs.lt)⟩,fun b hb hf=>⟨far b hb,hf⟩,
  fun _ _ cs h=>⟨rfl,cs,h⟩,fun _ _ cs h=>⟨rfl,cs,h⟩,fun _ _ n cs h=>⟨rfl,n,cs,h⟩,fun id _ _ ver xs h=>⟨ver,xs,h,Kn,fun _=>⟨rfl,rfl,fun b hb=>G5a (far b (hsat.bnd id b (by rw [h]; rfl) hb))⟩⟩,fun id _ _ ver hw h=>⟨ver,hw,h,Kn,fun _=>⟨rfl,rfl,fun b hb=>far b (hsat.bnd id b (by rw [h]; rfl) hb)⟩⟩⟩
 refine⟨v,r,he,⟨fun b i h=>Nat.lt_of_lt_of_le (hsat.hid b i h) hst.size,fun id b h1 h2=>Nat.lt_of_lt_of_le (hsat.bnd id b h1 h2) hst.size,hsat.apart,hsat.inj,fun id o h=>(hsat.obj id o h).step step (fun b hb=>far b (hsat.bnd id b (by rw [h]; rfl) hb))⟩,step,?_,hR⟩
 refine .data (hvr.data_of_nil.mono fun b i hs=>⟨?_,rfl⟩)
 rcases Nat.lt_or_ge b w.heap.size with hb | hb
 ·have:¬ (¬ Qd w β L b i∧b < w.heap.size):=by have:=hs.seen; rwa [hst.hid b i hb] at this
  exact stab b i (Classical.byContradiction fun hn=>this ⟨hn,hb⟩)
 ·exact⟨hs.lt,fun h=>by have:=hsat.hid b i h; omega,fun id o h1 h2=>by have:=hsat.bnd id b (by rw [h1]; rfl) h2; omega⟩

theorem Hf.out {P:Program} {f:FuncId} (h:Hf P f=true) (args:Array Value) (w:World):(callFunc f args).run P w=.ok (.enter f args) w:=by
 unfold Hf at h
 split at h
 ·rename_i fn hf
  simp only [Kq,Bool.not_eq_true',beq_eq_false_iff_ne,ne_eq] at h
  obtain⟨c,hc⟩:=Option.isSome_iff_exists.1 h.2
  simp [callFunc,hf,h.1,hc]
 ·cases h

section call
variable {P:Program} {o:Oper} {l:Fr} {L:Loc}

theorem Y9b {f:FuncId} {xs:List Operand} {args:List AV} {ts:Array TypeId} {R:AV→Prop} (hc:Pure P f args R) (hB:Hf P f=true) (ha:Gd0 l xs args) (ho:o.op=.call { callee:=.value (.func f),args:=xs.toArray,argTypes:=ts }:=by rfl):H5 P o l L (fun r L'=>L'=L∧R r):=by
 intro a w β K Q hsat hf hK
 have hr:(execOp a.eval o).run P w=.ok (.enter f (xs.toArray.map a.eval)) w:=by
  simp [execOp,ho,resolve,Act.eval,Deferred.ofValue,invoke,Hf.out hB]
 unfold Oper.wp
 rw [hr]
 show Calls P f _ w _
 refine(J16 hc hsat (vs:=xs.toArray.map a.eval) (by simp [ha.length]) (fun j u v hu hv=>?_)).mono fun e w' h=>?_
 ·simp only [Array.getElem?_map,List.getElem?_toArray,Option.map_eq_some_iff] at hv
  obtain⟨x,hx,rfl⟩:=hv
  obtain⟨h1,h2⟩:=ha.get hx hu
  have:=(hf.ev x).plain
  rw [h1] at this
  exact this.toD h2
 ·obtain⟨v,r,rfl,h1,h2,h3,h4⟩:=h
  exact hK r L v w' β ⟨rfl,h4⟩ h1 h2 h3

theorem Y71 {f:FuncId} {x:Operand} {xs:List Operand} {args caps:List AV} {ts:Array TypeId} {R:AV→Prop} (hc:Pure P f (args++caps) R) (hB:Hf P f=true) (ha:Gd0 l xs args) (ho:o.op=.call { callee:=.value x,args:=xs.toArray,argTypes:=ts }:=by rfl) (hx:ev l x=.fn f caps:=by rfl) (hcd:G2c (fun _=>false) caps=true:=by rfl):H5 P o l L (fun r L'=>L'=L∧R r):=by
 intro a w β K Q hsat hf hK
 have hv:=hf.ev x
 rw [hx] at hv
 obtain⟨vs,he,hl,hcv⟩:=hv.inv_fn
 have hr:(execOp a.eval o).run P w=.ok (.enter f (xs.toArray.map a.eval++vs)) w:=by
  simp [execOp,ho,resolve,he,Deferred.ofValue,invoke,Hf.out hB]
 unfold Oper.wp
 rw [hr]
 show Calls P f _ w _
 refine(J16 hc hsat (vs:=xs.toArray.map a.eval++vs) (by simp [ha.length,hl]) (fun j u v hu hv=>?_)).mono fun e w' h=>?_
 ·rcases Nat.lt_or_ge j args.length with hj | hj
  ·rw [List.getElem?_append_left hj] at hu
   rw [Array.getElem?_append_left (by simp [ha.length]; exact hj)] at hv
   simp only [Array.getElem?_map,List.getElem?_toArray,Option.map_eq_some_iff] at hv
   obtain⟨x,hx,rfl⟩:=hv
   obtain⟨h1,h2⟩:=ha.get hx hu
   have:=(hf.ev x).plain
   rw [h1] at this
   exact this.toD h2
  ·rw [List.getElem?_append_right hj] at hu
   rw [Array.getElem?_append_right (by simp [ha.length]; exact hj)] at hv
   simp only [Array.size_map,List.size_toArray,ha.length] at hv
   exact(hcv _ u v hu hv).toD (G37 hcd u (Kk hu))
 ·obtain⟨v,r,rfl,h1,h2,h3,h4⟩:=h
  exact hK r L v w' β ⟨rfl,h4⟩ h1 h2 h3
end call

/-! ### Slices that are laid out in the text -/
section unnamed
variable {w:World} {β:Hd} {L:Loc}
theorem Step.new (hsat:Sat w β L) (o:Obj):Step w β L (w.alloc o) β L:=
 ⟨rfl,rfl,⟨rfl,Kn⟩,by simp,fun _ _ _=>Iff.rfl,fun b i hs=>⟨⟨by have:=hs.lt; simp; omega,hs.seen,hs.kept⟩,World.cell?_of_block (w:=w) (Qo w o hs.lt)⟩,fun b hb hf=>⟨Qo w o hb,hf⟩,
  fun _ _ cs h=>⟨rfl,cs,h⟩,fun _ _ cs h=>⟨rfl,cs,h⟩,fun _ _ n cs h=>⟨rfl,n,cs,h⟩,fun id _ _ ver xs h=>⟨ver,xs,h,Kn,fun _=>⟨rfl,rfl,fun b hb=>G5a (Qo w o (hsat.bnd id b (by rw [h]; rfl) hb))⟩⟩,fun id _ _ ver hw h=>⟨ver,hw,h,Kn,fun _=>⟨rfl,rfl,fun b hb=>Qo w o (hsat.bnd id b (by rw [h]; rfl) hb)⟩⟩⟩
theorem Sat.new (hsat:Sat w β L) (o:Obj):Sat (w.alloc o) β L:=
 ⟨fun b i h=>by have:=hsat.hid b i h; simp; omega,fun id b h1 h2=>by have:=hsat.bnd id b h1 h2; simp; omega,hsat.apart,hsat.inj,
  fun id ob h=>(hsat.obj id ob h).step (Step.new hsat o) (fun b hb=>Qo w o (hsat.bnd id b (by rw [h]; rfl) hb))⟩
theorem Qd.new (hsat:Sat w β L) (o:Obj) (i:Nat):Qd (w.alloc o) β L w.heap.size i:=
 ⟨by simp,fun h=>by have:=hsat.hid _ _ h; omega,fun id ob h1 h2=>by have:=hsat.bnd id _ (by rw [h1]; rfl) h2; omega⟩
end unnamed

theorem Jc8:∀ (vs:List Value) (off s:Nat) (cells:Array Value),off+s+vs.length≤cells.size →
  ((vs.zipIdx s).foldl (fun cs (p:Value×Nat)=>cs.setIfInBounds (off+p.2) p.1) cells).toList=cells.toList.take (off+s)++vs++cells.toList.drop (off+s+vs.length)
 | [],off,s,cells,_=>by simp
 | v::r,off,s,cells,h=>by
  simp only [List.zipIdx_cons,List.foldl_cons]
  rw [Jc8 r off (s+1) (cells.setIfInBounds (off+s) v) (by simp at h ⊢; omega)]
  have e:=list_seg_step cells.toList (off+s) v r (by simp at h ⊢; omega)
  simpa [Array.toList_setIfInBounds,Nat.add_assoc] using e

theorem R82 (v:Value) (off:Nat) (cells:Array Value) (h:off+v.cells.size≤cells.size) :
  (v.cells.zipIdx.foldl (fun cs (p:Value×Nat)=>cs.setIfInBounds (off+p.2) p.1) cells).toList=cells.toList.take off++v.cells.toList++cells.toList.drop (off+v.cells.size):=by
 rw [← Array.foldl_toList]
 have:=Jc8 v.cells.toList off 0 cells (by simpa using h)
 simpa [Array.toList_zipIdx] using this

def H97 (place:Nat→Option (Nat×Nat)) (cells:List AV):List (Nat×AV)→Option (List AV)
 | []=>some cells
 | (i,u)::r=>
  match place i with
  | none=>none
  | some (off,size)=>bif Nat.beq u.cells.length size&&Nat.ble (off+size) cells.length&&u.flatOk then H97 place (cells.take off++u.cells++cells.drop (off+size)) r else none

theorem H89 {w:World} {β:Hd} {L:Loc} {place:Nat→Option (Nat×Nat)}:∀ {ps:List (Nat×AV)} {qs:List (Nat×Value)} {cells:List AV} {vs:Array Value} {out:List AV},
  H97 place cells ps=some out→ps.length=qs.length→(∀ (j:Nat) p q,ps[j]? = some p→qs[j]? = some q→p.1=q.1∧V w β L p.2 q.2)→vs.size=cells.length →
  (∀ (j:Nat) u v,cells[j]? = some u→vs[j]? = some v→V w β L u v) →
  ∃ vs',Instr.fill place vs qs=some vs'∧vs'.size=out.length∧∀ (j:Nat) u v,out[j]? = some u→vs'[j]? = some v→V w β L u v
 | [],[],cells,vs,out,h,_,_,hs,hv=>by simp [H97] at h; subst h; exact⟨vs,rfl,hs,hv⟩
 | [],_::_,_,_,_,_,hl,_,_,_=>by simp at hl
 | _::_,[],_,_,_,_,hl,_,_,_=>by simp at hl
 | (i,u)::r,(i',v)::s,cells,vs,out,h,hl,hp,hs,hv=>by
  obtain⟨he,hvu⟩:=hp 0 (i,u) (i',v) rfl rfl
  simp only at he hvu
  subst he
  simp only [H97] at h
  cases hpl:place i with
  | none=>rw [hpl] at h; cases h
  | some q=>
   obtain⟨off,size⟩:=q
   rw [hpl] at h
   simp only at h
   cases hc:(Nat.beq u.cells.length size&&Nat.ble (off+size) cells.length&&u.flatOk) with
   | false=>rw [hc] at h; cases h
   | true=>
    rw [hc] at h
    simp only [cond_true] at h
    simp only [Kq,Nat.ble_eq] at hc
    obtain⟨⟨h1,h2⟩,h3⟩:=hc
    have h1:=Nat.eq_of_beq_eq_true h1
    obtain⟨c1,c2,c3⟩:=hvu.cells h3
    have hsz:v.cells.size=size:=c1.trans h1
    have hsp:=R82 v off vs (by omega)
    obtain⟨vs',e1,e2,e3⟩:=H89 (w:=w) (β:=β) (L:=L) (qs:=s) (vs:=v.cells.zipIdx.foldl (fun cs (p:Value×Nat)=>cs.setIfInBounds (off+p.2) p.1) vs) h (by simpa using hl) (fun j p q hp' hq'=>hp (j+1) p q (by simpa using hp') (by simpa using hq'))
     (by rw [← Array.length_toList,hsp]; simp only [Ko,List.length_take,List.length_drop,Array.length_toList]; omega)
     (fun j u' v' hu' hv'=>by
      rw [← Array.getElem?_toList,hsp,hsz] at hv'
      exact Q9a (cs:=cells) (us:=u.cells) (old:=vs.toList) (ws:=v.cells.toList) (off:=off) (k:=size) (by simpa using hs) (by simpa using c1) h1 h2
       (fun j u v hu hv'=>hv j u v hu (by simpa using hv')) (fun j u v hu hv'=>c2 j u v hu (by simpa using hv')) j u' v' hu' hv')
    refine⟨vs',?_,e2,e3⟩
    simp only [Instr.fill,hpl]
    rw [if_neg (by simp [hsz]; omega)]
    exact e1

def placesOf (P:Program) (T:TypeId):Option (List (Nat×Nat)):=
 match P.underlying T with
 | some (.struct fs)=>fs.toList.mapM fun f=>(P.info? f.type).map fun i=>(f.offset,i.size)
 | _=>none

theorem run_places {P:Program} {w:World}:∀ (fs:List Field) (ps:List (Nat×Nat)),fs.mapM (fun f=>(P.info? f.type).map fun i=>(f.offset,i.size))=some ps →
  (fs.mapM (fun f=>Prod.mk f.offset <$> sizeOf f.type:Field→Sem (Nat×Nat))).run P w=.ok ps w
 | [],ps,h=>by simp at h; subst h; rfl
 | f::r,ps,h=>by
  simp only [List.mapM_cons,Option.bind_eq_bind,Option.pure_def,Option.bind_eq_some_iff,Option.some.injEq] at h
  obtain⟨p,hp,qs,hq,rfl⟩:=h
  simp only [Option.map_eq_some_iff] at hp
  obtain⟨i,hi,rfl⟩:=hp
  have ih:=run_places (w:=w) r qs hq
  simp only [List.mapM_cons,Sem.run_bind,Sem.run_map,sizeOf,typeInfo,run_program,Result.andThen_ok,hi,Sem.run_pure]
  simp only [sizeOf,typeInfo] at ih
  rw [ih]
  rfl

section build
variable {P:Program} {o:Oper} {l:Fr} {L:Loc}

end build

theorem Je8 {n:Int} (h1 : -9223372036854775808≤n) (h2:n≤9223372036854775807):IntKind.i64.wrap n=n:=IntWalk.i64_in n ⟨h1,h2⟩
theorem Y20:∀ id,(lk [] id).isSome=true→id∈([]:List Nat):=fun id h=>by simp [lk] at h
abbrev I64 (n:Int):AV:=.sc (.int .i64 n)
abbrev U8 (n:Int):AV:=.sc (.int .u8 n)
abbrev BL (b:Bool):AV:=.sc (.bool b)

section mem
variable {P:Program} {o:Oper} {l:Fr} {L:Loc} {u:AV}

theorem H4 {x:Operand} {n:Nat} {cs:List AV} (ho:o.op=.extract x n) (hx:ev l x=.tup cs) (hn:cs[n]? = some u):H5 P o l L (Is u L):=
 Hx fun a w β _ hf=>by
  have h1:=hf.ev x
  rw [hx] at h1
  obtain⟨vs,he,hl,hv⟩:=h1.inv_tup
  have hlt:n < vs.size:=by
   rw [hl]
   rcases Nat.lt_or_ge n cs.length with h | h
   ·exact h
   ·simp [List.getElem?_eq_none h] at hn
  exact⟨vs[n],by simp [execOp,ho,Instr.extract,he,hlt],hv n u _ hn (by simp [hlt])⟩

/-! ### The nil slice that is going to be appended to -/
theorem G12 (i E k:Nat) {x:Operand} (ho:o.op=.assign x) (hx:ev l x=.sc (.slice none 0 0)) (hi:lk L i=none):H5 P o l L (Is (.own i 0 k []) ((i,.spare E k 0 0)::L)):=by
 intro a w β K Q hsat hf hK
 have hv:=hf.ev x
 rw [hx] at hv
 have hr:(execOp a.eval o).run P w=.ok (.value (.slice none 0 0)) w:=by simp [execOp,ho,hv.inv_sc]
 unfold Oper.wp
 rw [hr]
 have hne:∀ id,(lk L id).isSome=true→i≠id:=fun id h e=>by subst e; rw [hi] at h; cases h
 have st:Step w β L w (upP β i none) ((i,.spare E k 0 0)::L):=by
  refine⟨rfl,rfl,⟨rfl,Kn⟩,Kn,fun _ _ _=>Iff.rfl,fun b j hs=>⟨⟨hs.lt,hs.seen,fun id ob hid hb=>?_⟩,rfl⟩,fun b hb hfar=>⟨rfl,fun id hid e=>?_⟩,fun id t cs hid=>?_,fun id t cs hid=>?_,fun id t n cs hid=>?_,fun id t k' ver xs hid=>?_,fun id t k' ver hw hid=>?_⟩
  ·rw [Gs] at hid
   by_cases e:i=id
   ·subst e; simp [upP] at hb
   ·rw [if_neg e] at hid; simp only [upP,if_neg (Ne.symm e)] at hb; exact hs.kept id ob hid hb
  ·rw [Gs] at hid
   by_cases e':i=id
   ·subst e'; simp [upP] at e
   ·rw [if_neg e'] at hid; simp only [upP,if_neg (Ne.symm e')] at e; exact hfar id hid e
  all_goals
   have e:=hne id (by rw [hid]; rfl)
  ·exact⟨by simp [upP,Ne.symm e],cs,by rw [Gs,if_neg e]; exact hid⟩
  ·exact⟨by simp [upP,Ne.symm e],cs,by rw [Gs,if_neg e]; exact hid⟩
  ·exact⟨by simp [upP,Ne.symm e],n,cs,by rw [Gs,if_neg e]; exact hid⟩
  ·exact⟨ver,xs,by rw [Gs,if_neg e]; exact hid,Kn,fun _=>⟨rfl,by simp [upP,Ne.symm e],fun _ _=>rfl⟩⟩
  ·exact⟨ver,hw,by rw [Gs,if_neg e]; exact hid,Kn,fun _=>⟨rfl,by simp [upP,Ne.symm e],fun _ _=>rfl⟩⟩
 refine hK _ _ _ w (upP β i none) ⟨rfl,rfl⟩ ⟨hsat.hid,fun id b hid hb=>?_,fun id b j hid hb=>?_,fun id id' b h1 h2 h3 h4=>?_,fun id ob hid=>?_⟩ st ?_
 ·rw [Gs] at hid
  by_cases e:i=id
  ·subst e; simp [upP] at hb
  ·rw [if_neg e] at hid; simp only [upP,if_neg (Ne.symm e)] at hb; exact hsat.bnd id b hid hb
 ·rw [Gs] at hid
  by_cases e:i=id
  ·subst e; simp [upP] at hb
  ·rw [if_neg e] at hid; simp only [upP,if_neg (Ne.symm e)] at hb; exact hsat.apart id b j hid hb
 ·by_cases e:i=id
  ·subst e; simp [upP] at h3
  ·by_cases e':i=id'
   ·subst e'; simp [upP] at h4
   ·rw [Gs,if_neg e] at h1
    rw [Gs,if_neg e'] at h2
    simp only [upP,if_neg (Ne.symm e)] at h3
    simp only [upP,if_neg (Ne.symm e')] at h4
    exact hsat.inj id id' b h1 h2 h3 h4
 ·rw [Gs] at hid
  by_cases e:i=id
  ·subst e; simp at hid; subst hid; exact .inl ⟨by simp [upP],rfl⟩
  ·rw [if_neg e] at hid
   simp only [upP,if_neg (Ne.symm e)]
   exact(hsat.obj id ob hid).step st (fun b hb=>rfl)
 ·exact .own (.nil (Nat.zero_le _)) ⟨E,0,0,by rw [Gs,if_pos rfl],Kn,fun _=>⟨rfl,by simp [Value.ownBlock,upP],[],⟨by simp,.inl ⟨rfl,rfl⟩⟩,fun j u hu=>by simp [flat] at hu⟩⟩

theorem Ha0:∀ {ys:List AV},(∀ y∈ys,y.flatOk=true)→∀ {c:AV},c∈flat ys→c.isCell=true
 | y::r,h,c,hc=>by
  simp only [flat,Kt] at hc
  rcases hc with hc | hc
  ·have:=h y (by simp)
   simp only [AV.flatOk,List.all_eq_true] at this
   exact this c hc
  ·exact Ha0 (fun y hy=>h y (by simp [hy])) hc

/-! ### append -/
theorem H5b (w:World) (t ty e:TypeId) (i:TypeInfo) (z:Value) (size:Nat) (ht:P.underlying t=some (.slice e)) (hi:P.info? e=some i) (hz:i.zero=some z)
  (hsize:i.size=size) (hzs:z.cells.size=size) (hsz:0 < size)
  (v:Value) (n:Nat) (xs:List Value) (hown:w.ownsRow 0 e size v n xs)
  (ao:Option Addr) (m c:Nat) (news:List Value) (hl:news.length=m*size) (hnews:∀ (ad:Addr) (j:Nat) u,ao=some ad→news[j]? = some u→w.cell? (ad.add j)=some u) (hno:ao=none→m=0) (h1:∀ u∈news,u.oneCell'=true)
  (h63:n+m≤maxLen) (hbytes:(n+m)*i.bytes≤140737488355328) :
  ∃ v' w',(Builtin.append_ #[t,t] ty #[v,.slice ao m c]).run P w=.ok v' w'∧w'.ownsRow 0 e size v' (n+m) (xs++news)∧w'.os=w.os∧w'.tape=w.tape∧(w'.output=w.output∧w.drawn≤w'.drawn)∧w.heap.size≤w'.heap.size ∧
   (∀ b,b < w.heap.size→v.ownBlock≠some b→w'.heap[b]? = w.heap[b]?) ∧
   (v'.ownBlock=v.ownBlock∨(v'.ownBlock=some w.heap.size∧w.heap.size < w'.heap.size∧∀ b,b < w.heap.size→w'.heap[b]? = w.heap[b]?)):=by
 subst hsize
 have hsmall:n+m≤9223372036854775807:=by simp only [maxLen] at h63; omega
 have hlen:(xs++news).length=(n+m)*i.size:=by rw [Ko,hown.1,hl,Nat.add_mul]
 have grown:∀ (old:Nat),old < n+m →
   (w.drew.alloc (.cells (xs.toArray++news.toArray++Builtin.zeroCells z.cells (grownCap w (n+m) old e - (n+m))) e)).ownsRow 0 e i.size
    (.slice (some ⟨w.heap.size,0,none⟩) (n+m) (grownCap w (n+m) old e)) (n+m) (xs++news):=by
  intro old ho
  have hge:=grownCap_ge w (n+m) old e
  have hcm:grownCap w (n+m) old e≤maxLen:=grownCap_le_maxLen w (n+m) old e h63
  refine⟨hlen,.inr ⟨w.heap.size,_,_,rfl,Nat.zero_le _,heap_alloc_new w.drew _,hge,hcm,?_,?_⟩⟩
  ·simp only [Array.size_append,List.size_toArray,size_zeroCells,hzs,hown.1,hl,← Nat.add_mul]
   congr 1
   omega
  ·simp only [Array.toList_append,List.append_assoc]
   rw [← List.append_assoc,← hlen]
   exact List.take_left
 have same:∀ (o:Obj) b,b < w.heap.size→(w.drew.alloc o).heap[b]? = w.heap[b]? := fun o b hb=>Qo w.drew o hb
 by_cases hm0:m=0
 ·-- nothing is appended
  subst hm0
  have hn:news=[]:=List.eq_nil_of_length_eq_zero (by simpa using hl)
  subst hn
  refine⟨v,w,?_,by simpa using hown,rfl,rfl,⟨rfl,Kn⟩,Kn,fun _ _ _=>rfl,.inl rfl⟩
  rcases hown.2 with ⟨rfl,rfl⟩ | ⟨g,cap,cur,rfl,_,_,hnc,_⟩
  ·cases ao <;> simp [Builtin.append_,run_underlying ht,sizeOf,typeInfo,hi,Builtin.lenOf,Builtin.firstCells,loadCells,loadCellsFrom]
  ·cases ao <;> simp [Builtin.append_,run_underlying ht,sizeOf,typeInfo,hi,Builtin.lenOf,Builtin.firstCells,hnc,storeCells,loadCells,loadCellsFrom]
 ·cases ao with
  | none=>exact absurd (hno rfl) hm0
  | some a=>
   have hnews':∀ j u,news[j]? = some u→w.cell? (a.add j)=some u:=fun j u h=>hnews a j u rfl h
   rcases hown.2 with ⟨rfl,rfl⟩ | ⟨g,cap,cur,rfl,hbg,hg,hnc,hcm,hcs,htake⟩
   ·have hx:xs=[]:=List.eq_nil_of_length_eq_zero (by simpa using hown.1)
    subst hx
    have hr:=run_append_nil (P:=P) w t ty e i z ht hi hz a m c news hl hnews' (by omega) (by omega) (by have hb:=hbytes; simp only [Nat.zero_add] at hb; omega)
    have hgr:=grown 0 (by omega)
    simp only [Nat.zero_add,List.nil_append,Array.empty_append] at hgr ⊢
    exact⟨_,_,hr,hgr,rfl,rfl,⟨rfl,Nat.le_succ _⟩,by simp,fun b hb _=>same _ b hb,.inr ⟨rfl,by simp,fun b hb=>same _ b hb⟩⟩
   ·by_cases hroom:n+m≤cap
    ·have hfit:n*i.size+news.length≤cur.size:=by rw [hl,hcs,← Nat.add_mul]; exact Nat.mul_le_mul_right _ hroom
     have hr:=run_append_room (P:=P) w t ty e i ht hi g n cap cur hg a m c news hl hnews' h1 hroom hfit
     refine⟨_,_,hr,⟨hlen,.inr ⟨g,cap,_,rfl,hbg,setRow_heap w g cur _ e _ hg,hroom,hcm,?_,?_⟩⟩,rfl,rfl,⟨rfl,Kn⟩,by simp,fun k _ hk=>setRow_other w g k _ (fun e=>hk (by simp [Value.ownBlock,e])),.inl rfl⟩
     ·simp only [List.size_toArray,Ko,List.length_take,List.length_drop,Array.length_toList]
      omega
     ·rw [htake,← hlen]
      exact List.take_left
    ·have holds:∀ j u,xs[j]? = some u→w.cell? ((⟨g,0,none⟩:Addr).add j)=some u:=hown.cells (g:=g) rfl
     have hr:=run_append_grow (P:=P) w t ty e i z ht hi hz ⟨g,0,none⟩ n cap xs hown.1 holds a m c news hl hnews' (by omega) (by omega) (growslice_fits (by omega) hbytes)
     exact⟨_,_,hr,grown cap (by omega),rfl,rfl,⟨rfl,Nat.le_succ _⟩,by simp,fun b hb _=>same _ b hb,.inr ⟨rfl,by simp,fun b hb=>same _ b hb⟩⟩

theorem Hc0 {w:World} {t k n:Nat} {v:Value} {vals:List Value} (h:w.ownsRow 0 t k v n vals) {b j:Nat} (hb:v.ownBlock=some b) (hj:j < n*k):w.cell? ⟨b,j,none⟩=vals[j]? := by
 have hlen:=h.1
 have:=h.cells hb j
 have hlt:j < vals.length:=by omega
 have h2:=this vals[j] (by simp [hlt])
 rw [Addr.add_lit,Nat.zero_add] at h2
 rw [h2]; simp [hlt]

theorem ownsRow_form {w:World} {t k n:Nat} {v:Value} {vals:List Value} (h:w.ownsRow 0 t k v n vals):(v=.slice none 0 0∧n=0∧v.ownBlock=none)∨∃ b cap cur,v=.slice (some ⟨b,0,none⟩) n cap∧v.ownBlock=some b∧n≤cap∧cap≤maxLen∧w.heap[b]? = some (.cells cur t (0,0))∧n*k≤cur.size:=by
 rcases h.2 with ⟨rfl,rfl⟩ | ⟨g,cap,cur,rfl,_,hg,hnc,hcm,hcs,_⟩
 ·exact .inl ⟨rfl,rfl,rfl⟩
 ·exact .inr ⟨g,cap,cur,rfl,rfl,hnc,hcm,hg,by rw [hcs]; exact Nat.mul_le_mul_right _ hnc⟩

theorem D.vals {w:World} {S:Nat→Nat→Prop} {k:Nat} {ys:List AV} {ao:Option Addr} {m c:Nat} (h:D w S (.list k ys) (.slice ao m c)) :
  m=ys.length∧(∀ y∈ys,y.cells.length=k)∧(ao=none→m=0)∧∃ vals:List Value,vals.length=(flat ys).length∧(∀ (ad:Addr) (j:Nat) u,ao=some ad→vals[j]? = some u→w.cell? (ad.add j)=some u)∧∀ (j:Nat) u,(flat ys)[j]? = some u→∃ x,vals[j]? = some x∧D w S u x:=by
 cases h with
 | nil=>exact⟨rfl,by simp,fun _=>rfl,[],rfl,fun ad j u _ h=>by simp at h,fun j u h=>by simp [flat] at h⟩
 | @list _ b off cap _ vals hcap hm hk hS h=>
  refine⟨rfl,hk,(fun e=>by cases e),(List.range (flat ys).length).map vals,by simp,fun ad j u e hu=>?_,fun j u hu=>?_⟩
  ·cases e
   have hj:j < (flat ys).length:=by
    rcases Nat.lt_or_ge j (flat ys).length with h | h
    ·exact h
    ·simp [List.getElem?_eq_none (show ((List.range (flat ys).length).map vals).length≤j by simpa using h)] at hu
   simp [hj] at hu
   rw [Addr.add_lit,← hu]
   exact(hS j hj).2
  ·have hj:j < (flat ys).length:=by
    rcases Nat.lt_or_ge j (flat ys).length with h | h
    ·exact h
    ·simp [List.getElem?_eq_none h] at hu
   exact⟨vals j,by simp [hj],h j u hu⟩

theorem Jb1 {s x:Operand} {T E k by_ i ver ver1 n:Nat} {kx:Nat} {xs ys:List AV} (ho:o.op=.call { callee:=.builtin .append,args:=#[s,x],argTypes:=#[T,T] }) (hs:ev l s=.own i ver k xs) (hi:lk L i=some (.spare E k ver n)) (hx:Qj (ev l x)=some (kx,ys))
  (hT:sliceB P T E k=true) (hE:Zr P E k by_=true) (hb:(xs.length+ys.length)*by_≤140737488355328) (hlen:xs.length+ys.length≤maxLen) (hcell:∀ y∈ys,y.flatOk=true) (hk:kx=k∨ys=[]) (hver:ver < ver1) :
  H5 P o l L (Is (.own i ver1 k (xs++ys)) ((i,.spare E k ver1 (xs.length+ys.length))::L)):=by
 intro a w β K Q hsat hf hK
 have hv:=hf.ev s
 rw [hs] at hv
 generalize hvs:a.eval s=vs at hv
 have hxd:=(hf.ev x).Qj hx
 obtain⟨ao,cap,hxv,_⟩:=hxd.len
 rw [hxv] at hxd
 obtain⟨_,hyk,hno,news,hnl,hncell,hnD⟩:=hxd.vals
 obtain⟨inf,z,e1,e2,e3,e4,e5,e6⟩:=Zr.out hE
 cases hv with
 | data h=>cases h
 | own hd hp=>
  obtain⟨t,ver',hw,h1,h2,h3⟩:=hp
  rw [hi] at h1
  cases h1
  obtain⟨rfl,hob,vals,hown,hvD⟩:=h3 rfl
  have hxk:∀ y∈xs,y.cells.length=k:=by
   cases hd with
   | nil=>simp
   | list _ _ _ hk=>exact hk
  have hyk':∀ y∈ys,y.cells.length=k:=by
   rcases hk with rfl | rfl
   ·exact hyk
   ·simp
  have hone:∀ u∈news,u.oneCell'=true:=by
   intro u hu
   obtain⟨j,hj,e⟩:=List.mem_iff_getElem.1 hu
   have hj':j < (flat ys).length:=by omega
   obtain⟨x',hx1,hx2⟩:=hnD j (flat ys)[j] (by simp [hj'])
   have:u=x':=by
    have:news[j]? = some u:=by rw [← e]; simp [hj]
    rw [this] at hx1; exact Kj hx1
   subst this
   have hcc:((flat ys)[j]).isCell=true:=Ha0 hcell (List.getElem_mem hj')
   exact(V.data (L:=L) (β:=β) hx2).cell hcc
  have hyl:(flat ys).length=ys.length*k:=Jm hyk'
  obtain⟨v',w',hr,hown',hos,htp,hout,hsz,hother,hwhere⟩:=H5b (P:=P) w T o.type E inf z k (sliceB.out hT).1 e1 e4 e2 e5 e6 vs xs.length vals hown ao ys.length cap news (by rw [hnl,hyl]) (fun ad j u h h'=>hncell ad j u h h') hno hone hlen (by rw [e3]; exact hb)
  have hrun:(execOp a.eval o).run P w=.ok (.value v') w':=by
   simp [execOp,ho,resolve,invoke,builtin,hvs,hxv,hr]
  unfold Oper.wp
  rw [hrun]
  have hvl:vals.length=xs.length*k:=hown.1
  have hoth:∀ id b,(lk L id).isSome=true→β id=some b→i≠id→w'.heap[b]? = w.heap[b]? := by
   intro id b h1 h2 hne
   refine hother b (hsat.bnd id b h1 h2) (fun e=>hne ?_)
   exact hsat.inj i id b (by rw [hi]; rfl) h1 (hob ▸ e) h2
  -- the step
  have st:Step w β L w' (upP β i v'.ownBlock) ((i,.spare E k ver1 (xs.length+ys.length))::L):=by
   refine⟨hos,htp,hout,hsz,fun _ _ _=>Iff.rfl,fun b j hst=>?_,fun b hb hfar=>⟨hother b hb (fun e=>hfar i (by rw [hi]; rfl) (hob ▸ e)),fun id hid e=>?_⟩,fun id t cs hid=>?_,fun id t cs hid=>?_,fun id t n cs hid=>?_,fun id t k' vr zs hid=>?_,fun id t k' vr hw hid=>?_⟩
   ·refine⟨⟨Nat.lt_of_lt_of_le hst.lt hsz,hst.seen,fun id ob hid hb=>?_⟩,?_⟩
    ·rw [Gs] at hid
     by_cases e:i=id
     ·subst e
      rw [if_pos rfl] at hid
      cases hid
      simp only [upP,if_true] at hb
      show j < (xs.length+ys.length)*k
      rcases hwhere with hw1 | ⟨hw1,_⟩
      ·rw [hw1,hob] at hb
       have:j < xs.length*k:=hst.kept i _ hi hb
       rw [Nat.add_mul]; omega
      ·rw [hw1] at hb
       have:=hst.lt
       cases hb; omega
     ·rw [if_neg e] at hid; simp only [upP,if_neg (Ne.symm e)] at hb; exact hst.kept id ob hid hb
    ·by_cases e:vs.ownBlock=some b
     ·have hj:j < xs.length*k:=hst.kept i _ hi (hob ▸ e)
      rcases hwhere with hw1 | ⟨_,_,hw3⟩
      ·rw [Hc0 hown' (hw1.trans e) (by rw [Nat.add_mul]; omega),Hc0 hown e hj,List.getElem?_append_left (by omega)]
      ·exact World.cell?_of_block (w:=w) (hw3 b hst.lt)
     ·exact World.cell?_of_block (w:=w) (hother b hst.lt e)
   ·rw [Gs] at hid
    by_cases e':i=id
    ·subst e'
     simp only [upP,if_true] at e
     rcases hwhere with hw1 | ⟨hw1,_⟩
     ·exact hfar i (by rw [hi]; rfl) (hob ▸ (hw1 ▸ e))
     ·rw [hw1] at e; cases e; omega
    ·rw [if_neg e'] at hid; simp only [upP,if_neg (Ne.symm e')] at e; exact hfar id hid e
   ·have e:i≠id:=fun e=>by subst e; rw [hi] at hid; cases hid
    exact⟨by simp [upP,Ne.symm e],cs,by rw [Gs,if_neg e]; exact hid⟩
   ·have e:i≠id:=fun e=>by subst e; rw [hi] at hid; cases hid
    exact⟨by simp [upP,Ne.symm e],cs,by rw [Gs,if_neg e]; exact hid⟩
   ·have e:i≠id:=fun e=>by subst e; rw [hi] at hid; cases hid
    exact⟨by simp [upP,Ne.symm e],n,cs,by rw [Gs,if_neg e]; exact hid⟩
   ·have e:i≠id:=fun e=>by subst e; rw [hi] at hid; cases hid
    exact⟨vr,zs,by rw [Gs,if_neg e]; exact hid,Kn,fun _=>⟨rfl,by simp [upP,Ne.symm e],fun b hb=>G5a (hoth id b (by rw [hid]; rfl) hb e)⟩⟩
   ·rw [Gs]
    by_cases e:i=id
    ·subst e
     rw [hi] at hid; cases hid
     exact⟨ver1,_,if_pos rfl,by omega,fun e=>by omega⟩
    ·exact⟨vr,hw,by rw [if_neg e]; exact hid,Kn,fun _=>⟨rfl,by simp [upP,Ne.symm e],fun b hb=>hoth id b (by rw [hid]; rfl) hb e⟩⟩
  have fresh:∀ b,v'.ownBlock=some b→(∃ j,β i=some b∧j=b)∨b=w.heap.size:=by
   intro b hb
   rcases hwhere with hw1 | ⟨hw1,_⟩
   ·exact .inl ⟨b,by rw [← hob,← hw1,hb],rfl⟩
   ·rw [hw1] at hb; exact .inr (Kj hb).symm
  have vlt:∀ b,v'.ownBlock=some b→b < w'.heap.size:=by
   intro b hb
   rcases ownsRow_form hown' with ⟨_,_,h0⟩ | ⟨b',cap',cur,_,hb',_,_,hg,_⟩
   ·rw [h0] at hb; cases hb
   ·rw [hb'] at hb; cases hb
    exact(Array.getElem?_eq_some_iff.1 hg).1
  refine hK _ _ v' w' (upP β i v'.ownBlock) ⟨rfl,rfl⟩ ⟨fun b j h=>Nat.lt_of_lt_of_le (hsat.hid b j h) hsz,fun id b hid hb=>?_,fun id b j hid hb hh=>?_,fun id id' b h1 h2 h3 h4=>?_,fun id ob hid=>?_⟩ st ?_
  ·rw [Gs] at hid
   by_cases e:i=id
   ·subst e; simp only [upP,if_true] at hb; exact vlt b hb
   ·rw [if_neg e] at hid; simp only [upP,if_neg (Ne.symm e)] at hb; exact Nat.lt_of_lt_of_le (hsat.bnd id b hid hb) hsz
  ·rw [Gs] at hid
   by_cases e:i=id
   ·subst e
    simp only [upP,if_true] at hb
    rcases fresh b hb with ⟨_,h1,_⟩ | rfl
    ·exact hsat.apart i b j (by rw [hi]; rfl) h1 hh
    ·have:=hsat.hid _ _ hh; omega
   ·rw [if_neg e] at hid; simp only [upP,if_neg (Ne.symm e)] at hb; exact hsat.apart id b j hid hb hh
  ·have key:∀ id,i≠id→(lk ((i,Jt.spare E k ver1 (xs.length+ys.length))::L) id).isSome=true→(upP β i v'.ownBlock) id=some b→v'.ownBlock=some b→False:=by
    intro id e h1 h3 hb
    rw [Gs,if_neg e] at h1
    simp only [upP,if_neg (Ne.symm e)] at h3
    rcases fresh b hb with ⟨_,h5,_⟩ | rfl
    ·exact e (hsat.inj i id b (by rw [hi]; rfl) h1 h5 h3)
    ·have:=hsat.bnd id _ h1 h3; omega
   by_cases e:i=id
   ·by_cases e':i=id'
    ·rw [← e,e']
    ·subst e; simp only [upP,if_true] at h3; exact(key id' e' h2 h4 h3).elim
   ·by_cases e':i=id'
    ·subst e'; simp only [upP,if_true] at h4; exact(key id e h1 h3 h4).elim
    ·rw [Gs,if_neg e] at h1
     rw [Gs,if_neg e'] at h2
     simp only [upP,if_neg (Ne.symm e)] at h3
     simp only [upP,if_neg (Ne.symm e')] at h4
     exact hsat.inj id id' b h1 h2 h3 h4
  ·rw [Gs] at hid
   by_cases e:i=id
   ·subst e
    rw [if_pos rfl] at hid; cases hid
    simp only [upP,if_true]
    rcases ownsRow_form hown' with ⟨_,h0,h0'⟩ | ⟨b',cap',cur,_,hb',_,_,hg,hsz'⟩
    ·exact .inl ⟨h0',h0⟩
    ·exact .inr ⟨b',hb',cur,hg,hsz'⟩
   ·rw [if_neg e] at hid
    simp only [upP,if_neg (Ne.symm e)]
    exact(hsat.obj id ob hid).step st (fun b hb=>hoth id b (by rw [hid]; rfl) hb e)
  ·have hDall:∀ (j:Nat) u,(flat (xs++ys))[j]? = some u→∃ x,(vals++news)[j]? = some x∧D w' (Qd w' (upP β i v'.ownBlock) ((i,.spare E k ver1 (xs.length+ys.length))::L)) u x:=by
    intro j u hu
    rw [G60] at hu
    have hfl:(flat xs).length=xs.length*k:=Jm hxk
    rcases Nat.lt_or_ge j (flat xs).length with hj | hj
    ·rw [List.getElem?_append_left hj] at hu
     obtain⟨x',hx1,hx2⟩:=hvD j u hu
     exact⟨x',by rw [List.getElem?_append_left (by omega)]; exact hx1,hx2.mono st.stab⟩
    ·rw [List.getElem?_append_right hj] at hu
     obtain⟨x',hx1,hx2⟩:=hnD _ u hu
     refine⟨x',?_,hx2.mono st.stab⟩
     rw [List.getElem?_append_right (by omega),hvl,← hfl]; exact hx1
   refine .own ?_ ⟨E,ver1,xs.length+ys.length,by rw [Gs,if_pos rfl],Kn,fun _=>⟨by simp,by simp [upP],vals++news,by simpa using hown',hDall⟩⟩
   have hall:∀ y∈xs++ys,y.cells.length=k:=fun y hy=>(Kt.1 hy).elim (hxk y) (hyk' y)
   have hfl2:(flat (xs++ys)).length=(xs.length+ys.length)*k:=by rw [Jm hall]; simp
   rcases ownsRow_form hown' with ⟨rfl,h0,_⟩ | ⟨b',cap',cur,rfl,hb',hc1,hc2,hg,hsz'⟩
   ·have:xs++ys=[]:=List.eq_nil_of_length_eq_zero (by rw [Ko]; exact h0)
    rw [this]; exact .nil (Nat.zero_le _)
   ·have hD:D w' (Qd w' (upP β i (Value.slice (some ⟨b',0,none⟩) (xs.length+ys.length) cap').ownBlock) ((i,.spare E k ver1 (xs.length+ys.length))::L)) (.list k (xs++ys)) (.slice (some ⟨b',0,none⟩) (xs++ys).length cap'):=?_
    ·rw [Ko] at hD; exact hD
    refine .list (fun j=>(vals++news).getD j undef) (by rw [Ko]; exact hc1) hc2 hall (fun j hj=>?_) (fun j u hu=>?_)
    ·rw [hfl2] at hj
     have hlt:j < (vals++news).length:=by rw [Ko,hvl,hnl,hyl,← Nat.add_mul]; exact hj
     refine⟨⟨by have:=vlt b' hb'; exact this,?_,fun id ob hid hbid=>?_⟩,?_⟩
     ·show ¬ β.hid b' _
      intro hh
      rcases fresh b' hb' with ⟨_,h5,_⟩ | rfl
      ·exact hsat.apart i b' _ (by rw [hi]; rfl) h5 hh
      ·have:=hsat.hid _ _ hh; omega
     ·rw [Gs] at hid
      by_cases e:i=id
      ·subst e; rw [if_pos rfl] at hid; cases hid
       show 0+j < (xs.length+ys.length)*k
       omega
      ·rw [if_neg e] at hid
       simp only [upP,if_neg (Ne.symm e)] at hbid
       exfalso
       rcases fresh b' hb' with ⟨_,h5,_⟩ | rfl
       ·exact e (hsat.inj i id b' (by rw [hi]; rfl) (by rw [hid]; rfl) h5 hbid)
       ·have:=hsat.bnd id _ (by rw [hid]; rfl) hbid; omega
     ·rw [Nat.zero_add,Hc0 hown' rfl hj]
      rw [Ki hlt]
      simp only [List.getD,Ki hlt,Option.getD_some]
    ·obtain⟨x',hx1,hx2⟩:=hDall j u hu
     simp only [List.getD,hx1,Option.getD_some]
     exact hx2
theorem R4d {s x:Operand} {T E k by_ i ver n:Nat} {kx:Nat} {xs ys:List AV} (ho:o.op=.call { callee:=.builtin .append,args:=#[s,x],argTypes:=#[T,T] }) (hs:ev l s=.own i ver k xs) (hi:lk L i=some (.spare E k ver n)) (hx:Qj (ev l x)=some (kx,ys))
  (hT:sliceB P T E k=true) (hE:Zr P E k by_=true) (hb:(xs.length+ys.length)*by_≤140737488355328) (hlen:xs.length+ys.length≤maxLen) (hcell:∀ y∈ys,y.flatOk=true) (hk:kx=k∨ys=[]) :
  H5 P o l L (Is (.own i (ver+1) k (xs++ys)) ((i,.spare E k (ver+1) (xs.length+ys.length))::L)):=Jb1 ho hs hi hx hT hE hb hlen hcell hk (Nat.lt_succ_self ver)
end mem

theorem Hfc {k:Nat}:∀ (us:List AV) (j:Nat) (cells:List AV),cells.length=(j+us.length)*k→(∀ u∈us,u.cells.length=k∧u.flatOk=true) →
  H97 (fun i=>some (i*k,k)) cells ((List.range' j us.length).zip us)=some (cells.take (j*k)++flat us)
 | [],j,cells,h,_=>by
  simp only [List.length_nil,Nat.add_zero] at h
  simp [H97,flat,← h]
 | u::r,j,cells,h,hu=>by
  obtain⟨h1,h2⟩:=hu u (by simp)
  have hlen:j*k+k≤cells.length:=by
   rw [h]; simp only [List.length_cons]
   have:(j+1)*k≤(j+(r.length+1))*k:=Nat.mul_le_mul_right k (by omega)
   rw [Nat.add_mul] at this; omega
  have e1:Nat.beq u.cells.length k=true:=by rw [h1]; exact Nat.beq_refl k
  have e2:Nat.ble (j*k+k) cells.length=true:=by simpa using hlen
  simp only [List.length_cons,List.range'_succ,List.zip_cons_cons,H97,e1,e2,h2,Bool.and_true,cond_true]
  have ih:=Hfc (k:=k) r (j+1) (cells.take (j*k)++u.cells++cells.drop (j*k+k)) (by
   simp only [Ko,List.length_take,List.length_drop,h1]
   rw [h] at hlen ⊢; simp only [List.length_cons] at hlen ⊢
   rw [Nat.min_eq_left (by omega)]
   have:(j+1+r.length)*k=(j+(r.length+1))*k:=by congr 1; omega
   omega) (fun y hy=>hu y (by simp [hy]))
  rw [ih]
  congr 1
  have hl:(cells.take (j*k)++u.cells).length=(j+1)*k:=by simp [h1]; rw [Nat.add_mul]; omega
  rw [List.take_append_of_le_length (by rw [hl]; exact Kn),List.take_of_length_le (by rw [hl]; exact Kn)]
  simp [flat]

def Hca (k:Nat):List AV→Bool
 | []=>true
 | u::r=>Nat.beq u.cells.length k&&u.flatOk&&Hca k r
theorem H8a {k:Nat}:∀ {us:List AV},Hca k us=true→∀ u∈us,u.cells.length=k∧u.flatOk=true
 | u::r,h,v,hv=>by
  simp only [Hca,Kq] at h
  rcases Kw.1 hv with rfl | hv
  ·exact⟨Nat.eq_of_beq_eq_true h.1.1,h.1.2⟩
  ·exact H8a h.2 v hv

theorem Q26 {ok:Nat→Bool} {u:AV} (h:u.refs ok=true):∀ c∈u.cells,c.refs ok=true:=by
 intro c hc
 cases u with
 | agg cs=>exact G37 (by simpa [AV.refs] using h) c (by simpa [AV.cells] using hc)
 | _=>simp [AV.cells] at hc; subst hc; exact h

theorem J14 {ok:Nat→Bool}:∀ {us:List AV},(∀ u∈us,u.refs ok=true)→∀ c∈flat us,c.refs ok=true
 | u::r,h,c,hc=>by
  simp only [flat,Kt] at hc
  rcases hc with hc | hc
  ·exact Q26 (h u (by simp)) c hc
  ·exact J14 (fun y hy=>h y (by simp [hy])) c hc

section lits
variable {P:Program} {o:Oper} {l:Fr} {L:Loc}

theorem D.newRow {w:World} {β:Hd} {L:Loc} {k:Nat} {xs:List AV} {vs:Array Value} {E:TypeId} (hsat:Sat w β L) (hk:∀ x∈xs,x.cells.length=k) (hm:xs.length≤maxLen) (hs:vs.size=(flat xs).length)
  (h:∀ (j:Nat) u v,(flat xs)[j]? = some u→vs[j]? = some v→D w (Qd w β L) u v) :
  D (w.alloc (.cells vs E)) (Qd (w.alloc (.cells vs E)) β L) (.list k xs) (.slice (some ⟨w.heap.size,0,none⟩) xs.length xs.length):=by
 refine .list (fun j=>vs.getD j undef) (Kn) hm hk (fun j hj=>⟨Qd.new hsat _ _,?_⟩) (fun j u hu=>?_)
 ·rw [World.cell?_alloc_new]
  rw [Nat.zero_add,Array.getD_eq_getD_getElem?,Array.getElem?_eq_getElem (by omega)]
  rfl
 ·have hj:j < (flat xs).length:=by
   rcases Nat.lt_or_ge j (flat xs).length with h | h
   ·exact h
   ·simp [List.getElem?_eq_none h] at hu
  rw [Array.getD_eq_getD_getElem?,Array.getElem?_eq_getElem (by omega)]
  exact(h j u _ hu (by simp [Array.getElem?_eq_getElem (show j < vs.size by omega)])).mono (Step.new hsat _).stab

theorem Ha {T E k n:Nat} {parts:List (Nat×Operand)} {xs:List AV} (ho:o.op=.buildSlice T n parts.toArray) (hd:Gd0 l (parts.map (·.2)) xs) (hT:sliceB P T E k=true) (hz:G05 P E k=true)
  (hix:parts.map (·.1)=List.range n) (hc:Hca k xs=true) (hn:Nat.ble (n*k) 16777216=true) (hk0:Nat.blt 0 k=true):H5 P o l L (Is (.list k xs) L):=by
 intro a w β K Q hsat hf hK
 have hlen:=hd.length
 have hnl:n=xs.length:=by
  have:=congrArg List.length hix
  simp only [Ks,List.length_range] at this hlen
  omega
 subst hnl
 have hc':=H8a hc
 have hkc:∀ x∈xs,x.cells.length=k:=fun x hx=>(hc' x hx).1
 have hdata:∀ x∈xs,x.isData=true:=by
  intro x hx
  obtain⟨j,hj,e⟩:=List.mem_iff_getElem.1 hx
  have hj2:j < (parts.map (·.2)).length:=by omega
  exact e ▸ (hd.get (j:=j) (x:=(parts.map (·.2))[j]) (u:=xs[j]) (Ki hj2) (Ki hj)).2
 have hfill:=Hfc (k:=k) xs 0 (List.replicate (xs.length*k) .junk) (by simp) hc'
 obtain⟨inf,z,hi,hz1,hz2⟩:=G05.out hz
 let zs:Array Value:=if xs.length*k=0 then #[] else z.cells
 obtain⟨vs',e1,e2,e3⟩:=H89 (w:=w) (β:=β) (L:=L) (qs:=parts.map fun p=>(p.1,a.eval p.2)) (vs:=(Array.range (xs.length*k)).map (zs[· % zs.size]!)) hfill (by
   have:=congrArg List.length hix
   simp only [Ks,List.length_range] at this
   simp [this]) (fun j p q hp hq=>by
   simp only [List.getElem?_map,Option.map_eq_some_iff] at hq
   obtain⟨y,hy,rfl⟩:=hq
   rw [List.getElem?_zip_eq_some] at hp
   obtain⟨hp1,hp2⟩:=hp
   have hix':(parts.map (·.1))[j]? = (List.range xs.length)[j]? := by rw [hix]
   simp only [List.getElem?_map,hy,Option.map_some] at hix'
   rw [List.range_eq_range',hp1] at hix'
   have:=(hd.get (j:=j) (x:=y.2) (u:=p.2) (by rw [List.getElem?_map,hy]; rfl) hp2)
   have hv:=(hf.ev y.2).plain
   rw [this.1] at hv
   exact⟨(Kj hix').symm,hv⟩) (by simp) (fun j u v hu _=>by
   have:=List.eq_of_mem_replicate (Kk hu)
   subst this; exact .junk)
 have hflat:(List.take (0*k) (List.replicate (xs.length*k) AV.junk))++flat xs=flat xs:=by simp
 rw [hflat] at e2 e3
 have hr:(execOp a.eval o).run P w=.ok (.value (.slice (some ⟨w.heap.size,0,none⟩) xs.length xs.length)) (w.alloc (.cells vs' E)):=by
  have hsz:=Qw (sliceB.out hT).2 w
  have hle0:xs.length*k≤16777216:=by simpa using hn
  have hle:¬ (xs.length*k > 2 ^ 24):=by
   have:(2:Nat) ^ 24=16777216:=by decide
   omega
  have hp:(parts.toArray.map fun(x:Nat×Operand)=>(x.1,a.eval x.2)).toList=parts.map fun p=>(p.1,a.eval p.2):=by simp
  by_cases h0:xs.length*k=0
  ·have hzs:zs=#[]:=by simp only [zs,if_pos h0]
   rw [hzs] at e1
   simp only [execOp,ho,Instr.buildSlice,underlying,(sliceB.out hT).1,run_program,Sem.run_bind,Result.andThen_ok,hsz,hle,if_false,Sem.run_pure,if_pos h0,hp,e1,newRow,run_newObj]
   rfl
  ·have hzs:zs=z.cells:=by simp only [zs,if_neg h0]
   rw [hzs] at e1
   simp only [execOp,ho,Instr.buildSlice,underlying,(sliceB.out hT).1,run_program,Sem.run_bind,Result.andThen_ok,hsz,hle,if_false,Sem.run_pure,if_neg h0,zeroValue,typeInfo,hi,hz1,hp,e1,newRow,run_newObj]
   rfl
 unfold Oper.wp
 rw [hr]
 exact hK _ _ _ _ β ⟨rfl,rfl⟩ (hsat.new _) (Step.new hsat _) (.data (D.newRow hsat hkc (by
  have h1:xs.length*k≤16777216:=by simpa using hn
  have h2:0 < k:=by simpa [Nat.blt_eq] using hk0
  have:xs.length*1≤xs.length*k:=Nat.mul_le_mul_left _ h2
  simp only [maxLen]; omega) e2 (fun j u v hu hv=>(e3 j u v hu hv).toD (J14 hdata u (Kk hu)))))
end lits

def Gb5 (P:Program) (N:Cfg) (ops:Array Oper) (o:Oper) (l:Fr) (L:Loc) (u:AV) (L':Loc):Prop:=
 ∀ (a:Act) (w:World) (β:Hd) (K:Act→World→Prop) (Q:Exit→Act→World→Prop),Sat w β L→Qe a w β L l→N.n≤a.tmps.size →
  (∀ v w' β',Sat w' β' L'→Step w β L w' β' L'→V w' β' L' u v→K (a.put o.dst v) w') →
  (if Region.wanted o (yielded ops a.tmps) then o.wp P a w K Q else K (a.put o.dst undef) w)

section osteps
variable {P:Program} {N:Cfg} {ops:Array Oper} {o:Oper} {l:Fr} {L L':Loc} {u:AV}

theorem Gt (h:H5 P o l L (Is u L')) (hg:o.guard=none:=by rfl):Gb5 P N ops o l L u L':=by
 intro a w β K Q hsat hf hn hK
 have hw:Region.wanted o (yielded ops a.tmps)=true:=by simp [Region.wanted,hg]
 rw [if_pos hw]
 exact h a w β K Q hsat hf (fun u' L'' v w' β' hr=>by obtain⟨rfl,rfl⟩:=hr; exact hK v w' β')

theorem Gh {j dj:Nat} {want c:Bool} {gv:AV} (us:Fr) (hg:o.guard=some (j,want)) (hj:(ops[j]?).bind (·.dst)=some dj) (hgv:look l dj=gv) (hgd:Hd9 gv want c) (hus:J37 c l us) (h:c=true→H5 P o (us++l) L (Is u L)) (hjn:Nat.blt dj N.n=true:=by rfl) :
  Gb5 P N ops o l L (.opt c u) L:=by
 subst hgv
 intro a w β K Q hsat hf hn hK
 have hw:=hgd.wanted (ops:=ops) hf (Nat.lt_of_lt_of_le (by simpa [Nat.blt_eq] using hjn) hn) hg hj
 rw [hw]
 cases c with
 | true=>
  rw [if_pos rfl]
  refine h rfl a w β K Q hsat (hf.un hus) ?_
  intro u' L'' v w' β' hr hs' hst hv
  obtain⟨rfl,rfl⟩:=hr
  exact hK v w' β' hs' hst (.opt (fun _=>hv) (fun e=>by cases e))
 | false=>
  rw [if_neg (by simp)]
  exact hK undef w β hsat (Step.refl _ _ _) (.opt (fun e=>by cases e) (fun _=>rfl))
end osteps

/-! ### Who comes before whom -/
inductive Anc (ops:Array Oper):Nat→Nat→Prop
 | edge {i:Nat} {o:Oper} {e:Edge} (ho:ops[i]? = some o) (he:e∈o.after) (hb:Region.binds .any e=true):Anc ops i e.on
 | trans {i j k:Nat} (h:Anc ops i j) (h':Anc ops j k):Anc ops i k

def Qca (o:Oper):List Nat:=(o.after.toList.filter (Region.binds .any)).map (·.on)
def Q4b (xs:List Nat):List Nat→List Nat
 | []=>xs
 | y::r=>Q4b (if xs.contains y then xs else y::xs) r
def Rc3:List Oper→List (List Nat)→List (List Nat)
 | [],acc=>acc
 | o::r,acc=>Rc3 r (acc++[(Qca o).foldl (fun s k=>Q4b s (k::acc.getD k [])) []])
def Gbd (ops:List Oper):List (List Nat):=Rc3 ops []

theorem Q33 {z:Nat}:∀ {ys xs:List Nat},z∈Q4b xs ys→z∈xs∨z∈ys
 | [],xs,h=>.inl h
 | y::r,xs,h=>by
  simp only [Q4b] at h
  rcases Q33 h with h | h
  ·split at h
   ·exact .inl h
   ·rcases Kw.1 h with rfl | h
    ·exact .inr (by simp)
    ·exact .inl h
  ·exact .inr (by simp [h])

theorem R36 (all:List Oper):∀ (r:List Oper) (acc:List (List Nat)) (k:Nat),acc.length=k→(∀ j,r[j]? = all[k+j]?)→(∀ i z,z∈acc.getD i []→Anc all.toArray i z) →
  ∀ i z,z∈(Rc3 r acc).getD i []→Anc all.toArray i z
 | [],acc,k,_,_,h=>h
 | o::r,acc,k,hk,hr,h=>by
  simp only [Rc3]
  refine R36 all r _ (k+1) (by simp [hk]) (fun j=>by have:=hr (j+1); simpa [Nat.add_assoc,Nat.add_comm 1 j] using this) ?_
  intro i z hz
  rcases Nat.lt_or_ge i acc.length with hi | hi
  ·refine h i z ?_
   simpa [List.getD,List.getElem?_append_left hi] using hz
  ·simp only [List.getD,List.getElem?_append_right hi] at hz
   by_cases e:i=acc.length
   ·subst e
    simp only [Nat.sub_self,List.getElem?_cons_zero,Option.getD_some] at hz
    have ho:all[acc.length]? = some o:=by have:=hr 0; simpa [hk] using this.symm
    have key:∀ (es:List Nat) (s:List Nat),(∀ y∈es,Anc all.toArray acc.length y)→(∀ y∈s,Anc all.toArray acc.length y) →
      ∀ y∈es.foldl (fun s k=>Q4b s (k::acc.getD k [])) s,Anc all.toArray acc.length y:=by
     intro es
     induction es with
     | nil=>intro s _ hs; exact hs
     | cons x es ih=>
      intro s he hs
      simp only [List.foldl_cons]
      refine ih _ (fun y hy=>he y (by simp [hy])) (fun y hy=>?_)
      rcases Q33 hy with hy | hy
      ·exact hs y hy
      ·rcases Kw.1 hy with rfl | hy
       ·exact he _ (by simp)
       ·exact .trans (he x (by simp)) (h x y hy)
    refine key _ [] (fun y hy=>?_) (by simp) z hz
    simp only [Qca,Ku,Kx] at hy
    obtain⟨e,⟨he,hb⟩,rfl⟩:=hy
    exact .edge (o:=o) (by simpa using ho) (Array.mem_toList_iff.1 he) hb
   ·rw [List.getElem?_eq_none (by simp; omega)] at hz
    simp at hz

theorem Qb3 {ops:List Oper} {i z:Nat} (h:z∈(Gbd ops).getD i []):Anc ops.toArray i z:=
 R36 ops ops [] 0 rfl (fun j=>by simp) (fun i z h=>by simp [List.getD] at h) i z h

/-! ### The check, asked of the kernel -/
def Ra8 (tbl:List (List Nat)) (ws:List Nat) (i:Nat):Nat:=(ws.filter fun w=>(tbl.getD i []).contains w).length
def Ra9 (tbl:List (List Nat)) (ws:List Nat) (i:Nat):Nat:=(ws.filter fun w=>!(tbl.getD w []).contains i).length
def ordered (tbl:List (List Nat)) (i j:Nat):Bool:=if i < j then (tbl.getD j []).contains i else (tbl.getD i []).contains j
def Gae (ops:Array Oper) (o:Oper):List Tmp:=o.dst.toList++o.looksAt ops
def Qc6 (ops:List Oper) (tbl:List (List Nat)):Bool:=
 (List.range ops.length).all fun j=>match (ops[j]?).bind (·.dst) with
  | none=>true
  | some t=>(List.range ops.length).all fun i=>i==j||(match ops[i]? with
   | some o=>!(Gae ops.toArray o).contains t||ordered tbl i j
   | none=>true)
def J7d (tbl:List (List Nat)):List Nat→Bool
 | []=>true
 | [_]=>true
 | x::y::r=>(tbl.getD y []).contains x&&decide (x < y)&&J7d tbl (y::r)
def J1f (ops:List Oper):Bool:=(List.range ops.length).all fun i=>match ops[i]? with
 | some o=>(Qca o).all fun j=>decide (j < i)
 | none=>true
def J20 (ops:List Oper) (ws:List Nat) (los his:List Nat):Bool:=
 let tbl:=Gbd ops
 J1f ops&&Qc6 ops tbl&&J7d tbl ws&&ws.all (fun w=>decide (w < ops.length)) &&
 (List.range ops.length).all fun i=>ws.contains i||(los.getD i 0==Ra8 tbl ws i&&his.getD i 0==Ra9 tbl ws i)

def J1d (p:Loc→Prop):List Loc→Prop
 | []=>True
 | L::r=>p L∧J1d p r
theorem Jd3 {p:Loc→Prop}:∀ {Ls:List Loc},J1d p Ls→∀ {i:Nat} {L:Loc},Ls[i]? = some L→p L
 | L::r,h,i,L',e=>by
  cases i with
  | zero=>simp at e; subst e; exact h.1
  | succ i=>simp at e; exact Jd3 h.2 e

def G5b (ts:List Tmp) (l:Fr):Fr:=ts.map fun t=>(t,look l t)
theorem J52 (l:Fr) (t:Tmp):∀ (ts:List Tmp),look (G5b ts l) t=if t∈ts then look l t else .junk
 | []=>by simp [G5b,look]
 | s::r=>by
  have ih:=J52 l t r
  simp only [G5b,List.map_cons] at ih ⊢
  by_cases e:s=t
  ·subst e; simp [look]
  ·have hb:Nat.beq s t=false:=by
    cases hb:Nat.beq s t with
    | false=>rfl
    | true=>exact absurd (Nat.eq_of_beq_eq_true hb) e
   simp only [look,hb,cond_false,ih,Kw,Ne.symm e,false_or]

def Hf2 (Ls:List Loc) (lo hi:Nat):List Loc:=(Ls.drop lo).take (hi+1 - lo)

def G92 (P:Program) (N:Cfg) (ops:Array Oper) (ws los his:List Nat) (Ls:List Loc):Nat→List Oper→Fr→(Fr→Prop)→Prop
 | _,[],l,K=>K l
 | i,o::r,l,K=>∃ u,(match ws.idxOf? i with
   | some m=>∃ L L',Ls[m]? = some L∧Ls[m+1]? = some L'∧Gb5 P N ops o (G5b (o.looksAt ops) l) L u L'
   | none=>J1d (fun L=>Gb5 P N ops o (G5b (o.looksAt ops) l) L u L) (Hf2 Ls (los.getD i 0) (his.getD i 0)))∧(match o.dst with
   | some d=>Nat.blt d N.n=true∧G92 P N ops ws los his Ls (i+1) r ((d,u)::l) K
   | none=>G92 P N ops ws los his Ls (i+1) r l K)

section pre
variable {P:Program} {N:Cfg} {ops:Array Oper} {ws los his:List Nat} {Ls:List Loc} {i:Nat} {o:Oper} {r:List Oper} {l:Fr} {K:Fr→Prop} {u:AV}
theorem R2 (h:K l):G92 P N ops ws los his Ls i [] l K:=h
theorem Gc {d:Nat} (hd:o.dst=some d) (hi:ws.idxOf? i=none) (h:J1d (fun L=>Gb5 P N ops o (G5b (o.looksAt ops) l) L u L) (Hf2 Ls (los.getD i 0) (his.getD i 0))) (hk:G92 P N ops ws los his Ls (i+1) r ((d,u)::l) K) (hn:Nat.blt d N.n=true:=by rfl) :
  G92 P N ops ws los his Ls i (o::r) l K:=by
 refine⟨u,?_,?_⟩
 ·rw [hi]; exact h
 ·rw [hd]; exact⟨hn,hk⟩
theorem D_w {m d:Nat} {L L':Loc} (hd:o.dst=some d) (hi:ws.idxOf? i=some m) (hL:Ls[m]? = some L) (hL':Ls[m+1]? = some L') (h:Gb5 P N ops o (G5b (o.looksAt ops) l) L u L') (hk:G92 P N ops ws los his Ls (i+1) r ((d,u)::l) K) (hn:Nat.blt d N.n=true:=by rfl) :
  G92 P N ops ws los his Ls i (o::r) l K:=by
 refine⟨u,?_,?_⟩
 ·rw [hi]; exact⟨L,L',hL,hL',h⟩
 ·rw [hd]; exact⟨hn,hk⟩
theorem D_w0 {m:Nat} {L L':Loc} (hd:o.dst=none) (hi:ws.idxOf? i=some m) (hL:Ls[m]? = some L) (hL':Ls[m+1]? = some L') (h:Gb5 P N ops o (G5b (o.looksAt ops) l) L u L') (hk:G92 P N ops ws los his Ls (i+1) r l K) :
  G92 P N ops ws los his Ls i (o::r) l K:=by
 refine⟨u,?_,?_⟩
 ·rw [hi]; exact⟨L,L',hL,hL',h⟩
 ·rw [hd]; exact hk
end pre

/-! ### Why the order is of no account -/
def G35 (ops:List Oper) (l0:Fr) (val:Nat→AV) (Dn:Nat→Bool):Nat→Fr
 | 0=>l0
 | i+1=>match (ops[i]?).bind (·.dst) with
  | some d=>if Dn i then (d,val i)::G35 ops l0 val Dn i else G35 ops l0 val Dn i
  | none=>G35 ops l0 val Dn i

def G46 (ops:List Oper) (Dn:Nat→Bool) (t:Nat):Nat→Option Nat
 | 0=>none
 | i+1=>if Dn i=true∧(ops[i]?).bind (·.dst)=some t then some i else G46 ops Dn t i

theorem Qa6 (d t:Nat) (u:AV) (l:Fr):look ((d,u)::l) t=if d=t then u else look l t:=by
 by_cases e:d=t
 ·subst e; simp [look]
 ·have hb:Nat.beq d t=false:=by
   cases hb:Nat.beq d t with
   | false=>rfl
   | true=>exact absurd (Nat.eq_of_beq_eq_true hb) e
  simp [look,hb,e]

theorem Gaf (ops:List Oper) (l0:Fr) (val:Nat→AV) (Dn:Nat→Bool) (t:Nat):∀ i,look (G35 ops l0 val Dn i) t=match G46 ops Dn t i with
  | some j=>val j
  | none=>look l0 t
 | 0=>rfl
 | i+1=>by
  simp only [G35,G46]
  cases hd:(ops[i]?).bind (·.dst) with
  | none=>simpa using Gaf ops l0 val Dn t i
  | some d=>
   by_cases hD:Dn i=true
   ·by_cases e:d=t
    ·subst e; simp [hD,Qa6]
    ·simp only [hD,if_true,Qa6,true_and,Option.some.injEq,e,if_false]
     exact Gaf ops l0 val Dn t i
   ·simp only [hD,false_and,if_false,Bool.false_eq_true]
    exact Gaf ops l0 val Dn t i

theorem H21 (ops:List Oper) (D D':Nat→Bool) (t:Nat):∀ i,(∀ j,j < i→(ops[j]?).bind (·.dst)=some t→D j=D' j)→G46 ops D t i=G46 ops D' t i
 | 0,_=>rfl
 | i+1,h=>by
  have ih:=H21 ops D D' t i (fun j hj=>h j (by omega))
  simp only [G46]
  by_cases e:(ops[i]?).bind (·.dst)=some t
  ·rw [h i (by omega) e,ih]
  ·simp only [e,and_false,if_false]; exact ih

theorem H62 (ops:List Oper) (D:Nat→Bool) (t i:Nat):∀ n,i≤n→(∀ j,i≤j→j < n→(ops[j]?).bind (·.dst)=some t→D j=false)→G46 ops D t n=G46 ops D t i
 | 0,h,_=>by
  have:i=0:=by omega
  subst this; rfl
 | n+1,h,hh=>by
  by_cases e:i=n+1
  ·subst e; rfl
  ·simp only [G46]
   have ih:=H62 ops D t i n (by omega) (fun j h1 h2=>hh j h1 (by omega))
   by_cases e':(ops[n]?).bind (·.dst)=some t
   ·have:=hh n (by omega) (by omega) e'
    simp only [this,Bool.false_eq_true,false_and,if_false]; exact ih
   ·simp only [e',and_false,if_false]; exact ih

structure Closed (ops:Array Oper) (Dn:Nat→Bool):Prop where
 edge:∀ i o e,Dn i=true→ops[i]? = some o→e∈o.after→Region.binds .any e=true→Dn e.on=true

theorem Closed.anc {ops:Array Oper} {Dn:Nat→Bool} (h:Closed ops Dn) {i j:Nat} (ha:Anc ops i j):Dn i=true→Dn j=true:=by
 induction ha with
 | edge ho he hb=>exact fun hi=>h.edge _ _ _ hi ho he hb
 | trans _ _ ih1 ih2=>exact fun hi=>ih2 (ih1 hi)

theorem Anc.ready {ops:Array Oper} {Dn:Nat→Bool} (h:Closed ops Dn) {i j:Nat} (ha:Anc ops i j):(∀ o e,ops[i]? = some o→e∈o.after→Region.binds .any e=true→Dn e.on=true)→Dn j=true:=by
 induction ha with
 | edge ho he hb=>exact fun hr=>hr _ _ ho he hb
 | trans _ h2 ih1 _=>exact fun hr=>h.anc h2 (ih1 hr)

structure Y31 (P:Program) (N:Cfg) (ops:List Oper) (ws los his:List Nat) (Ls:List Loc) (l0:Fr) (val:Nat→AV) (p:Nat):Prop where
 step:∀ i o,i < p→ops[i]? = some o→(match ws.idxOf? i with
   | some m=>∃ L L',Ls[m]? = some L∧Ls[m+1]? = some L'∧Gb5 P N ops.toArray o (G5b (o.looksAt ops.toArray) (G35 ops l0 val (fun _=>true) i)) L (val i) L'
   | none=>J1d (fun L=>Gb5 P N ops.toArray o (G5b (o.looksAt ops.toArray) (G35 ops l0 val (fun _=>true) i)) L (val i) L) (Hf2 Ls (los.getD i 0) (his.getD i 0)))
 lt:∀ (i:Nat) (o:Oper) (d:Tmp),ops[i]? = some o→o.dst=some d→d < N.n

theorem J97 {P:Program} {N:Cfg} (ops:List Oper) (ws los his:List Nat) (Ls:List Loc) (l0:Fr) (K:Fr→Prop) (p:Nat) (hp:p≤ops.length) (hlt:∀ j o d,p≤j→ops[j]? = some o→o.dst=some d→d < N.n):∀ (r:List Oper) (i:Nat) (val:Nat→AV),(∀ j,j < r.length→r[j]? = ops[i+j]?)→i+r.length=p →
  (∀ j o,j < i→ops[j]? = some o→(match ws.idxOf? j with
   | some m=>∃ L L',Ls[m]? = some L∧Ls[m+1]? = some L'∧Gb5 P N ops.toArray o (G5b (o.looksAt ops.toArray) (G35 ops l0 val (fun _=>true) j)) L (val j) L'
   | none=>J1d (fun L=>Gb5 P N ops.toArray o (G5b (o.looksAt ops.toArray) (G35 ops l0 val (fun _=>true) j)) L (val j) L) (Hf2 Ls (los.getD j 0) (his.getD j 0)))∧∀ d,o.dst=some d→d < N.n) →
  G92 P N ops.toArray ws los his Ls i r (G35 ops l0 val (fun _=>true) i) K→∃ val',Y31 P N ops ws los his Ls l0 val' p∧K (G35 ops l0 val' (fun _=>true) p)
 | [],i,val,hr,hl,hd,h=>by
  simp at hl
  subst hl
  exact⟨val,⟨fun j o hj ho=>(hd j o hj ho).1,fun j o d ho hdd=>by
   have:=(Kh ho).1
   rcases Nat.lt_or_ge j i with e | e
   ·exact(hd j o e ho).2 d hdd
   ·exact hlt j o d e ho hdd⟩,h⟩
 | o::r,i,val,hr,hl,hd,h=>by
  obtain⟨u,h1,h2⟩:=h
  have ho:ops[i]? = some o:=by have:=hr 0 (by simp); simpa using this.symm
  -- the value of operation i is u
  let val':Nat→AV:=fun j=>if j=i then u else val j
  have hv:∀ j,j≤i→G35 ops l0 val' (fun _=>true) j=G35 ops l0 val (fun _=>true) j:=by
   intro j
   induction j with
   | zero=>intro _; rfl
   | succ j ih=>
    intro hj
    have hne:j≠i:=by omega
    simp only [G35,ih (by omega),val',if_neg hne]
  have hvi:val' i=u:=by simp [val']
  refine J97 ops ws los his Ls l0 K p hp hlt r (i+1) val' (fun j hj=>by have:=hr (j+1) (by simpa using hj); simpa [Nat.add_assoc,Nat.add_comm 1 j] using this) (by simp at hl; omega) (fun j o' hj ho'=>?_) ?_
  ·by_cases e:j=i
   ·subst e
    rw [ho] at ho'; cases ho'
    refine⟨?_,fun d hd'=>?_⟩
    ·rw [hv j (Kn),hvi]; exact h1
    ·rw [hd'] at h2; simpa [Nat.blt_eq] using h2.1
   ·obtain⟨a1,a2⟩:=hd j o' (by omega) ho'
    refine⟨?_,a2⟩
    rw [hv j (by omega),show val' j=val j by simp [val',e]]; exact a1
  ·simp only [G35,ho,Option.bind_some,if_true]
   cases hd':o.dst with
   | none=>rw [hd'] at h2; simpa [hv i (Kn)] using h2
   | some d=>rw [hd'] at h2; simpa [hv i (Kn),hvi] using h2.2

theorem J7a (ops:List Oper) (l0:Fr) (val:Nat→AV) (D:Nat→Bool):∀ i,(∀ j,j < i→D j=true)→G35 ops l0 val D i=G35 ops l0 val (fun _=>true) i
 | 0,_=>rfl
 | i+1,h=>by
  simp only [G35,J7a ops l0 val D i (fun j hj=>h j (by omega)),h i (by omega)]

section sound
variable {P:Program} {N:Cfg} {ops:List Oper} {ws los his:List Nat} {Ls:List Loc} {l0:Fr} {val:Nat→AV}

theorem J00 {tbl:List (List Nat)}:∀ {ws:List Nat},J7d tbl ws=true→∀ (m:Nat) x y,ws[m]? = some x→ws[m+1]? = some y→(tbl.getD y []).contains x=true∧x < y
 | [],_,m,x,y,h,_=>by simp at h
 | [_],_,m,x,y,_,h=>by simp at h
 | a::b::r,hc,m,x,y,h1,h2=>by
  simp only [J7d,Kq,Kr] at hc
  cases m with
  | zero=>simp at h1 h2; subst h1; subst h2; exact hc.1
  | succ m=>exact J00 hc.2 m x y (by simpa using h1) (by simpa using h2)

def cnt (Dn:Nat→Bool) (ws:List Nat):Nat:=(ws.filter Dn).length

theorem H0a {Dn:Nat→Bool}:∀ {ws:List Nat},(∀ (m:Nat) x y,ws[m]? = some x→ws[m+1]? = some y→Dn y=true→Dn x=true)→∀ (m:Nat) x,ws[m]? = some x→(Dn x=true ↔ m < cnt Dn ws)
 | [],_,m,x,h=>by simp at h
 | a::r,hc,m,x,h=>by
  have hr:∀ (m:Nat) x y,r[m]? = some x→r[m+1]? = some y→Dn y=true→Dn x=true:=fun m x y h1 h2=>hc (m+1) x y (by simpa using h1) (by simpa using h2)
  by_cases ha:Dn a=true
  ·have e:cnt Dn (a::r)=cnt Dn r+1:=by simp [cnt,ha]
   cases m with
   | zero=>simp at h; subst h; rw [e]; simp [ha]
   | succ m=>
    have:=H0a hr m x (by simpa using h)
    rw [e,this]; omega
  ·have all:∀ (m:Nat) x,r[m]? = some x→Dn x=false:=by
    intro m
    induction m with
    | zero=>
     intro x hx
     cases hd:Dn x with
     | false=>rfl
     | true=>exact absurd (hc 0 a x (by simp) (by simpa using hx) hd) ha
    | succ m ih=>
     intro x hx
     cases hd:Dn x with
     | false=>rfl
     | true=>
      have hlt:m < r.length:=by
       have:=(Kh hx).1; omega
      have:=hr m r[m] x (by simp [hlt]) hx hd
      rw [ih r[m] (by simp [hlt])] at this; cases this
   have e:cnt Dn (a::r)=0:=by
    have:r.filter Dn=[]:=List.filter_eq_nil_iff.2 fun y hy=>by
     obtain⟨m,hm,e⟩:=List.mem_iff_getElem.1 hy
     have:=all m y (by simp [hm,e])
     simp [this]
    simp [cnt,ha,this]
   rw [e]
   cases m with
   | zero=>simp at h; subst h; simp [ha]
   | succ m=>simp [all m x (by simpa using h)]

structure Y38 (P:Program) (N:Cfg) (ops:List Oper) (ws:List Nat) (Ls:List Loc) (l0:Fr) (val:Nat→AV) (w0:World) (β0:Hd) (L0:Loc) (listed:Array Bool) (a:Act) (w:World):Prop where
 size:listed.size=ops.length
 closed:Closed ops.toArray (fun i=>listed.getD i false)
 st:∃ β L,Ls[cnt (fun i=>listed.getD i false) ws]? = some L∧Ys N w0 β0 L0 a w β (G35 ops l0 val (fun i=>listed.getD i false) ops.length) L

def unl (n:Nat) (listed:Array Bool):Nat:=((List.range n).filter fun i=>!listed.getD i false).length

theorem G3c {listed:Array Bool} {i:Nat} (h:i < listed.size):listed.getD i true=listed.getD i false:=by simp [h]

theorem Qad {ro:Option Nat} {n p:Nat} (hnd:∀ (i:Nat) o,ops[i]? = some o→G77 o=true) (chk:J20 ops ws los his=true) (pc:Y31 P N ops ws los his Ls l0 val p) {Q:Post} {w0:World} {β0:Hd} {L0:Loc}
  (hT:(ops.length=p∧∀ L,Ls[ws.length]? = some L→Q.norm (G35 ops l0 val (fun _=>true) p) L)∨(ops.length=p+1∧∃ last,ops[p]? = some last∧(List.range p).all (fun j=>((Gbd ops).getD p []).contains j)=true∧ws.contains p=false ∧
   ∀ a w β L,Ls[ws.length]? = some L→Ys N w0 β0 L0 a w β (G35 ops l0 val (fun _=>true) p) L→wpListIn (FR ro) n P ops.toArray (Q.out N w0 β0 L0) [last] a w)) :
  ∀ (fuel:Nat) (listed:Array Bool) (a:Act) (w:World),unl ops.length listed≤fuel→listed.getD p false=false→Y38 P N ops ws Ls l0 val w0 β0 L0 listed a w→wpAnyIn (FR ro) n P .any ops.toArray (Q.out N w0 β0 L0) fuel listed a w:=by
 simp only [J20,Kq] at chk
 obtain⟨⟨⟨⟨hdown,hord⟩,hchain⟩,hwlt⟩,hst⟩:=chk
 have hwlt':∀ x∈ws,x < ops.length:=fun x hx=>by
  simp only [List.all_eq_true,Kr] at hwlt; exact hwlt x hx
 have anc:∀ {i z:Nat},((Gbd ops).getD i []).contains z=true→Anc ops.toArray i z:=fun h=>Qb3 (by simpa using h)
 have down:∀ i o e,ops[i]? = some o→e∈o.after→Region.binds .any e=true→e.on < i:=by
  intro i o e ho he hb
  have hi:i < ops.length:=(Kh ho).1
  simp only [J1f,List.all_eq_true,List.mem_range] at hdown
  have:=hdown i hi
  rw [ho] at this
  simp only [List.all_eq_true,Kr] at this
  exact this e.on (Ku.2 ⟨e,Kx.2 ⟨Array.mem_toList_iff.2 he,hb⟩,rfl⟩)
 -- when nothing is ready, all is done
 have finish:∀ (listed:Array Bool) (a:Act) (w:World),listed.getD p false=false→Y38 P N ops ws Ls l0 val w0 β0 L0 listed a w→(∀ i,i < ops.length→listed.getD i false=true)→Q.out N w0 β0 L0 .normal a w:=by
  intro listed a w h1 hs hall
  rcases hT with ⟨hp,hQ⟩ | ⟨hp,_⟩
  ·obtain⟨β,L,hL,hok⟩:=hs.st
   have e1:cnt (fun i=>listed.getD i false) ws=ws.length:=by
    unfold cnt
    rw [List.filter_eq_self.2 fun x hx=>hall x (hwlt' x hx)]
   rw [e1] at hL
   rw [J7a ops l0 val _ ops.length (fun j hj=>hall j hj),hp] at hok
   exact⟨β,_,L,hok,hQ L hL⟩
  ·rw [hall p (by omega)] at h1; cases h1
 have stuck:∀ (listed:Array Bool),listed.size=ops.length→Region.ready .any ops.toArray listed=[]→∀ i,i < ops.length→listed.getD i false=true:=by
  intro listed hsz hr i
  induction i using Nat.strongRecOn with
  | _ i ih=>
   intro hi
   cases hd:listed.getD i false with
   | true=>rfl
   | false=>
    exfalso
    have:i∈Region.ready .any ops.toArray listed:=mem_ready.2 ⟨by rw [G3c (by omega)]; exact hd,ops[i],by simp [hi],fun e he hb=>by
     have:=down i ops[i] e (by simp [hi]) he hb
     exact ih e.on this (by omega)⟩
    rw [hr] at this; cases this
 intro fuel
 induction fuel with
 | zero=>
  intro listed a w hu hnp hs
  have hall:∀ i,i < ops.length→listed.getD i false=true:=by
   intro i hi
   cases hd:listed.getD i false with
   | true=>rfl
   | false=>
    have:i∈(List.range ops.length).filter fun i=>!listed.getD i false:=Kx.2 ⟨List.mem_range.2 hi,by rw [hd]; rfl⟩
    have h0:(List.range ops.length).filter (fun i=>!listed.getD i false)=[]:=List.eq_nil_of_length_eq_zero (by unfold unl at hu; omega)
    rw [h0] at this; cases this
  refine⟨?_,finish listed a w hnp hs hall⟩
  cases hr:Region.ready .any ops.toArray listed with
  | nil=>rfl
  | cons i r=>
   have hm:i∈Region.ready .any ops.toArray listed:=by rw [hr]; simp
   obtain⟨h1,o,ho,_⟩:=mem_ready.1 hm
   have hi:i < ops.length:=by have:=(Array.getElem?_eq_some_iff.1 ho).1; simpa using this
   rw [G3c (by rw [hs.size]; exact hi),hall i hi] at h1
   cases h1
 | succ fuel ih=>
  intro listed a w hu hnp hs
  refine⟨fun hr=>finish listed a w hnp hs (stuck listed hs.size hr),fun i hi=>?_⟩
  obtain⟨h1,o,ho,hedge⟩:=mem_ready.1 hi
  have ho':ops[i]? = some o:=by simpa using ho
  have hil:i < ops.length:=(Kh ho').1
  have hnot:listed.getD i false=false:=by rw [← G3c (by rw [hs.size]; exact hil)]; exact h1
  obtain⟨β,L,hL,hok⟩:=hs.st
  have hready:∀ j,Anc ops.toArray i j→listed.getD j false=true:=fun j hj=>hj.ready hs.closed (fun o' e ho2 he hb=>by
   rw [ho] at ho2; cases ho2; exact hedge e he hb)
  have hpre:∀ (m:Nat) x y,ws[m]? = some x→ws[m+1]? = some y→listed.getD y false=true→listed.getD x false=true:=fun m x y h1 h2 hy=>hs.closed.anc (anc (J00 hchain m x y h1 h2).1) hy
  -- what a slot that operation i names has to do with the others
  have names:∀ j t,j < ops.length→j≠i→(ops[j]?).bind (·.dst)=some t→t∈Gae ops.toArray o→(j < i∧Anc ops.toArray i j)∨(i < j∧Anc ops.toArray j i):=by
   intro j t hj hne hd ht
   simp only [Qc6,List.all_eq_true,List.mem_range] at hord
   have:=hord j hj
   rw [hd] at this
   simp only [List.all_eq_true,List.mem_range] at this
   have:=this i hil
   rw [ho'] at this
   have hc:(Gae ops.toArray o).contains t=true:=by simpa using ht
   simp only [hc,Bool.not_true,Bool.false_or,Ky,beq_iff_eq,Ne.symm hne,false_or,ordered] at this
   rcases Nat.lt_or_ge i j with h | h
   ·rw [if_pos h] at this; exact .inr ⟨h,anc this⟩
   ·rw [if_neg (by omega)] at this; exact .inl ⟨by omega,anc this⟩
  have later:∀ j t,i < j→j < ops.length→(ops[j]?).bind (·.dst)=some t→t∈Gae ops.toArray o→listed.getD j false=false:=by
   intro j t hij hj hd ht
   rcases names j t hj (by omega) hd ht with h | h
   ·omega
   ·cases hl:listed.getD j false with
    | false=>rfl
    | true=>
     have:listed.getD i false=true:=hs.closed.anc h.2 hl
     rw [this] at hnot; cases hnot
  have earlier:∀ j t,j < i→(ops[j]?).bind (·.dst)=some t→t∈Gae ops.toArray o→listed.getD j false=true:=by
   intro j t hij hd ht
   rcases names j t (by omega) (by omega) hd ht with h | h
   ·exact hready j h.2
   ·omega
  -- the frame that operation i sees
  have hseen:Qe a w β L (G5b (o.looksAt ops.toArray) (G35 ops l0 val (fun _=>true) i)):=by
   refine⟨fun t=>?_⟩
   rw [J52]
   split
   ·rename_i ht
    have hn:t∈Gae ops.toArray o:=List.mem_append_right _ ht
    have hv:=hok.frame.tmp t
    rw [Gaf] at hv ⊢
    have e1:G46 ops (fun i=>listed.getD i false) t ops.length=G46 ops (fun i=>listed.getD i false) t i:=
     H62 ops _ t i ops.length (by omega) (fun j h1 h2 hd=>by
      rcases Nat.lt_or_ge i j with h | h
      ·exact later j t h h2 hd hn
      ·have:j=i:=by omega
       subst this; exact hnot)
    have e2:G46 ops (fun i=>listed.getD i false) t i=G46 ops (fun _=>true) t i:=H21 ops _ _ t i (fun j hj hd=>earlier j t hj hd hn)
    rw [e1,e2] at hv
    exact hv
   ·exact .junk
  -- behind it
  let listed':=listed.setIfInBounds i true
  have hD':∀ j,listed'.getD j false=if j=i then true else listed.getD j false:=by
   intro j
   simp only [listed',Array.getD_eq_getD_getElem?,Array.getElem?_setIfInBounds]
   by_cases e:i=j
   ·subst e; simp [hs.size,hil]
   ·simp [e,Ne.symm e]
  by_cases hip:i=p
  ·subst hip
   rcases hT with ⟨hp,_⟩ | ⟨hp,last,hlast,hanc,hwp,hQ⟩
   ·omega
   have hall:∀ j,j < i→listed.getD j false=true:=fun j hj=>by
    simp only [List.all_eq_true,List.mem_range] at hanc
    exact hready j (anc (hanc j hj))
   have e1:cnt (fun i=>listed.getD i false) ws=ws.length:=by
    unfold cnt
    rw [List.filter_eq_self.2 fun x hx=>hall x (by
     have h1:=hwlt' x hx
     have h2:x≠i:=fun e=>by subst e; simp at hwp; exact hwp hx
     omega)]
   rw [e1] at hL
   have e2:G35 ops l0 val (fun i=>listed.getD i false) ops.length=G35 ops l0 val (fun _=>true) i:=by
    rw [hp]
    have:G35 ops l0 val (fun i=>listed.getD i false) (i+1)=G35 ops l0 val (fun i=>listed.getD i false) i:=by
     simp only [G35,hnot]
     cases (ops[i]?).bind (·.dst) <;> simp
    rw [this]
    exact J7a ops l0 val _ i (fun j hj=>hall j hj)
   rw [e2] at hok
   have hfin:=hQ a w β L hL hok
   have hr:Region.ready .any ops.toArray listed'=[]:=by
    cases hr:Region.ready .any ops.toArray listed' with
    | nil=>rfl
    | cons j r=>
     have hm:j∈Region.ready .any ops.toArray listed':=by rw [hr]; simp
     obtain⟨h1,o2,ho2,_⟩:=mem_ready.1 hm
     have hj:j < ops.length:=by have:=(Array.getElem?_eq_some_iff.1 ho2).1; simpa using this
     rw [G3c (by simp [listed',hs.size]; exact hj),hD' j] at h1
     by_cases e:j=i
     ·rw [if_pos e] at h1; cases h1
     ·rw [if_neg e,hall j (by omega)] at h1; cases h1
   have hend:∀ a w,Q.out N w0 β0 L0 .normal a w→wpAnyIn (FR ro) n P .any ops.toArray (Q.out N w0 β0 L0) fuel listed' a w:=fun a w h=>by
    cases fuel with
    | zero=>exact⟨hr,h⟩
    | succ f=>exact⟨fun _=>h,fun j hj=>by rw [hr] at hj; cases hj⟩
   rw [ho'] at hlast; cases hlast
   unfold wpOpIn
   rw [ho]
   simp only [wpListIn] at hfin
   show if _ then _ else _
   split
   ·rename_i hw; rw [if_pos hw] at hfin; exact Oper.wpIn_mono hend hfin
   ·rename_i hw; rw [if_neg hw] at hfin; exact⟨hfin.1,hend _ _ hfin.2⟩
  have hnext:∀ (L':Loc) (v:Value) (w':World) (β':Hd),Ls[cnt (fun i=>listed'.getD i false) ws]? = some L'→Sat w' β' L'→Step w β L w' β' L'→V w' β' L' (val i) v →
    wpAnyIn (FR ro) n P .any ops.toArray (Q.out N w0 β0 L0) fuel listed' (a.put o.dst v) w':=by
   intro L' v w' β' hL' hsat' hst' hv'
   refine ih listed' _ w' ?_ (by rw [hD' p,if_neg (fun e=>hip e.symm)]; exact hnp) ⟨by simp [listed',hs.size],⟨fun k o2 e hk ho2 he hb=>?_⟩,β',L',hL',hsat',hok.step.trans hst',⟨fun t=>?_⟩,by rw [Act.put_size]; exact hok.size,hok.base,by rw [Act.put_defers']; exact hok.defers.step hst'⟩
   ·-- one fewer is left
    have hsub:((List.range ops.length).filter fun j=>!listed'.getD j false).length < ((List.range ops.length).filter fun j=>!listed.getD j false).length:=by
     have:(List.range ops.length).filter (fun j=>!listed'.getD j false)=((List.range ops.length).filter fun j=>!listed.getD j false).filter (fun j=>j != i):=by
      rw [List.filter_filter]
      congr 1
      funext j
      rw [hD' j]
      by_cases e:j=i <;> simp [e]
     rw [this]
     refine Nat.lt_of_le_of_ne (List.length_filter_le _ _) (fun e=>?_)
     have:=List.length_filter_eq_length_iff.1 e i (Kx.2 ⟨List.mem_range.2 hil,by rw [hnot]; rfl⟩)
     simp at this
    unfold unl at hu ⊢; omega
   ·rw [hD'] at hk ⊢
    by_cases e':e.on=i
    ·rw [if_pos e']
    ·rw [if_neg e']
     by_cases e2:k=i
     ·subst e2
      rw [ho] at ho2; cases ho2
      exact hedge e he hb
     ·rw [if_neg e2] at hk
      exact hs.closed.edge k o2 e hk ho2 he hb
   ·rw [Gaf]
    by_cases hd:o.dst=some t
    ·have hn:t∈Gae ops.toArray o:=List.mem_append_left _ (by simp [hd])
     have hdi:(ops[i]?).bind (·.dst)=some t:=by rw [ho']; exact hd
     have e1:G46 ops (fun i=>listed'.getD i false) t ops.length=G46 ops (fun i=>listed'.getD i false) t (i+1):=
      H62 ops _ t (i+1) ops.length (by omega) (fun j h1 h2 hdj=>by rw [hD' j,if_neg (by omega)]; exact later j t (by omega) h2 hdj hn)
     have e2:G46 ops (fun i=>listed'.getD i false) t (i+1)=some i:=by simp only [G46]; rw [if_pos ⟨by rw [hD' i,if_pos rfl],hdi⟩]
     rw [e1,e2,hd,Hfb (Nat.lt_of_lt_of_le (pc.lt i o t ho' hd) hok.size),if_pos rfl]
     exact hv'
    ·have e1:G46 ops (fun i=>listed'.getD i false) t ops.length=G46 ops (fun i=>listed.getD i false) t ops.length:=
      H21 ops _ _ t ops.length (fun j hj hdj=>by
       rw [hD' j,if_neg (fun e=>hd (by subst e; rw [ho'] at hdj; exact hdj))])
     have hv:=(hok.frame.tmp t).step hst'
     rw [Gaf] at hv
     rw [e1]
     have e2:(a.put o.dst v).tmps.getD t undef=a.tmps.getD t undef:=by
      cases hdd:o.dst with
      | none=>rfl
      | some d=>
       have hlt:d < a.tmps.size:=Nat.lt_of_lt_of_le (pc.lt i o d ho' hdd) hok.size
       rw [Hfb hlt,if_neg (fun e=>hd (by rw [hdd,e]))]
     rw [e2]; exact hv
  unfold wpOpIn
  rw [ho]
  have fin:(∃ L',Ls[cnt (fun i=>listed'.getD i false) ws]? = some L'∧Gb5 P N ops.toArray o (G5b (o.looksAt ops.toArray) (G35 ops l0 val (fun _=>true) i)) L (val i) L') →
    if Region.wanted o (yielded ops.toArray a.tmps)=true then Oper.wpIn (FR ro) n P o a w (wpAnyIn (FR ro) n P .any ops.toArray (Q.out N w0 β0 L0) fuel listed') (Q.out N w0 β0 L0) else (∀ f,o.about P w a.eval=some f→(FR ro).fn f)∧wpAnyIn (FR ro) n P .any ops.toArray (Q.out N w0 β0 L0) fuel listed' (a.put o.dst undef) w:=by
   rintro⟨L',hL',hO⟩
   have:=hO a w β (wpAnyIn (FR ro) n P .any ops.toArray (Q.out N w0 β0 L0) fuel listed') (Q.out N w0 β0 L0) hok.sat hseen hok.size (fun v w' β' h1 h2 h3=>hnext L' v w' β' hL' h1 h2 h3)
   split
   ·rename_i hw; rw [if_pos hw] at this; exact H4f (hnd i o ho') this
   ·rename_i hw; rw [if_neg hw] at this; exact⟨fun _ _=>trivial,this⟩
  apply fin
  have hpc:=pc.step i o (by rcases hT with ⟨hp,_⟩ | ⟨hp,_⟩ <;> omega) ho'
  have hcnt:∀ (hw:ws.idxOf? i=none),cnt (fun i=>listed'.getD i false) ws=cnt (fun i=>listed.getD i false) ws:=by
   intro hw
   unfold cnt
   congr 1
   refine List.filter_congr fun x hx=>?_
   rw [hD' x,if_neg (fun e=>by subst e; exact absurd (List.idxOf?_eq_none_iff.1 hw) (by simpa using hx))]
  cases hwi:ws.idxOf? i with
  | none=>
   rw [hwi] at hpc
   simp only at hpc
   refine⟨L,by rw [hcnt hwi]; exact hL,?_⟩
   -- the stage lies between lo and hi
   simp only [List.all_eq_true,List.mem_range] at hst
   have hsti:=hst i hil
   have hni:ws.contains i=false:=by
    cases hc:ws.contains i with
    | false=>rfl
    | true=>exact absurd (List.idxOf?_eq_none_iff.1 hwi) (by simpa using hc)
   rw [hni] at hsti
   simp only [Bool.false_or,Kq,beq_iff_eq] at hsti
   obtain⟨hlo,hhi⟩:=hsti
   have h1:los.getD i 0≤cnt (fun i=>listed.getD i false) ws:=by
    rw [hlo]; unfold Ra8 cnt
    have:ws.filter (fun w=>((Gbd ops).getD i []).contains w)=(ws.filter fun w=>listed.getD w false).filter (fun w=>((Gbd ops).getD i []).contains w):=by
     rw [List.filter_filter]
     refine List.filter_congr fun x _=>?_
     cases hc:((Gbd ops).getD i []).contains x with
     | false=>simp
     | true=>simp [hready x (anc hc)]
    rw [this]; exact List.length_filter_le _ _
   have h2:cnt (fun i=>listed.getD i false) ws≤his.getD i 0:=by
    rw [hhi]; unfold Ra9 cnt
    have:ws.filter (fun w=>listed.getD w false)=(ws.filter fun w=>!((Gbd ops).getD w []).contains i).filter (fun w=>listed.getD w false):=by
     rw [List.filter_filter]
     refine List.filter_congr fun x _=>?_
     cases hc:listed.getD x false with
     | false=>simp
     | true=>
      cases hc2:((Gbd ops).getD x []).contains i with
      | false=>simp
      | true=>
       have:listed.getD i false=true:=hs.closed.anc (anc hc2) hc
       rw [this] at hnot; cases hnot
    rw [this]; exact List.length_filter_le _ _
   refine Jd3 hpc (i:=cnt (fun i=>listed.getD i false) ws - los.getD i 0) ?_
   unfold Hf2
   rw [List.getElem?_take,if_pos (by omega),List.getElem?_drop]
   rw [show los.getD i 0+(cnt (fun i=>listed.getD i false) ws - los.getD i 0)=cnt (fun i=>listed.getD i false) ws by omega]
   exact hL
  | some m=>
   rw [hwi] at hpc
   simp only at hpc
   obtain⟨L1,L2,hL1,hL2,hO⟩:=hpc
   have hmi:ws[m]? = some i:=by
    have:=List.idxOf?_eq_some_iff.1 hwi
    obtain⟨h,e,_⟩:=this
    simp [h,e]
   -- the stage is m
   have hstage:cnt (fun i=>listed.getD i false) ws=m:=by
    have hle:¬ m < cnt (fun i=>listed.getD i false) ws:=fun h=>by
     have:=(H0a (Dn:=fun i=>listed.getD i false) hpre m i hmi).2 h
     simp only [hnot] at this; cases this
    rcases Nat.lt_or_ge (cnt (fun i=>listed.getD i false) ws) m with h | h
    ·exfalso
     -- the one before i is done
     have hm1:m - 1 < ws.length:=by have:=(Kh hmi).1; omega
     have hpx:ws[m - 1]? = some ws[m - 1]:=by simp [hm1]
     have:=J00 hchain (m - 1) ws[m - 1] i hpx (by rw [show m - 1+1=m by omega]; exact hmi)
     have hdone:=hready _ (anc this.1)
     have:=(H0a (Dn:=fun i=>listed.getD i false) hpre (m - 1) _ hpx).1 hdone
     omega
    ·omega
   have hclosed':∀ (k:Nat) x y,ws[k]? = some x→ws[k+1]? = some y→listed'.getD y false=true→listed'.getD x false=true:=by
    intro k x y hx hy hdy
    rw [hD'] at hdy ⊢
    by_cases e:x=i
    ·rw [if_pos e]
    ·rw [if_neg e]
     by_cases e2:y=i
     ·subst e2; exact hready _ (anc (J00 hchain k x y hx hy).1)
     ·rw [if_neg e2] at hdy; exact hpre k x y hx hy hdy
   have hcnt':cnt (fun i=>listed'.getD i false) ws=m+1:=by
    have a1:=(H0a (Dn:=fun i=>listed'.getD i false) hclosed' m i hmi).1 (by simp only [hD',if_pos])
    rcases Nat.lt_or_ge (m+1) (cnt (fun i=>listed'.getD i false) ws) with h | h
    ·exfalso
     have hlen:cnt (fun i=>listed'.getD i false) ws≤ws.length:=List.length_filter_le _ _
     have hlt:m+1 < ws.length:=by omega
     have hx:ws[m+1]? = some ws[m+1]:=by simp [hlt]
     have hd:=(H0a (Dn:=fun i=>listed'.getD i false) hclosed' (m+1) _ hx).2 h
     have hne:ws[m+1]≠i:=fun e=>by
      have:=(J00 hchain m i ws[m+1] hmi hx).2
      omega
     simp only [hD',if_neg hne] at hd
     have:=(H0a (Dn:=fun i=>listed.getD i false) hpre (m+1) _ hx).1 hd
     omega
    ·omega
   rw [hstage] at hL
   rw [hL1] at hL; cases hL
   exact⟨L2,by rw [hcnt']; exact hL2,hO⟩

theorem Ys.drew {N:Cfg} {w0 w:World} {β0 β:Hd} {L0 L:Loc} {a:Act} {l:Fr} (h:Ys N w0 β0 L0 a w β l L):Ys N w0 β0 L0 a w.drew β l L:=by
 have st:Step w β L w.drew β L:=⟨rfl,rfl,⟨rfl,Nat.le_succ _⟩,Kn,fun _ _ _=>Iff.rfl,fun _ _ h=>⟨⟨h.lt,h.seen,h.kept⟩,rfl⟩,fun _ _ h=>⟨rfl,h⟩,fun _ _ cs h=>⟨rfl,cs,h⟩,fun _ _ es h=>⟨rfl,es,h⟩,fun _ _ n es h=>⟨rfl,n,es,h⟩,fun _ _ _ ver xs h=>⟨ver,xs,h,Kn,fun _=>⟨rfl,rfl,fun _ _=>rfl⟩⟩,fun _ _ _ ver hw h=>⟨ver,hw,h,Kn,fun _=>⟨rfl,rfl,fun _ _=>rfl⟩⟩⟩
 exact⟨⟨h.sat.hid,h.sat.bnd,h.sat.apart,h.sat.inj,fun id o ho=>(h.sat.obj id o ho).step st (fun _ _=>rfl)⟩,h.step.trans st,h.frame.step st,h.size,h.base,h.defers.step st⟩

theorem Jf {id:Nat} {Q:Post} {l:Fr} {L L':Loc} (ws los his:List Nat) (Ls:List Loc) (hm:P.follows .mixedOrders=true) (chk:J20 ops ws los his=true) (h0:Ls[0]? = some L) (h1:Ls[ws.length]? = some L')
  (h:G92 P N ops.toArray ws los his Ls 0 ops l (fun l'=>Q.norm l' L')) (hnd:ops.all G77=true:=by rfl):JC P N (.region id ops.toArray true) Q l L:=by
 obtain⟨val,pc,hK⟩:=J97 ops ws los his Ls l _ ops.length (Kn) (fun j o d hj ho _=>by have:=(Kh ho).1; omega) ops 0 (fun _=>.junk) (fun j _=>by simp) (by simp) (fun j o hj=>by omega) h
 intro n w0 β0 L0 a w β hs
 refine wpIn_region_any hm ?_
 rw [List.size_toArray]
 refine Qad (ro:=N.ro) (n:=n) (fun i o hi=>List.all_eq_true.1 hnd o (Kk hi)) chk pc (.inl ⟨rfl,fun L'' hL''=>by rw [h1] at hL''; cases hL''; exact hK⟩) ops.length (Array.replicate ops.length false) a _ ?_ (by simp only [Array.getD_eq_getD_getElem?,Array.getElem?_replicate]; split <;> rfl) ⟨by simp,⟨fun i o e hi=>?_⟩,β,L,?_,?_⟩
 ·exact Nat.le_trans (List.length_filter_le _ _) (by simp)
 ·simp only [Array.getD_eq_getD_getElem?,Array.getElem?_replicate] at hi
  split at hi <;> simp at hi
 ·have:cnt (fun i=>(Array.replicate ops.length false).getD i false) ws=0:=by
   unfold cnt
   have hf:∀ i,(Array.replicate ops.length false).getD i false=false:=fun i=>by
    simp only [Array.getD_eq_getD_getElem?,Array.getElem?_replicate]; split <;> rfl
   simp [hf]
  rw [this]; exact h0
 ·have this:G35 ops l val (fun i=>(Array.replicate ops.length false).getD i false) ops.length=l:=by
   have hf:(fun i=>(Array.replicate ops.length false).getD i false)=fun _=>false:=by
    funext i
    simp only [Array.getD_eq_getD_getElem?,Array.getElem?_replicate]; split <;> rfl
   rw [hf]
   have:∀ n,G35 ops l val (fun _=>false) n=l:=by
    intro n
    induction n with
    | zero=>rfl
    | succ n ih=>
     cases hd:(ops[n]?).bind (·.dst) with
     | none=>simp only [G35,hd]; exact ih
     | some d=>simp only [G35,hd,Bool.false_eq_true,if_false]; exact ih
   exact this _
  rw [this]; exact hs.drew
end sound

/-! ### Open orders in which nothing turns the local memory: without stages -/
section plain
variable {P:Program} {N:Cfg} {ops:Array Oper} {o:Oper} {r:List Oper} {l:Fr} {L:Loc} {K:Fr→Prop}
def H10 (P:Program) (N:Cfg) (ops:Array Oper) (L:Loc):List Oper→Fr→(Fr→Prop)→Prop
 | [],l,K=>K l
 | o::r,l,K=>∃ u,Gb5 P N ops o (G5b (o.looksAt ops) l) L u L∧(match o.dst with
   | some d=>Nat.blt d N.n=true∧H10 P N ops L r ((d,u)::l) K
   | none=>H10 P N ops L r l K)
theorem H10.pre {zs:List Nat} (hz:∀ i,zs.getD i 0=0):∀ {r:List Oper} {i:Nat} {l:Fr},H10 P N ops L r l K→G92 P N ops [] zs zs [L] i r l K
 | [],_,_,h=>h
 | o::r,i,l,h=>by
  obtain⟨u,h1,h2⟩:=h
  refine⟨u,?_,?_⟩
  ·rw [hz i]; exact⟨h1,trivial⟩
  ·cases hd:o.dst with
   | some d=>rw [hd] at h2; exact⟨h2.1,h2.2.pre hz⟩
   | none=>rw [hd] at h2; exact H10.pre hz h2
theorem JC_d0 {ops:List Oper} {id:Nat} {Q:Post} (hm:P.follows .mixedOrders=true) (chk:J20 ops [] (List.replicate ops.length 0) (List.replicate ops.length 0)=true) (h:H10 P N ops.toArray L ops l (fun l'=>Q.norm l' L)) (hnd:ops.all G77=true:=by rfl):JC P N (.region id ops.toArray true) Q l L:=
 Jf [] _ _ [L] hm chk rfl rfl (h.pre (fun i=>by simp only [List.getD_eq_getElem?_getD,List.getElem?_replicate]; split <;> rfl)) hnd
theorem Dq (v:AV) {d:Nat} (h:H5 P o (G5b (o.looksAt ops) l) L (Is v L)) (hd:o.dst=some d) (hk:H10 P N ops L r ((d,v)::l) K) (hg:o.guard=none:=by rfl) (hn:Nat.blt d N.n=true:=by rfl):H10 P N ops L (o::r) l K:=
 ⟨v,Gt h hg,by rw [hd]; exact⟨hn,hk⟩⟩
theorem Do (v:AV) (ts:List Nat) {d:Nat} {want c:Bool} {gv:AV} (hg:grd ops (G5b (o.looksAt ops) l) o=some (want,gv)) (hgd:Hd9 gv want c) (hus:J37 c (G5b (o.looksAt ops) l) (J94 (G5b (o.looksAt ops) l) ts))
  (h:c=true→H5 P o (J94 (G5b (o.looksAt ops) l) ts++G5b (o.looksAt ops) l) L (Is v L)) (hd:o.dst=some d) (hk:H10 P N ops L r ((d,.opt c v)::l) K) (hjn:Y55 ops N.n o=true:=by rfl) (hn:Nat.blt d N.n=true:=by rfl):H10 P N ops L (o::r) l K:=by
 obtain⟨j,dj,h1,h2,h3,h4⟩:=Rbf hg hjn
 exact⟨.opt c v,Gh _ h1 h2 h3 hgd hus h h4,by rw [hd]; exact⟨hn,hk⟩⟩
theorem Dg (v:AV) {d:Nat} (h:Gb5 P N ops o (G5b (o.looksAt ops) l) L v L) (hd:o.dst=some d) (hk:H10 P N ops L r ((d,v)::l) K) (hn:Nat.blt d N.n=true:=by rfl):H10 P N ops L (o::r) l K:=
 ⟨v,h,by rw [hd]; exact⟨hn,hk⟩⟩
theorem Dnil (h:K l):H10 P N ops L [] l K:=h
end plain

structure H83 (P:Program) (k:TypeId) {κ:Type} (kv:κ→Value):Prop where
 inj:∀ a b,kv a=kv b→a=b
 check:∀ (w:World) (em:Bool) a,(Instr.checkKey em 10000 k (kv a)).run P w=.ok () w
 find:∀ (w:World) a (es:List MapEntry),(∀ e∈es,∃ b,e.key=kv b) →
  ((Instr.findKey k (kv a) es).run P w=.ok none w∧∀ e∈es,e.key≠kv a)∨∃ j e,(Instr.findKey k (kv a) es).run P w=.ok (some (j,e.val)) w∧es[j]? = some e∧e.key=kv a
 stays:∀ (w:World) a,(Instr.keyThatStays (kv a) (kv a)).run P w=.ok (kv a) w

theorem H83.of_int {P:Program} {k:TypeId} {kd:IntKind} (h:J79 P k kd=true):H83 P k (fun n:Int=>Value.int kd n) where
 inj:=fun a b e=>by cases e; rfl
 check:=fun w em a=>by
  show (Instr.checkKey em (9999+1) k (.int kd a)).run P w=.ok () w
  generalize 9999=n
  simp only [Instr.checkKey,underlying,run_program,Sem.run_bind,Result.andThen_ok,J79.out h,Sem.run_pure]
 find:=fun w a es he=>by
  have key:∀ (es:List MapEntry) (i:Nat),(∀ e∈es,∃ b,e.key=Value.int kd b) →
    (Instr.findNow (.int kd) (.int kd a) es i=some none∧∀ e∈es,e.key≠.int kd a)∨∃ j e,Instr.findNow (.int kd) (.int kd a) es i=some (some (i+j,e.val))∧es[j]? = some e∧e.key=.int kd a:=by
   intro es
   induction es with
   | nil=>intro i _; exact .inl ⟨rfl,by simp⟩
   | cons x r ih=>
    intro i he
    obtain⟨b,hb⟩:=he x (by simp)
    by_cases e:a=b
    ·subst e
     exact .inr ⟨0,x,by simp [Instr.findNow,Instr.sameNow,hb],rfl,hb⟩
    ·have hs:Instr.findNow (.int kd) (.int kd a) (x::r) i=Instr.findNow (.int kd) (.int kd a) r (i+1):=by
      have e':(a==b)=false:=by simp [e]
      simp [Instr.findNow,Instr.sameNow,hb,e']
     rcases ih (i+1) (fun y hy=>he y (by simp [hy])) with ⟨h1,h2⟩ | ⟨j,y,h1,h2,h3⟩
     ·refine .inl ⟨by rw [hs]; exact h1,fun y hy=>?_⟩
      rcases Kw.1 hy with rfl | hy
      ·rw [hb]; intro e'; cases e'; exact e rfl
      ·exact h2 y hy
     ·exact .inr ⟨j+1,y,by rw [hs,h1]; congr 3; omega,by simpa using h2,h3⟩
  rcases key es 0 he with ⟨h1,h2⟩ | ⟨j,e,h1,h2,h3⟩
  ·exact .inl ⟨by simp [Instr.findKey,underlying,J79.out h,h1],h2⟩
  ·exact .inr ⟨j,e,by simp [Instr.findKey,underlying,J79.out h,h1],h2,h3⟩
 stays:=fun w a=>by simp [Instr.keyThatStays,Instr.sameBits]

/-! ### A map as a list of keys and elements -/
section plain
variable {κ ν:Type} [DecidableEq κ]
def G93 (l:List (κ×ν)) (a:κ):Option ν:=(l.find? fun p=>p.1=a).map (·.2)
def G5c (l:List (κ×ν)) (a:κ):Nat:=l.findIdx fun p=>p.1=a
def Ge6 (l:List (κ×ν)) (a:κ):Bool:=l.any fun p=>p.1=a
def H77 (l:List (κ×ν)) (a:κ) (v:ν):List (κ×ν):=if Ge6 l a then l.map fun p=>if p.1=a then (a,v) else p else l++[(a,v)]
def H20 (l:List (κ×ν)) (a:κ) (z:ν):List (κ×ν):=if Ge6 l a then l else l++[(a,z)]
end plain
def mapOf {κ ν:Type} (kv:κ→Value) (av:ν→AV) (l:List (κ×ν)):List (Value×AV):=l.map fun p=>(kv p.1,av p.2)

section plain
variable {κ ν:Type} [DecidableEq κ]
theorem Rf0 {l:List (κ×ν)} {a:κ} (h:∀ p∈l,p.1≠a):G93 l a=none:=by
 unfold G93
 rw [List.find?_eq_none.2 fun p hp=>by simpa using h p hp]; rfl
theorem R8d {l:List (κ×ν)} {a:κ} (h:∀ p∈l,p.1≠a):Ge6 l a=false:=by
 unfold Ge6
 rw [List.any_eq_false]; intro p hp; simpa using h p hp
theorem H4d {l:List (κ×ν)} {a:κ} {p:κ×ν} (hp:p∈l) (h:p.1=a):Ge6 l a=true:=by
 unfold Ge6
 rw [List.any_eq_true]; exact⟨p,hp,by simpa using h⟩
theorem J1b:∀ {l:List (κ×ν)},(l.map (·.1)).Nodup→∀ {j:Nat} {a:κ} {v:ν},l[j]? = some (a,v)→G93 l a=some v∧G5c l a=j
 | [],_,j,a,v,h=>by simp at h
 | (b,u)::r,hn,j,a,v,h=>by
  simp only [List.map_cons,List.nodup_cons] at hn
  cases j with
  | zero=>simp at h; obtain⟨rfl,rfl⟩:=h; simp [G93,G5c,List.findIdx_cons]
  | succ j=>
   simp at h
   have hne:b≠a:=fun e=>hn.1 (by subst e; exact Ku.2 ⟨(b,v),Kk h,rfl⟩)
   obtain⟨h1,h2⟩:=J1b hn.2 h
   simp only [G93,G5c] at h1 h2 ⊢
   simp [List.findIdx_cons,hne,h1,h2]
theorem J1a:∀ {l:List (κ×ν)} {a:κ},(∀ p∈l,p.1≠a)→G5c l a=l.length
 | [],_,_=>rfl
 | (b,u)::r,a,h=>by
  have hb:b≠a:=h (b,u) (by simp)
  have:=J1a (l:=r) (a:=a) (fun p hp=>h p (by simp [hp]))
  simp only [G5c] at this ⊢
  simp [List.findIdx_cons,hb,this]
end plain

/-! ### One object of the call's own is changed -/
def Jt.alike:Jt→Jt→Prop
 | .map t _,.map t' _=>t=t'
 | .iter m _ _,.iter m' _ _=>m=m'
 | _,_=>False

theorem Step.change {w w':World} {β:Hd} {L:Loc} {i b:Nat} {o o':Jt} (hsat:Sat w β L) (hi:lk L i=some o) (hb:β i=some b) (ha:o.alike o')
  (h1:w'.os=w.os) (h2:w'.tape=w.tape) (h3:w'.output=w.output∧w.drawn≤w'.drawn) (h4:w'.heap.size=w.heap.size) (h5:∀ k,k≠b→w'.heap[k]? = w.heap[k]?):Step w β L w' β ((i,o')::L) where
 os:=h1
 tape:=h2
 output:=h3
 size:=by omega
 hid:=fun _ _ _=>Iff.rfl
 stab:=fun b' j hs=>by
  have hne:b'≠b:=fun e=>by subst e; have:=hs.kept i _ hi hb; cases o <;> cases o' <;> simp [Jt.alike] at ha <;> exact this
  refine⟨⟨by rw [h4]; exact hs.lt,hs.seen,fun id o2 hid hid'=>?_⟩,World.cell?_of_block (w:=w) (h5 b' hne)⟩
  rw [Gs] at hid
  by_cases e:i=id
  ·subst e; rw [hb] at hid'; exact absurd (Kj hid') (Ne.symm hne)
  ·rw [if_neg e] at hid; exact hs.kept id o2 hid hid'
 far:=fun b' hlt hf=>by
  have hne:b'≠b:=fun e=>by subst e; exact hf i (by rw [hi]; rfl) hb
  refine⟨h5 b' hne,fun id hid=>?_⟩
  rw [Gs] at hid
  by_cases e:i=id
  ·subst e; rw [hb]; exact fun e=>hne (Kj e).symm
  ·rw [if_neg e] at hid; exact hf id hid
 box:=fun id t' cs hid=>by
  refine⟨rfl,cs,?_⟩
  rw [Gs,if_neg (fun e=>by subst e; rw [hi] at hid; cases hid; cases o' <;> simp [Jt.alike] at ha)]; exact hid
 map:=fun id t' es hid=>by
  refine⟨rfl,?_⟩
  rw [Gs]
  by_cases e:i=id
  ·subst e; rw [hi] at hid; cases hid
   cases o' <;> simp [Jt.alike] at ha
   subst ha; exact⟨_,if_pos rfl⟩
  ·exact⟨es,by rw [if_neg e]; exact hid⟩
 iter:=fun id m n es hid=>by
  refine⟨rfl,?_⟩
  rw [Gs]
  by_cases e:i=id
  ·subst e; rw [hi] at hid; cases hid
   cases o' <;> simp [Jt.alike] at ha
   subst ha; exact⟨_,_,if_pos rfl⟩
  ·exact⟨n,es,by rw [if_neg e]; exact hid⟩
 vec:=fun id t' k ver xs hid=>by
  have e:i≠id:=fun e=>by subst e; rw [hi] at hid; cases hid; cases o' <;> simp [Jt.alike] at ha
  refine⟨ver,xs,by rw [Gs,if_neg e]; exact hid,Kn,fun _=>⟨rfl,rfl,fun b' hb'=>G5a (h5 b' (fun e'=>?_))⟩⟩
  subst e'
  exact e (hsat.inj i id b' (by rw [hi]; rfl) (by rw [hid]; rfl) hb hb')
 spare:=fun id t' k ver hw hid=>by
  have e:i≠id:=fun e=>by subst e; rw [hi] at hid; cases hid; cases o' <;> simp [Jt.alike] at ha
  refine⟨ver,hw,by rw [Gs,if_neg e]; exact hid,Kn,fun _=>⟨rfl,rfl,fun b' hb'=>h5 b' (fun e'=>?_)⟩⟩
  subst e'
  exact e (hsat.inj i id b' (by rw [hi]; rfl) (by rw [hid]; rfl) hb hb')

theorem Sat.change {w w':World} {β:Hd} {L:Loc} {i b:Nat} {o o':Jt} (hsat:Sat w β L) (hi:lk L i=some o) (hb:β i=some b) (st:Step w β L w' β ((i,o')::L)) (h4:w'.heap.size=w.heap.size) (h5:∀ k,k≠b→w'.heap[k]? = w.heap[k]?)
  (ho:Gd9 w' β ((i,o')::L) (some b) o'):Sat w' β ((i,o')::L):=by
 have hsome:∀ id,(lk ((i,o')::L) id).isSome=true→(lk L id).isSome=true:=fun id h=>by
  rw [Gs] at h
  by_cases e:i=id
  ·subst e; rw [hi]; rfl
  ·rwa [if_neg e] at h
 refine⟨fun b i h=>by rw [h4]; exact hsat.hid b i h,fun id b' hid hb'=>by rw [h4]; exact hsat.bnd id b' (hsome id hid) hb',fun id b' j hid hb'=>hsat.apart id b' j (hsome id hid) hb',fun id id' b' h1 h2=>hsat.inj id id' b' (hsome id h1) (hsome id' h2),fun id ob hid=>?_⟩
 rw [Gs] at hid
 by_cases e:i=id
 ·subst e
  simp at hid; subst hid
  rw [hb]; exact ho
 ·rw [if_neg e] at hid
  refine(hsat.obj id ob hid).step st (fun b' hb'=>h5 b' (fun e'=>?_))
  subst e'
  exact e (hsat.inj i id b' (by rw [hi]; rfl) (by rw [hid]; rfl) hb hb')

/-! ### The operations -/
def Gf0 (P:Program) (T K E:Nat):Bool:=match P.underlying T with | some (.map k e)=>k==K&&e==E | _=>false
theorem Gf0.out {P:Program} {T K E:Nat} (h:Gf0 P T K E=true):P.underlying T=some (.map K E):=by
 unfold Gf0 at h; split at h
 ·simp only [Kq,beq_iff_eq] at h; obtain⟨rfl,rfl⟩:=h; assumption
 ·cases h

def G2a:Value→AV
 | .agg vs=>.agg (vs.toList.map .sc)
 | v=>.sc v
theorem J60 {w:World} {S:Nat→Nat→Prop} (v:Value):D w S (G2a v) v:=by
 cases v with
 | agg vs=>
  refine .agg (by simp) fun j u v hu hv=>?_
  simp only [List.getElem?_map,Option.map_eq_some_iff] at hu
  obtain⟨x,hx,rfl⟩:=hu
  rw [Array.getElem?_toList] at hx
  rw [hx] at hv; cases hv; exact .sc
 | _=>exact .sc

section mops
variable {P:Program} {o:Oper} {l:Fr} {L:Loc} {u:AV}

theorem Y09 (i:Nat) {T:Nat} (ho:o.op=.makeMap T none) (hi:lk L i=none):H5 P o l L (Is (.mp i) ((i,.map T [])::L)):=by
 intro a w β K Q hsat hf hK
 have hr:(execOp a.eval o).run P w=.ok (.value (.map (some w.heap.size))) (w.alloc (.map #[] 0)):=by
  simp [execOp,ho,Instr.makeMap]
 unfold Oper.wp
 rw [hr]
 exact hK _ _ _ _ (upP β i (some w.heap.size)) ⟨rfl,rfl⟩ (hsat.alloc hi _ (fun hs=>⟨_,rfl,#[],heap_alloc_new w _,rfl,fun i e k u he=>by simp at he⟩)) (Step.alloc hi hsat.bnd _) (.mp (t:=T) (es:=[]) (by simp [Gs]) (by simp [upP]))

theorem Hf6 {w:World} {β:Hd} {i b:Nat} {t:TypeId} {es:List (Value×AV)} (hsat:Sat w β L) (hi:lk L i=some (.map t es)) (hb:β i=some b):MapAt w (Qd w β L) b es:=by
 obtain⟨b',hb',h⟩:=hsat.obj i _ hi
 rw [hb] at hb'; cases hb'
 exact h

section typed
variable {κ ν:Type} [DecidableEq κ] {kv:κ→Value} {av:ν→AV}

theorem Q3e {w:World} {S:Nat→Nat→Prop} {K:Nat} {lst:List (κ×ν)} (hk:H83 P K kv) (hn:(lst.map (·.1)).Nodup) {ents:Array MapEntry} (hsz:ents.size=(mapOf kv av lst).length)
  (he:∀ (i:Nat) e k u,ents[i]? = some e→(mapOf kv av lst)[i]? = some (k,u)→e.key=k∧D w S u e.val∧e.born=i) (a:κ) :
  ((Instr.findKey K (kv a) ents.toList).run P w=.ok none w∧(∀ p∈lst,p.1≠a)∧G93 lst a=none∧Ge6 lst a=false∧G5c lst a=ents.size) ∨
  ∃ e v,(Instr.findKey K (kv a) ents.toList).run P w=.ok (some (G5c lst a,e.val)) w∧ents[G5c lst a]? = some e∧e.key=kv a∧G93 lst a=some v∧Ge6 lst a=true∧D w S (av v) e.val∧lst[G5c lst a]? = some (a,v)∧e.born=G5c lst a:=by
 have hlen:ents.size=lst.length:=by simpa [mapOf] using hsz
 have hall:∀ e∈ents.toList,∃ b,e.key=kv b:=by
  intro e hm
  obtain⟨j,hj,e1⟩:=List.mem_iff_getElem.1 hm
  have hj':j < lst.length:=by simpa [hlen] using hj
  refine⟨lst[j].1,(he j e (kv lst[j].1) (av lst[j].2) ?_ ?_).1⟩
  ·rw [← e1]; simp at hj; simp [hj]
  ·simp [mapOf,hj']
 rcases hk.find w a ents.toList hall with ⟨h1,h2⟩ | ⟨j,e,h1,h2,h3⟩
 ·have hno:∀ p∈lst,p.1≠a:=by
   intro p hp e
   obtain⟨j,hj,e1⟩:=List.mem_iff_getElem.1 hp
   have hj':j < ents.size:=by omega
   have:=(he j ents[j] (kv lst[j].1) (av lst[j].2) (by simp [hj']) (by simp [mapOf,hj])).1
   refine h2 ents[j] (Array.getElem_mem_toList hj') ?_
   rw [this,e1,e]
  exact .inl ⟨h1,hno,Rf0 hno,R8d hno,by rw [J1a hno,hlen]⟩
 ·have hj:j < lst.length:=by
   have:=(Kh h2).1
   simp at this; omega
  have h2':ents[j]? = some e:=by simpa using h2
  obtain⟨k1,k2,k3⟩:=he j e (kv lst[j].1) (av lst[j].2) h2' (by simp [mapOf,hj])
  have hka:lst[j].1=a:=hk.inj _ _ (k1.symm.trans h3)
  have hat:lst[j]? = some (a,lst[j].2):=by rw [Ki hj,← hka]
  obtain⟨g1,g2⟩:=J1b hn hat
  exact .inr ⟨e,lst[j].2,by rw [g2]; exact h1,by rw [g2]; exact h2',h3,g1,H4d (List.getElem_mem hj) hka,k2,by rw [g2]; exact hat,by rw [g2]; exact k3⟩

theorem R1c {E:Nat} {zv:Value} (hz:(P.info? E).bind (·.zero)=some zv) (w:World):(zeroValue E).run P w=.ok zv w:=by
 cases h1:P.info? E with
 | none=>rw [h1] at hz; cases hz
 | some i=>rw [h1] at hz; simp at hz; simp [zeroValue,typeInfo,h1,hz]

theorem Q6d {m x:Operand} {T K E i:Nat} {ok:Bool} {lst:List (κ×ν)} {a:κ} (z0:ν) (zv:Value) (ho:o.op=.lookup T m x ok) (hm:ev l m=.mp i) (hi:lk L i=some (.map T (mapOf kv av lst))) (hn:(lst.map (·.1)).Nodup)
  (hx:ev l x=G2a (kv a)) (hk:H83 P K kv) (hT:Gf0 P T K E=true) (hz:(P.info? E).bind (·.zero)=some zv) (hzv:av z0=G2a zv) :
  H5 P o l L (Is (bif ok then .tup [av ((G93 lst a).getD z0),BL (Ge6 lst a)] else av ((G93 lst a).getD z0)) L):=
 Hx fun A w β hsat hf=>by
  have hv:=hf.ev m
  rw [hm] at hv
  obtain⟨b,hb,hmv⟩:=hv.inv_mp
  obtain⟨ents,h1,h2,h3⟩:=Hf6 hsat hi hb
  have hxk:A.eval x=kv a:=by
   have h:=hf.ev x
   rw [hx] at h
   cases hka:kv a with
   | agg vs=>
    rw [hka] at h
    obtain⟨ws,hw,hl,hc⟩:=h.inv_agg
    rw [hw]
    congr 1
    apply Array.ext
    ·rw [hl]; simp
    ·intro j hj1 hj2
     have:=hc j (.sc vs[j]) ws[j] (by simp [hj2]) (by simp [hj1])
     exact this.inv_sc
   | _=>rw [hka] at h; exact h.inv_sc
  have hobj:(getObj b).run P w=.ok (.map ents ents.size) w:=by simp [getObj,Sem.run,h1]
  rcases Q3e (P:=P) hk hn h2 h3 a with ⟨f1,f2,f3,f4,_⟩ | ⟨e,v,f1,f2,f3,f4,f5,f6,_⟩
  ·refine⟨if ok then .tuple #[zv,.bool false] else zv,?_,?_⟩
   ·simp only [execOp,ho,Instr.lookup,underlying,hmv,hxk,Sem.run_bind,run_program,Result.andThen_ok,Gf0.out hT,Sem.run_pure,hobj,hk.check,f1,R1c hz]
   ·rw [f3,f4]
    have hzz:V w β L (av z0) zv:=by rw [hzv]; exact .data (J60 zv)
    cases ok
    ·exact hzz
    ·refine .tup rfl fun j u v hu hv=>?_
     match j with
     | 0=>simp at hu hv; subst hu; subst hv; exact hzz
     | 1=>simp at hu hv; subst hu; subst hv; exact .sc
     | j+2=>simp at hu
  ·refine⟨if ok then .tuple #[e.val,.bool true] else e.val,?_,?_⟩
   ·simp only [execOp,ho,Instr.lookup,underlying,hmv,hxk,Sem.run_bind,run_program,Result.andThen_ok,Gf0.out hT,Sem.run_pure,hobj,hk.check,f1]
   ·rw [f4,f5]
    cases ok
    ·exact .data f6
    ·refine .tup rfl fun j u v' hu hv=>?_
     match j with
     | 0=>simp at hu hv; subst hu; subst hv; exact .data f6
     | 1=>simp at hu hv; subst hu; subst hv; exact .sc
     | j+2=>simp at hu

theorem Rbc {A:Act} {w:World} {β:Hd} {x:Operand} {k:Value} (hf:Qe A w β L l) (hx:ev l x=G2a k):A.eval x=k:=by
 have h:=hf.ev x
 rw [hx] at h
 cases k with
 | agg vs=>
  obtain⟨ws,hw,hl,hc⟩:=h.inv_agg
  rw [hw]
  congr 1
  apply Array.ext
  ·rw [hl]; simp
  ·intro j hj1 hj2
   have:=hc j (.sc vs[j]) ws[j] (by simp [hj2]) (by simp [hj1])
   exact this.inv_sc
 | _=>exact h.inv_sc

theorem G65 {w:World} {b:Nat} {ents:Array MapEntry} {c:Nat} (h:w.heap[b]? = some (.map ents c)):(getObj b).run P w=.ok (.map ents c) w:=by simp [getObj,Sem.run,h]
theorem H5a {w:World} {b:Nat} {ents ents':Array MapEntry} {c c':Nat} (h:w.heap[b]? = some (.map ents c)):(setObj b (.map ents' c')).run P w=.ok () { w with heap:=w.heap.setIfInBounds b (.map ents' c') }:=by simp [setObj,Sem.run,h]

theorem R1a (w:World) (b:Nat) (o:Obj):({ w with heap:=w.heap.setIfInBounds b o }:World).heap.size=w.heap.size:=by simp
theorem Q99 (w:World) (b k:Nat) (o:Obj) (h:k≠b):({ w with heap:=w.heap.setIfInBounds b o }:World).heap[k]? = w.heap[k]? := by
 simp [Array.getElem?_setIfInBounds_ne (Ne.symm h)]
theorem Y13 (w:World) (b:Nat) (o:Obj) (h:b < w.heap.size):({ w with heap:=w.heap.setIfInBounds b o }:World).heap[b]? = some o:=by
 simp [h]

theorem H60 {w:World} {β:Hd} {i b T:Nat} {es es':List (Value×AV)} {ents':Array MapEntry} (hsat:Sat w β L) (hi:lk L i=some (.map T es)) (hb:β i=some b)
  (hsz:ents'.size=es'.length) (he:∀ (i:Nat) e k u,ents'[i]? = some e→es'[i]? = some (k,u)→e.key=k∧D w (Qd w β L) u e.val∧e.born=i) :
  let w':World:={ w with heap:=w.heap.setIfInBounds b (.map ents' ents'.size) }
  Sat w' β ((i,.map T es')::L)∧Step w β L w' β ((i,.map T es')::L):=by
 intro w'
 have hlt:b < w.heap.size:=hsat.bnd i b (by rw [hi]; rfl) hb
 have st:Step w β L w' β ((i,.map T es')::L):=Step.change hsat hi hb rfl rfl rfl ⟨rfl,Kn⟩ (R1a w b _) (fun k hk=>Q99 w b k _ hk)
 exact⟨Sat.change hsat hi hb st (R1a w b _) (fun k hk=>Q99 w b k _ hk) ⟨b,rfl,ents',Y13 w b _ hlt,hsz,fun j e k u h1 h2=>⟨(he j e k u h1 h2).1,(he j e k u h1 h2).2.1.mono st.stab,(he j e k u h1 h2).2.2⟩⟩,st⟩

theorem Q31 {lst:List (κ×ν)} (h:(lst.map (·.1)).Nodup) (a:κ) (v:ν):((H77 lst a v).map (·.1)).Nodup:=by
 unfold H77
 by_cases hh:Ge6 lst a=true
 ·rw [if_pos hh]
  have:(lst.map fun p=>if p.1=a then (a,v) else p).map (·.1)=lst.map (·.1):=by
   rw [List.map_map]
   refine List.map_congr_left fun p _=>?_
   simp only [Function.comp]
   by_cases e:p.1=a <;> simp [e]
  rw [this]; exact h
 ·rw [if_neg hh]
  rw [List.map_append,List.nodup_append]
  refine⟨h,by simp,fun x hx y hy=>?_⟩
  simp at hy; subst hy
  intro e; subst e
  obtain⟨p,hp,e⟩:=Ku.1 hx
  exact hh (H4d hp e)
theorem R8c {lst:List (κ×ν)} (h:(lst.map (·.1)).Nodup) (a:κ) (z:ν):((H20 lst a z).map (·.1)).Nodup:=by
 unfold H20
 by_cases hh:Ge6 lst a=true
 ·rw [if_pos hh]; exact h
 ·rw [if_neg hh]
  rw [List.map_append,List.nodup_append]
  refine⟨h,by simp,fun x hx y hy=>?_⟩
  simp at hy; subst hy
  intro e; subst e
  obtain⟨p,hp,e⟩:=Ku.1 hx
  exact hh (H4d hp e)

theorem Rb5 {lst:List (κ×ν)} (h:(lst.map (·.1)).Nodup) {a:κ} {j:Nat} {v0 v:ν} (hj:lst[j]? = some (a,v0)):H77 lst a v=lst.set j (a,v):=by
 have hm:Ge6 lst a=true:=H4d (Kk hj) rfl
 unfold H77
 rw [if_pos hm]
 apply List.ext_getElem?
 intro i
 rw [List.getElem?_map,List.getElem?_set]
 by_cases e:j=i
 ·subst e
  have hlt:j < lst.length:=(Kh hj).1
  rw [if_pos rfl,if_pos hlt,hj]
  simp
 ·rw [if_neg e]
  cases hi:lst[i]? with
  | none=>rfl
  | some p=>
   obtain⟨b,u⟩:=p
   by_cases e2:b=a
   ·subst e2
    have h1:=(J1b h hi).2
    have h2:=(J1b h hj).2
    omega
   ·simp [e2]

theorem R4a {m x y:Operand} {T K E i:Nat} {lst:List (κ×ν)} {a:κ} {v:ν} (ho:o.op=.mapUpdate T m x y) (hm:ev l m=.mp i) (hi:lk L i=some (.map T (mapOf kv av lst))) (hn:(lst.map (·.1)).Nodup)
  (hx:ev l x=G2a (kv a)) (hy:(ev l y).plain=av v) (hyd:(av v).isData=true) (hk:H83 P K kv) (hT:Gf0 P T K E=true) :
  H5 P o l L (Is .junk ((i,.map T (mapOf kv av (H77 lst a v)))::L)):=by
 intro A w β KK Q hsat hf hK
 have hv:=hf.ev m
 rw [hm] at hv
 obtain⟨b,hb,hmv⟩:=hv.inv_mp
 obtain⟨ents,h1,h2,h3⟩:=Hf6 hsat hi hb
 have hxk:A.eval x=kv a:=Rbc hf hx
 have hyv:=(hf.ev y).plain
 rw [hy] at hyv
 have hyD:=hyv.toD hyd
 have hlen:ents.size=lst.length:=by simpa [mapOf] using h2
 rcases Q3e (P:=P) (w:=w) hk hn h2 h3 a with ⟨f1,f2,f3,f4,f5⟩ | ⟨e,v0,f1,f2,f3,f4,f5,f6,f7,f8⟩
 ·have hr:(execOp A.eval o).run P w=.ok .skip { w with heap:=w.heap.setIfInBounds b (.map (ents.push { key:=kv a,val:=A.eval y,born:=ents.size }) (ents.push { key:=kv a,val:=A.eval y,born:=ents.size }).size) }:=by
   simp only [execOp,ho,Instr.mapUpdate,underlying,hmv,hxk,Sem.run_bind,run_program,Result.andThen_ok,Gf0.out hT,Sem.run_pure,G65 h1,hk.check,f1,H5a h1,Array.size_push]
  unfold Oper.wp
  rw [hr]
  have hmp:H77 lst a v=lst++[(a,v)]:=by simp [H77,f4]
  obtain⟨s1,s2⟩:=H60 hsat hi hb (es':=mapOf kv av (H77 lst a v)) (ents':=ents.push { key:=kv a,val:=A.eval y,born:=ents.size }) (by rw [hmp]; simp [mapOf,hlen]) (fun j e k u he hu=>by
   rw [hmp] at hu
   simp only [mapOf,List.map_append,List.map_cons,List.map_nil] at hu
   rcases Nat.lt_or_ge j ents.size with hj | hj
   ·rw [Array.getElem?_push,if_neg (by omega)] at he
    rw [List.getElem?_append_left (by simp; omega)] at hu
    exact h3 j e k u he hu
   ·have:j=ents.size:=by
     have:=(Array.getElem?_eq_some_iff.1 he).1; simp at this; omega
    subst this
    rw [Array.getElem?_push,if_pos rfl] at he
    cases he
    rw [List.getElem?_append_right (by simp; omega)] at hu
    simp [hlen] at hu
    obtain⟨rfl,rfl⟩:=hu
    exact⟨rfl,hyD,rfl⟩)
  exact hK _ _ _ _ β ⟨rfl,rfl⟩ s1 s2 .junk
 ·have hst:=hk.stays w a
  have hlt:G5c lst a < ents.size:=(Array.getElem?_eq_some_iff.1 f2).1
  have hr:(execOp A.eval o).run P w=.ok .skip { w with heap:=w.heap.setIfInBounds b (.map (ents.modify (G5c lst a) fun e=>{ e with key:=kv a,val:=A.eval y }) (ents.modify (G5c lst a) fun e=>{ e with key:=kv a,val:=A.eval y }).size) }:=by
   have hkk:((ents[G5c lst a]?).map (·.key)).getD (kv a)=kv a:=by rw [f2]; exact f3
   simp only [execOp,ho,Instr.mapUpdate,underlying,hmv,hxk,Sem.run_bind,run_program,Result.andThen_ok,Gf0.out hT,Sem.run_pure,G65 h1,hk.check,f1,hkk,hst,H5a h1,Array.size_modify]
  unfold Oper.wp
  rw [hr]
  have hmp:=Rb5 (v:=v) hn f7
  obtain⟨s1,s2⟩:=H60 hsat hi hb (es':=mapOf kv av (H77 lst a v)) (ents':=ents.modify (G5c lst a) fun e=>{ e with key:=kv a,val:=A.eval y }) (by rw [hmp]; simp [mapOf,hlen]) (fun j e' k u he hu=>by
   rw [hmp] at hu
   simp only [mapOf,List.map_set] at hu
   rw [Array.getElem?_modify] at he
   rw [List.getElem?_set] at hu
   by_cases ej:G5c lst a=j
   ·subst ej
    rw [if_pos rfl,f2] at he
    rw [if_pos rfl,if_pos (by simp; omega)] at hu
    simp at he hu
    obtain⟨rfl,rfl⟩:=hu
    subst he
    exact⟨rfl,hyD,f8⟩
   ·rw [if_neg ej] at he hu
    exact h3 j e' k u he hu)
  exact hK _ _ _ _ β ⟨rfl,rfl⟩ s1 s2 .junk

theorem Ra4 {m x:Operand} {T K E i:Nat} {lst:List (κ×ν)} {a:κ} (z0:ν) (zv:Value) (ho:o.op=.mapEntry T m x) (hm:ev l m=.mp i) (hi:lk L i=some (.map T (mapOf kv av lst))) (hn:(lst.map (·.1)).Nodup)
  (hx:ev l x=G2a (kv a)) (hk:H83 P K kv) (hT:Gf0 P T K E=true) (hz:(P.info? E).bind (·.zero)=some zv) (hzv:av z0=G2a zv) :
  H5 P o l L (Is (.tup [.junk,I64 (G5c lst a)]) ((i,.map T (mapOf kv av (H20 lst a z0)))::L)):=by
 intro A w β KK Q hsat hf hK
 have hv:=hf.ev m
 rw [hm] at hv
 obtain⟨b,hb,hmv⟩:=hv.inv_mp
 obtain⟨ents,h1,h2,h3⟩:=Hf6 hsat hi hb
 have hxk:A.eval x=kv a:=Rbc hf hx
 have hlen:ents.size=lst.length:=by simpa [mapOf] using h2
 have tupV:∀ {w':World} {L':Loc} (v1:Value) (n:Int),V w' β L' (.tup [.junk,I64 n]) (.tuple #[v1,.int .i64 n]):=fun v1 n=>.tup rfl fun j u v' hu hv=>by
  match j with
  | 0=>simp at hu hv; subst hu; exact .junk
  | 1=>simp at hu hv; subst hu; subst hv; exact .sc
  | j+2=>simp at hu
 rcases Q3e (P:=P) (w:=w) hk hn h2 h3 a with ⟨f1,f2,f3,f4,f5⟩ | ⟨e,v0,f1,f2,f3,f4,f5,f6,f7,f8⟩
 ·have hr:(execOp A.eval o).run P w=.ok (.value (.tuple #[zv,.int .i64 ents.size])) { w with heap:=w.heap.setIfInBounds b (.map (ents.push { key:=kv a,val:=zv,born:=ents.size }) (ents.push { key:=kv a,val:=zv,born:=ents.size }).size) }:=by
   simp only [execOp,ho,Instr.mapEntry,underlying,hmv,hxk,Sem.run_bind,run_program,Result.andThen_ok,Gf0.out hT,Sem.run_pure,G65 h1,hk.check,f1,H5a h1,Array.size_push,R1c hz,goInt]
  unfold Oper.wp
  rw [hr]
  have hmp:H20 lst a z0=lst++[(a,z0)]:=by simp [H20,f4]
  obtain⟨s1,s2⟩:=H60 hsat hi hb (es':=mapOf kv av (H20 lst a z0)) (ents':=ents.push { key:=kv a,val:=zv,born:=ents.size }) (by rw [hmp]; simp [mapOf,hlen]) (fun j e k u he hu=>by
   rw [hmp] at hu
   simp only [mapOf,List.map_append,List.map_cons,List.map_nil] at hu
   rcases Nat.lt_or_ge j ents.size with hj | hj
   ·rw [Array.getElem?_push,if_neg (by omega)] at he
    rw [List.getElem?_append_left (by simp; omega)] at hu
    exact h3 j e k u he hu
   ·have:j=ents.size:=by
     have:=(Array.getElem?_eq_some_iff.1 he).1; simp at this; omega
    subst this
    rw [Array.getElem?_push,if_pos rfl] at he
    cases he
    rw [List.getElem?_append_right (by simp; omega)] at hu
    simp [hlen] at hu
    obtain⟨rfl,rfl⟩:=hu
    exact⟨rfl,by rw [hzv]; exact J60 zv,rfl⟩)
  refine hK _ _ _ _ β ⟨rfl,rfl⟩ s1 s2 ?_
  rw [f5]; exact tupV _ _
 ·have hst:=hk.stays w a
  have hlt:G5c lst a < ents.size:=(Array.getElem?_eq_some_iff.1 f2).1
  have hr:(execOp A.eval o).run P w=.ok (.value (.tuple #[e.val,.int .i64 (G5c lst a)])) { w with heap:=w.heap.setIfInBounds b (.map (ents.modify (G5c lst a) fun e=>{ e with key:=kv a }) (ents.modify (G5c lst a) fun e=>{ e with key:=kv a }).size) }:=by
   have hkk:((ents[G5c lst a]?).map (·.key)).getD (kv a)=kv a:=by rw [f2]; exact f3
   have hbb:(Option.map (fun x=>(x.born:Int)) ents[G5c lst a]?).getD 0=(G5c lst a:Int):=by rw [f2]; simp [f8]
   simp only [execOp,ho,Instr.mapEntry,underlying,hmv,hxk,Sem.run_bind,run_program,Result.andThen_ok,Gf0.out hT,Sem.run_pure,G65 h1,hk.check,f1,hkk,hst,H5a h1,Array.size_modify,hbb,goInt]
  unfold Oper.wp
  rw [hr]
  have hmp:H20 lst a z0=lst:=by simp [H20,f5]
  obtain⟨s1,s2⟩:=H60 hsat hi hb (es':=mapOf kv av (H20 lst a z0)) (ents':=ents.modify (G5c lst a) fun e=>{ e with key:=kv a }) (by rw [hmp]; simp [mapOf,hlen]) (fun j e' k u he hu=>by
   rw [hmp] at hu
   rw [Array.getElem?_modify] at he
   by_cases ej:G5c lst a=j
   ·subst ej
    rw [if_pos rfl,f2] at he
    simp at he
    subst he
    have:=h3 _ e k u f2 hu
    exact⟨f3.symm.trans this.1,this.2⟩
   ·rw [if_neg ej] at he
    exact h3 j e' k u he hu)
  exact hK _ _ _ _ β ⟨rfl,rfl⟩ s1 s2 (tupV _ _)

theorem Rb8 {lst:List (κ×ν)} (hn:(lst.map (·.1)).Nodup) (a:κ) (z:ν):∃ v0,(H20 lst a z)[G5c lst a]? = some (a,v0):=by
 unfold H20
 by_cases h:Ge6 lst a=true
 ·rw [if_pos h]
  unfold Ge6 at h
  obtain⟨p,hp,e⟩:=List.any_eq_true.1 h
  obtain⟨j,hj,e2⟩:=List.mem_iff_getElem.1 hp
  have hat:lst[j]? = some (a,p.2):=by
   rw [Ki hj,e2]
   have:p.1=a:=by simpa using e
   rw [← this]
  rw [(J1b hn hat).2]; exact⟨_,hat⟩
 ·rw [if_neg h]
  have hno:∀ p∈lst,p.1≠a:=fun p hp e=>h (H4d hp e)
  rw [J1a hno]; exact⟨z,by simp⟩

theorem Qa2 {lst:List (κ×ν)} (hn:(lst.map (·.1)).Nodup) (a:κ) (z v:ν):(H20 lst a z).set (G5c lst a) (a,v)=H77 lst a v:=by
 by_cases h:Ge6 lst a=true
 ·obtain⟨v0,h0⟩:=Rb8 hn a z
  have:H20 lst a z=lst:=by simp [H20,h]
  rw [this] at h0 ⊢
  exact(Rb5 hn h0).symm
 ·have hno:∀ p∈lst,p.1≠a:=fun p hp e=>h (H4d hp e)
  have h':Ge6 lst a=false:=by simpa using h
  simp [H20,H77,h',J1a hno]

theorem Qde {m s y:Operand} {T i:Nat} {lst:List (κ×ν)} {a:κ} {v:ν} (z0:ν) (ho:o.op=.entryStore T m s y) (hm:ev l m=.mp i) (hi:lk L i=some (.map T (mapOf kv av (H20 lst a z0)))) (hn:(lst.map (·.1)).Nodup)
  (hs:ev l s=I64 (G5c lst a)) (hy:(ev l y).plain=av v) (hyd:(av v).isData=true) :
  H5 P o l L (Is .junk ((i,.map T (mapOf kv av (H77 lst a v)))::L)):=by
 intro A w β KK Q hsat hf hK
 have hv:=hf.ev m
 rw [hm] at hv
 obtain⟨b,hb,hmv⟩:=hv.inv_mp
 obtain⟨ents,h1,h2,h3⟩:=Hf6 hsat hi hb
 have hsv:=hf.ev s
 rw [hs] at hsv
 have hyv:=(hf.ev y).plain
 rw [hy] at hyv
 have hyD:=hyv.toD hyd
 have hlen:ents.size=(H20 lst a z0).length:=by simpa [mapOf] using h2
 obtain⟨v0,hat⟩:=Rb8 hn a z0
 have hlt:G5c lst a < ents.size:=by rw [hlen]; exact(Kh hat).1
 have hborn:∀ (j:Nat) (hj:j < ents.size),ents[j].born=j:=fun j hj=>by
  have hj':j < (H20 lst a z0).length:=by omega
  exact(h3 j ents[j] (kv (H20 lst a z0)[j].1) (av (H20 lst a z0)[j].2) (by simp [hj]) (by simp [mapOf,hj'])).2.2
 have hfind:ents.findIdx? (fun e=>(e.born:Int)==(G5c lst a:Int))=some (G5c lst a):=by
  rw [Array.findIdx?_eq_some_iff_getElem]
  refine⟨hlt,by rw [hborn _ hlt]; simp,fun j hj=>?_⟩
  rw [hborn j (by omega)]
  simp; omega
 have hr:(execOp A.eval o).run P w=.ok .skip { w with heap:=w.heap.setIfInBounds b (.map (ents.modify (G5c lst a) fun e=>{ e with val:=A.eval y }) (ents.modify (G5c lst a) fun e=>{ e with val:=A.eval y }).size) }:=by
  simp only [execOp,ho,Instr.entryStore,hmv,hsv.inv_sc,asInt,asIntOf,Sem.run_bind,Result.andThen_ok,Sem.run_pure,G65 h1,hfind,H5a h1,Array.size_modify]
 unfold Oper.wp
 rw [hr]
 obtain⟨s1,s2⟩:=H60 hsat hi hb (es':=mapOf kv av (H77 lst a v)) (ents':=ents.modify (G5c lst a) fun e=>{ e with val:=A.eval y }) (by rw [← Qa2 hn a z0 v]; simp [mapOf,hlen]) (fun j e' k u he hu=>by
  rw [← Qa2 hn a z0 v] at hu
  simp only [mapOf,List.map_set] at hu
  rw [Array.getElem?_modify] at he
  rw [List.getElem?_set] at hu
  by_cases ej:G5c lst a=j
  ·subst ej
   rw [if_pos rfl,Array.getElem?_eq_getElem hlt] at he
   rw [if_pos rfl,if_pos (by simp; omega)] at hu
   simp at he hu
   obtain⟨rfl,rfl⟩:=hu
   subst he
   have:=(h3 (G5c lst a) ents[G5c lst a] (kv a) (av v0) (by simp [hlt]) (by simp [mapOf,hat]))
   exact⟨this.1,hyD,this.2.2⟩
  ·rw [if_neg ej] at he hu
   exact h3 j e' k u he hu)
 exact hK _ _ _ _ β ⟨rfl,rfl⟩ s1 s2 .junk
end typed

/-! ### Ranging over a map -/
theorem Y6a (i:Nat) {x:Operand} {T K E m t:Nat} {es:List (Value×AV)} (ho:o.op=.range T x) (hx:ev l x=.mp m) (hm:lk L m=some (.map t es)) (hi:lk L i=none) (hT:Gf0 P T K E=true) :
  H5 P o l L (Is (.it i) ((i,.iter m es.length [])::L)):=by
 intro a w β KK Q hsat hf hK
 have hv:=hf.ev x
 rw [hx] at hv
 obtain⟨b,hb,hmv⟩:=hv.inv_mp
 obtain⟨ents,h1,h2,h3⟩:=Hf6 hsat hm hb
 have hr:(execOp a.eval o).run P w=.ok (.value (.pointer (some ⟨w.heap.size,0,none⟩))) (w.alloc (.mapIter (some b) es.length #[] es.length)):=by
  simp only [execOp,ho,Instr.range,underlying,Gf0.out hT,Sem.run_bind,Sem.run_pure,run_program,Result.andThen_ok,hmv,G65 h1,run_newObj,h2]
  rfl
 unfold Oper.wp
 rw [hr]
 have hne:i≠m:=fun e=>by subst e; rw [hi] at hm; cases hm
 exact hK _ _ _ _ (upP β i (some w.heap.size)) ⟨rfl,rfl⟩ (hsat.alloc hi _ (fun hs=>⟨_,rfl,b,t,es,by rw [Gs,if_neg hne]; exact hm,by simp [upP,Ne.symm hne,hb],heap_alloc_new w _⟩)) (Step.alloc hi hsat.bnd _)
  (.it (m:=m) (n:=es.length) (seen:=[]) (by simp [Gs]) (by simp [upP]))

def Yba (i m:Nat) (L:Loc) (es:List (Value×AV)) (seen:List Nat):AV→Loc→Prop:=fun u L'=>
 (∃ j k v,es[j]? = some (k,v)∧j ∉ seen∧u=.tup [BL true,G2a k,v]∧L'=(i,.iter m es.length (seen++[j]))::L) ∨
 ((∀ j,j < es.length→j∈seen)∧u=.tup [BL false]∧L'=L)

theorem Y99 {x:Operand} {i m t:Nat} {es:List (Value×AV)} {seen:List Nat} (ho:o.op=.next x false) (hx:ev l x=.it i) (hi:lk L i=some (.iter m es.length seen)) (hm:lk L m=some (.map t es)):H5 P o l L (Yba i m L es seen):=by
 intro a w β KK Q hsat hf hK
 have hv:=hf.ev x
 rw [hx] at hv
 have hit:∃ b,β i=some b∧a.eval x=.pointer (some ⟨b,0,none⟩):=by
  generalize a.eval x=v at hv
  cases hv with
  | data h=>cases h
  | it _ h=>exact⟨_,h,rfl⟩
 obtain⟨b,hb,hxv⟩:=hit
 obtain⟨b',hb',bm,t',es',hm',hbm,hob⟩:=hsat.obj i _ hi
 rw [hb] at hb'; cases hb'
 rw [hm] at hm'; cases hm'
 obtain⟨ents,h1,h2,h3⟩:=Hf6 hsat hm hbm
 have hborn:∀ (j:Nat) (hj:j < ents.size),ents[j].born=j:=fun j hj=>by
  have hj':j < es.length:=by omega
  exact(h3 j ents[j] es[j].1 es[j].2 (by simp [hj]) (by simp [hj'])).2.2
 -- what is left
 let left:Array MapEntry:=ents.filter fun e=>!seen.toArray.contains e.born
 have hlb:∀ e∈left,∃ (j:Nat) (hj:j < ents.size),ents[j]=e∧j ∉ seen:=by
  intro e he
  simp only [left,Array.mem_filter] at he
  obtain⟨j,hj,e1⟩:=Array.mem_iff_getElem.1 he.1
  refine⟨j,hj,e1,?_⟩
  have:=he.2
  rw [← e1,hborn j hj] at this
  simpa using this
 have hold:left.filter (fun e=>decide (e.born < es.length))=left:=by
  rw [Array.filter_eq_self]
  intro e he
  obtain⟨j,hj,e1,_⟩:=hlb e he
  rw [← e1,hborn j hj]; simp; omega
 have hnew:left.filter (fun e=>decide (e.born ≥ es.length))=#[]:=by
  rw [Array.filter_eq_empty_iff]
  intro e he
  obtain⟨j,hj,e1,_⟩:=hlb e he
  rw [← e1,hborn j hj]; simp; omega
 have hquiet:(!seen.toArray.isEmpty&&!ents.isEmpty&&ents.all (fun e=>decide (e.born ≥ es.length)))=false:=by
  by_cases h0:ents.size=0
  ·have:ents.isEmpty=true:=by simp [Array.isEmpty,h0]
   simp [this]
  ·have:ents.all (fun e=>decide (e.born ≥ es.length))=false:=by
    rw [Bool.eq_false_iff]
    intro hall
    rw [Array.all_eq_true] at hall
    have:=hall 0 (by omega)
    rw [hborn 0 (by omega)] at this
    have:=Kd this
    omega
   simp [this]
 have hgetI:(getObj b).run P w=.ok (.mapIter (some bm) es.length seen.toArray es.length) w:=by simp [getObj,Sem.run,hob]
 have hlt:b < w.heap.size:=hsat.bnd i b (by rw [hi]; rfl) hb
 by_cases hempty:left=#[]
 ·-- nothing is left
  have hr:(execOp a.eval o).run P w=.ok (.value (.tuple #[.bool false])) w:=by
   simp only [execOp,ho,Instr.next,hxv,Sem.run_bind,Sem.run_pure,Result.andThen_ok,hgetI,G65 h1,hquiet,Bool.false_eq_true,if_false]
   have e1:(ents.filter fun e=>!seen.toArray.contains e.born)=#[]:=hempty
   simp only [e1,Array.filter_empty,Array.isEmpty_empty,if_true,Array.append_empty,Array.map_empty,run_choose]
   rfl
  unfold Oper.wp
  rw [hr]
  refine hK _ _ _ w β (.inr ⟨fun j hj=>?_,rfl,rfl⟩) hsat (Step.refl _ _ _) (.tup rfl fun j u v hu hv=>?_)
  ·by_cases hs:j∈seen
   ·exact hs
   ·exfalso
    have hj':j < ents.size:=by omega
    have:ents[j]∈left:=by
     simp only [left,Array.mem_filter]
     refine⟨Array.getElem_mem hj',?_⟩
     rw [hborn j hj']; simpa using hs
    rw [hempty] at this; simp at this
  ·match j with
   | 0=>simp at hu hv; subst hu; subst hv; exact .sc
   | j+1=>simp at hu
 ·-- one of those that are left
  have hpos:0 < left.size:=Array.size_pos_iff.2 hempty
  have hcand:((if (left.filter fun e=>decide (e.born < es.length)).isEmpty then #[none] else #[])++((left.filter fun e=>decide (e.born < es.length))++(left.filter fun e=>decide (e.born ≥ es.length))).map some)=left.map some:=by
   rw [hold,hnew]
   have:left.isEmpty=false:=by rw [Array.isEmpty_eq_false_iff]; exact hempty
   rw [this]
   apply Array.ext'
   simp
  have hpick:∀ (c:Nat),c < left.size→∃ (j:Nat) (hj:j < ents.size),j ∉ seen∧(left.map some)[c]? = some (some ents[j]):=by
   intro c hc
   obtain⟨j,hj,e1,hns⟩:=hlb left[c] (Array.getElem_mem hc)
   exact⟨j,hj,hns,by simp [hc,e1]⟩
  have hch:∃ (c:Nat) (w1:World),(choose (.mapNext (left.map some).size)).run P w=.ok c w1∧c < left.size∧w1.heap=w.heap∧w1.os=w.os∧w1.tape=w.tape∧(w1.output=w.output∧w.drawn≤w1.drawn):=by
   rw [run_choose]
   by_cases hf1:(Question.mapNext (left.map some).size).forced=true
   ·exact⟨0,w,by rw [if_pos hf1],hpos,rfl,rfl,rfl,rfl,Kn⟩
   ·refine⟨_,{ w with drawn:=w.drawn+1 },by rw [if_neg hf1],?_,rfl,rfl,rfl,rfl,Nat.le_succ _⟩
    simp only [Question.cut,Array.size_map]
    exact Nat.mod_lt _ hpos
  obtain⟨c,w1,hc1,hc2,hh,hos,htp,hout⟩:=hch
  obtain⟨j,hj,hns,hcj⟩:=hpick c hc2
  have hj':j < es.length:=by omega
  have hob1:w1.heap[b]? = some (.mapIter (some bm) es.length seen.toArray es.length):=by rw [hh]; exact hob
  have hset:(setObj b (.mapIter (some bm) es.length (seen.toArray.push ents[j].born) ents.size)).run P w1=.ok () { w1 with heap:=w1.heap.setIfInBounds b (.mapIter (some bm) es.length (seen.toArray.push ents[j].born) ents.size) }:=by
   simp [setObj,Sem.run,hob1]
  have hr:(execOp a.eval o).run P w=.ok (.value (.tuple #[.bool true,ents[j].key,ents[j].val])) { w1 with heap:=w1.heap.setIfInBounds b (.mapIter (some bm) es.length (seen.toArray.push ents[j].born) ents.size) }:=by
   simp only [execOp,ho,Instr.next,hxv,Sem.run_bind,Sem.run_pure,Result.andThen_ok,hgetI,G65 h1,hquiet,Bool.false_eq_true,if_false]
   have e1:(ents.filter fun e=>!seen.toArray.contains e.born)=left:=rfl
   rw [e1,hcand,hc1]
   simp only [Result.andThen_ok,hcj,Sem.run_bind,hset,Sem.run_pure]
  unfold Oper.wp
  rw [hr]
  obtain⟨k1,k2,k3⟩:=h3 j ents[j] es[j].1 es[j].2 (by simp [hj]) (by simp [hj'])
  have hpush:seen.toArray.push ents[j].born=(seen++[j]).toArray:=by rw [hborn j hj]; simp
  have h4:({ w1 with heap:=w1.heap.setIfInBounds b (.mapIter (some bm) es.length (seen.toArray.push ents[j].born) ents.size) }:World).heap.size=w.heap.size:=by simp [hh]
  have h5:∀ k,k≠b→({ w1 with heap:=w1.heap.setIfInBounds b (.mapIter (some bm) es.length (seen.toArray.push ents[j].born) ents.size) }:World).heap[k]? = w.heap[k]? := fun k hk=>by
   simp [Array.getElem?_setIfInBounds_ne (Ne.symm hk),hh]
  have st:Step w β L { w1 with heap:=w1.heap.setIfInBounds b (.mapIter (some bm) es.length (seen.toArray.push ents[j].born) ents.size) } β ((i,.iter m es.length (seen++[j]))::L):=
   Step.change hsat hi hb rfl hos htp hout h4 h5
  have hne:i≠m:=fun e=>by subst e; rw [hi] at hm; cases hm
  refine hK _ _ _ _ β (.inl ⟨j,es[j].1,es[j].2,by simp [hj'],hns,rfl,rfl⟩) (Sat.change hsat hi hb st h4 h5 ⟨b,rfl,bm,t,es,by rw [Gs,if_neg hne]; exact hm,hbm,?_⟩) st (.tup rfl fun q u v hu hv=>?_)
  ·rw [hpush]
   simp [hh,hlt,h2]
  ·match q with
   | 0=>simp at hu hv; subst hu; subst hv; exact .sc
   | 1=>simp at hu hv; subst hu; subst hv; rw [← k1]; exact .data (J60 _)
   | 2=>simp at hu hv; subst hu; subst hv; exact .data (k2.mono st.stab)
   | q+3=>simp at hu

theorem Y6e {x:Operand} {i m t j:Nat} {es:List (Value×AV)} {seen:List Nat} {k:Value} {v:AV} (ho:o.op=.entry x) (hx:ev l x=.it i) (hi:lk L i=some (.iter m es.length (seen++[j]))) (hm:lk L m=some (.map t es)) (hj:es[j]? = some (k,v)) :
  H5 P o l L (Is (.tup [G2a k,v]) L):=
 Hx fun a w β hsat hf=>by
  have hv:=hf.ev x
  rw [hx] at hv
  have hit:∃ b,β i=some b∧a.eval x=.pointer (some ⟨b,0,none⟩):=by
   generalize a.eval x=v at hv
   cases hv with
   | data h=>cases h
   | it _ h=>exact⟨_,h,rfl⟩
  obtain⟨b,hb,hxv⟩:=hit
  obtain⟨b',hb',bm,t',es',hm',hbm,hob⟩:=hsat.obj i _ hi
  rw [hb] at hb'; cases hb'
  rw [hm] at hm'; cases hm'
  obtain⟨ents,h1,h2,h3⟩:=Hf6 hsat hm hbm
  have hjl:j < es.length:=(Kh hj).1
  have hj':j < ents.size:=by omega
  have hborn:∀ (j:Nat) (hj:j < ents.size),ents[j].born=j:=fun j hj=>by
   have hj':j < es.length:=by omega
   exact(h3 j ents[j] es[j].1 es[j].2 (by simp [hj]) (by simp [hj'])).2.2
  obtain⟨k1,k2,_⟩:=h3 j ents[j] k v (by simp [hj']) hj
  have hgetI:(getObj b).run P w=.ok (.mapIter (some bm) es.length (seen++[j]).toArray es.length) w:=by simp [getObj,Sem.run,hob]
  have hback:(seen++[j]).toArray.back? = some j:=by simp
  have hfind:ents.find? (fun e=>e.born==j)=some ents[j]:=by
   rw [Array.find?_eq_some_iff_getElem]
   refine⟨by rw [hborn j hj']; simp,j,hj',rfl,fun q hq=>?_⟩
   rw [hborn q (by omega)]
   simp; omega
  have hck:(ents.size != es.length)=false:=by simp [h2]
  refine⟨.tuple #[ents[j].key,ents[j].val],?_,.tup rfl fun q u v hu hv=>?_⟩
  ·simp only [execOp,ho,Instr.entry,hxv,Sem.run_bind,Sem.run_pure,Result.andThen_ok,hgetI,hback,G65 h1,hck,Bool.false_eq_true,if_false,hfind]
  ·match q with
   | 0=>simp at hu hv; subst hu; subst hv; rw [← k1]; exact .data (J60 _)
   | 1=>simp at hu hv; subst hu; subst hv; exact .data k2
   | q+2=>simp at hu
end mops
end Go.Proofs.YthcpolfodgjekaaGreat
