/-
 Calls by contract; Small lemmas that the walks use at every turn.
-/
import Derived.Test.YtbgfgnddogfpcaaGreatFlow
import Derived.IntWalk
namespace Go.Proofs.YtbgfgnddogfpcaaGreat
open Go.RowKit

/-! ### A call of a function that knows nothing of the local objects -/
mutual
def AV.plain:AV->AV
 | .own _ _ k xs=>.list k xs
 | .agg cs=>.agg (oE cs)
 | u=>u
def oE:AD->AD
 | []=>[]
 | u::r=>u.plain::oE r
end
theorem yT:∀ {cs:AD} {j:Nat} {u:AV},(oE cs)[j]? = some u->∃ x,cs[j]? = some x/\u=x.plain
 | [],j,u,h=>by simp [oE] at h
 | c::r,0,u,h=>by simp [oE] at h; exact⟨c,rfl,h.symm⟩
 | c::r,j+1,u,h=>by
  simp only [oE,List.getElem?_cons_succ] at h;obtain⟨x,hx,e⟩:=yT (cs:=r) (j:=j) h;exact⟨x,by simpa using hx,e⟩
theorem jH:∀ {cs:AD},(oE cs).length=cs.length
 | []=>rfl
 | c::r=>by simp [oE,jH (cs:=r)]

def AV.BF (u:AV):Bool:=u.refs (fun _=>false)

variable {u:AV} {U:Gx} {L:Loc} {v:Value} {w:World}
theorem V.toD (h:V w U L u v):u.BF=true->D w (Hs w U L) u v:=by
 have mem:∀ {cs:AD},Qr (fun _=>false) cs=true->∀ (j:Nat) u,cs[j]? = some u->u.BF=true:=
  fun h j u hu=>Yz h u (Pd hu)
 induction h with
 | data h=>exact fun _=>h
 | agg hl _ ih=>exact fun hr=>.agg hl fun j u v hu hv=>ih j u v hu hv (mem (by simpa [AV.BF,AV.refs] using hr) j u hu)
 | tup hl _ ih=>exact fun hr=>.tup hl fun j u v hu hv=>ih j u v hu hv (mem (by simpa [AV.BF,AV.refs] using hr) j u hu)
 | fn hl _ ih=>exact fun hr=>.fn hl fun j u v hu hv=>ih j u v hu hv (mem (by simpa [AV.BF,AV.refs] using hr) j u hu)
 | bfn hl _ ih=>exact fun hr=>.bfn hl fun j u v hu hv=>ih j u v hu hv (mem (by simpa [AV.BF,AV.refs] using hr) j u hu)
 | opt _ h0 ih=>exact fun hr=>.opt (fun e=>ih e (by simpa [AV.BF,AV.refs] using hr)) h0
 | ptr=>exact fun hr=>by simp [AV.BF,AV.refs] at hr
 | ms=>exact fun hr=>by simp [AV.BF,AV.refs] at hr
 | mp=>exact fun hr=>by simp [AV.BF,AV.refs] at hr
 | it=>exact fun hr=>by simp [AV.BF,AV.refs] at hr
 | BO=>exact fun hr=>by simp [AV.BF,AV.refs] at hr
 | vsl=>exact fun hr=>by simp [AV.BF,AV.refs] at hr
 | vcap=>exact fun hr=>by simp [AV.BF,AV.refs] at hr
 | nst=>exact fun hr=>by simp [AV.BF,AV.refs] at hr
 | nptr=>exact fun hr=>by simp [AV.BF,AV.refs] at hr
 | vec=>exact fun hr=>by simp [AV.BF,AV.refs] at hr
 | own=>exact fun hr=>by simp [AV.BF,AV.refs] at hr

theorem D.plain {S:Nat->Nat->Prop} (h:D w S u v):D w S u.plain v:=by
 induction h with
 | AL=>exact .AL
 | sc=>exact .sc
 | agg hl _ ih=>
  refine .agg (by rw [jH]; exact hl) fun j u v hu hv=>?_;obtain⟨x,hx,rfl⟩:=yT hu;exact ih j x v hx hv
 | tup hl h _=>exact .tup hl h
 | nil h=>exact .nil h
 | list vals h1 hm hk hS h _=>exact .list vals h1 hm hk hS h
 | lnil h=>exact .lnil h
 | lst vals h1 hm hk hS h _=>exact .lst vals h1 hm hk hS h
 | GY vals hS h _=>exact .GY vals hS h
 | fn hl h _=>exact .fn hl h
 | bfn hl h _=>exact .bfn hl h
 | opt h h0 _=>exact .opt h h0
 | dmap vals hl hw hS h _=>exact .dmap vals hl hw hS h
 | bag hp h _=>exact .bag hp h
 | blk hb h _=>exact .blk hb h
 | frz hf h _=>exact .frz hf h
theorem V.plain (h:V w U L u v):V w U L u.plain v:=by
 induction h with
 | data h=>exact .data h.plain
 | agg hl _ ih=>
  refine .agg (by rw [jH]; exact hl) fun j u v hu hv=>?_;obtain⟨x,hx,rfl⟩:=yT hu;exact ih j x v hx hv
 | own hd hp=>exact .data hd
 | tup hl h _=>exact .tup hl h
 | ptr hi h=>exact .ptr hi h
 | ms hi h hn hm=>exact .ms hi h hn hm
 | it hi h=>exact .it hi h
 | vec hp hv=>exact .vec hp hv
 | BO hp hv=>exact .BO hp hv
 | vsl hp hv=>exact .vsl hp hv
 | vcap hp hv=>exact .vcap hp hv
 | nst vs hi h1 hr h3 h2 hv _=>exact .nst vs hi h1 hr h3 h2 hv
 | nptr b vs hi h1 hr hu hv _=>exact .nptr b vs hi h1 hr hu hv
 | mp hi h=>exact .mp hi h
 | fn hl h _=>exact .fn hl h
 | bfn hl h _=>exact .bfn hl h
 | opt h h0 _=>exact .opt h h0

theorem V.data_of_nil (h:V w U [] u v):D w (Hs w U []) u v:=by
 induction h with
 | data h=>exact h
 | agg hl _ ih=>exact .agg hl ih
 | tup hl _ ih=>exact .tup hl ih
 | fn hl _ ih=>exact .fn hl ih
 | bfn hl _ ih=>exact .bfn hl ih
 | opt _ h0 ih=>exact .opt ih h0
 | ptr hi=>simp [lk] at hi
 | ms hi=>simp [lk] at hi
 | mp hi=>simp [lk] at hi
 | it hi=>simp [lk] at hi
 | BO hp=>obtain⟨_,_,_,_,hi,_⟩:=hp; simp [lk] at hi
 | vsl hp=>obtain⟨_,_,_,hi,_⟩:=hp; simp [lk] at hi
 | vcap hp=>obtain⟨_,_,_,hi,_⟩:=hp; simp [lk] at hi
 | nst vs hi=>simp [lk] at hi
 | nptr _ vs hi=>simp [lk] at hi
 | vec hp=>obtain⟨_,_,_,hi,_⟩:=hp; simp [lk] at hi
 | own _ hp=>obtain⟨_,_,_,hi,_⟩:=hp; simp [lk] at hi

def eV (l:Fr):List Operand->AD->Prop
 | [],[]=>True
 | x::r,u::s=>(ev l x).plain=u/\u.BF=true/\eV l r s
 | _,_=>False

theorem eV.length {l:Fr}:∀ {xs:List Operand} {us:AD},eV l xs us->xs.length=us.length
 | [],[],_=>rfl
 | _::_,_::_,h=>by simp [eV.length h.2.2]
 | [],_::_,h=>h.elim
 | _::_,[],h=>h.elim

theorem eV.get {l:Fr}:∀ {xs:List Operand} {us:AD},eV l xs us->∀ {j:Nat} {x:Operand} {u:AV},xs[j]? = some x->us[j]? = some u->(ev l x).plain=u/\u.BF=true
 | x::r,u::s,h,j,x',u',hx,hu=>by
  cases j with
  | zero=>simp at hx hu; subst hx; subst hu; exact⟨h.1,h.2.1⟩
  | succ j=>simp at hx hu; exact h.2.2.get hx hu
 | [],[],_,j,_,_,hx,_=>by simp at hx
 | [],_::_,h,_,_,_,_,_=>h.elim
 | _::_,[],h,_,_,_,_,_=>h.elim

def Pure (P:Program) (f:FuncId) (args:AD) (R:AV->Prop):Prop:=Q2 P f args [] (fun r L'=>L'=[]/\R r)

theorem yS {P:Program} {f:FuncId} {args:AD} {R:AV->Prop} (hc:Pure P f args R) (h0:Sat w U L) {vs:Array Value} (hl:vs.size=args.length)
  (hv:∀ (j:Nat) u v,args[j]? = some u->vs[j]? = some v->D w (Hs w U L) u v) :
  Calls P f vs w fun e w'=>∃ v r,e=.returned v/\Sat w' U L/\Step w U L w' U L/\V w' U L r v/\R r:=by
 have h4:∀ b i,Hs w U L b i->Hs w ⟨fun _=>none,fun b i=>¬ Hs w U L b i/\b < w.heap.size⟩ [] b i:=fun b i hs=>⟨hs.lt,fun h=>h.1 hs,fun id o h=>by simp [lk] at h⟩;refine(hc w ⟨fun _=>none,fun b i=>¬ Hs w U L b i/\b < w.heap.size⟩ vs ⟨fun b i h=>h.2,fun id b h=>by simp [lk] at h,fun id b j h=>by simp [lk] at h,fun id id' b h=>by simp [lk] at h,fun id o h=>by simp [lk] at h⟩ hl
  (fun j u v hu h5=>.data ((hv j u v hu h5).mono fun b i hs=>⟨h4 b i hs,rfl⟩))).mono fun e w' h=>?_
 obtain⟨v,r,U',L',he,h7,h3,h6,rfl,hR⟩:=h;have far:∀ b,b < w.heap.size->w'.heap[b]? = w.heap[b]? := fun b hb=>(h3.far b hb (fun id h=>by simp [lk] at h)).1;have AX:∀ b i,Hs w U L b i->Hs w' U L b i:=fun b i hs=>⟨P0 hs.lt h3.size,hs.seen,hs.kept⟩;have step:Step w U L w' U L:=⟨h3.os,h3.tape,h3.output,h3.size,fun _ _ _=>Iff.rfl,fun b i hs=>⟨AX b i hs,Jc (w:=w) (far b hs.lt)⟩,fun b hb hf=>⟨far b hb,hf⟩,
  fun _ _ cs h=>⟨rfl,cs,h⟩,fun _ _ cs h=>⟨rfl,cs,h⟩,fun _ _ n cs h=>⟨rfl,n,cs,h⟩,fun id _ _ ver xs h=>⟨ver,xs,h,Pf,fun _=>⟨rfl,rfl,fun b hb=>bK (far b (h0.bnd id b (by rw [h]; rfl) hb))⟩⟩,fun id _ _ ver hw h=>⟨ver,hw,h,Pf,fun _=>⟨rfl,rfl,fun b hb=>far b (h0.bnd id b (by rw [h]; rfl) hb)⟩⟩⟩
 refine⟨v,r,he,⟨fun b i h=>P0 (h0.hid b i h) h3.size,fun id b h1 h2=>P0 (h0.bnd id b h1 h2) h3.size,h0.apart,h0.inj,fun id o h=>(h0.obj id o h).step step (fun b hb=>far b (h0.bnd id b (by rw [h]; rfl) hb))⟩,step,?_,hR⟩;refine .data (h6.data_of_nil.mono fun b i hs=>⟨?_,rfl⟩);rcases P4 b w.heap.size with hb | hb
 .have:¬ (¬ Hs w U L b i/\b < w.heap.size):=by have:=hs.seen; rwa [h3.hid b i hb] at this
  exact AX b i (Classical.byContradiction fun hn=>this ⟨hn,hb⟩)
 .exact⟨hs.lt,fun h=>by have:=h0.hid b i h; omega,fun id o h1 h2=>by have:=h0.bnd id b (by rw [h1]; rfl) h2; omega⟩

theorem H5.out {P:Program} {f:FuncId} (h:H5 P f=true) (args:Array Value) (w:World):(callFunc f args).run P w=.ok (.enter f args) w:=by
 unfold H5 at h;split at h
 .rename_i fn hf;simp only [Pp,Bool.not_eq_true',beq_eq_false_iff_ne,ne_eq] at h;obtain⟨c,hc⟩:=Ny h.2;simp [callFunc,hf,h.1,hc]
 .cases h

section call
variable {P:Program} {o:Oper} {l:Fr} {L:Loc}

theorem Qb0 {f:FuncId} {xs:List Operand} {args:AD} {ts:Array TypeId} {R:AV->Prop} (hc:Pure P f args R) (hB:H5 P f=true) (ha:eV l xs args) (ho:o.op=.call { callee:=.value (.func f),args:=xs.toArray,argTypes:=ts }:=by rfl):Gy P o l L (fun r L'=>L'=L/\R r):=by
 intro a w U K Q h0 hf hK;have hr:(execOp a.eval o).run P w=.ok (.enter f (xs.toArray.map a.eval)) w:=by
  simp [execOp,ho,resolve,Act.eval,Deferred.ofValue,invoke,H5.out hB]
 unfold Oper.wp;rw [hr];show Calls P f _ w _
 refine(yS hc h0 (vs:=xs.toArray.map a.eval) (by simp [ha.length]) (fun j u v hu hv=>?_)).mono fun e w' h=>?_
 .simp only [Array.getElem?_map,List.getElem?_toArray,Option.map_eq_some_iff] at hv;obtain⟨x,hx,rfl⟩:=hv;obtain⟨h1,h2⟩:=ha.get hx hu;have:=(hf.ev x).plain;rw [h1] at this;exact this.toD h2
 .obtain⟨v,r,rfl,h1,h2,h3,h4⟩:=h;exact hK r L v w' U ⟨rfl,h4⟩ h1 h2 h3

theorem Q59 {f:FuncId} {x:Operand} {xs:List Operand} {args AZ:AD} {ts:Array TypeId} {R:AV->Prop} (hc:Pure P f (args++AZ) R) (hB:H5 P f=true) (ha:eV l xs args) (ho:o.op=.call { callee:=.value x,args:=xs.toArray,argTypes:=ts }:=by rfl) (hx:ev l x=.fn f AZ:=by rfl) (h5:Qr (fun _=>false) AZ=true:=by rfl):Gy P o l L (fun r L'=>L'=L/\R r):=by
 intro a w U K Q h0 hf hK;have hv:=hf.ev x;rw [hx] at hv;obtain⟨vs,he,hl,h6⟩:=hv.inv_fn;have hr:(execOp a.eval o).run P w=.ok (.enter f (xs.toArray.map a.eval++vs)) w:=by
  simp [execOp,ho,resolve,he,Deferred.ofValue,invoke,H5.out hB]
 unfold Oper.wp;rw [hr];show Calls P f _ w _
 refine(yS hc h0 (vs:=xs.toArray.map a.eval++vs) (by simp [ha.length,hl]) (fun j u v hu hv=>?_)).mono fun e w' h=>?_
 .rcases P4 j args.length with hj | hj
  .rw [Ph hj] at hu;rw [Array.getElem?_append_left (by simp [ha.length]; exact hj)] at hv;simp only [Array.getElem?_map,List.getElem?_toArray,Option.map_eq_some_iff] at hv;obtain⟨x,hx,rfl⟩:=hv;obtain⟨h1,h2⟩:=ha.get hx hu;have:=(hf.ev x).plain;rw [h1] at this;exact this.toD h2
  .rw [Pg hj] at hu;rw [Array.getElem?_append_right (by simp [ha.length]; exact hj)] at hv;simp only [Array.size_map,List.size_toArray,ha.length] at hv;exact(h6 _ u v hu hv).toD (Yz h5 u (Pd hu))
 .obtain⟨v,r,rfl,h1,h2,h3,h4⟩:=h;exact hK r L v w' U ⟨rfl,h4⟩ h1 h2 h3
end call

/-! ### Slices that are laid out in the text -/
section unnamed
variable {w:World} {U:Gx} {L:Loc}
theorem Step.new (h0:Sat w U L) (o:Obj):Step w U L (w.alloc o) U L:=
 ⟨rfl,rfl,⟨rfl,Pf⟩,by simp,fun _ _ _=>Iff.rfl,fun b i hs=>⟨⟨by have:=hs.lt; simp; omega,hs.seen,hs.kept⟩,Jc (w:=w) (Ju w o hs.lt)⟩,fun b hb hf=>⟨Ju w o hb,hf⟩,
  fun _ _ cs h=>⟨rfl,cs,h⟩,fun _ _ cs h=>⟨rfl,cs,h⟩,fun _ _ n cs h=>⟨rfl,n,cs,h⟩,fun id _ _ ver xs h=>⟨ver,xs,h,Pf,fun _=>⟨rfl,rfl,fun b hb=>bK (Ju w o (h0.bnd id b (by rw [h]; rfl) hb))⟩⟩,fun id _ _ ver hw h=>⟨ver,hw,h,Pf,fun _=>⟨rfl,rfl,fun b hb=>Ju w o (h0.bnd id b (by rw [h]; rfl) hb)⟩⟩⟩
theorem Sat.new (h0:Sat w U L) (o:Obj):Sat (w.alloc o) U L:=
 ⟨fun b i h=>by have:=h0.hid b i h; simp; omega,fun id b h1 h2=>by have:=h0.bnd id b h1 h2; simp; omega,h0.apart,h0.inj,
  fun id ob h=>(h0.obj id ob h).step (Step.new h0 o) (fun b hb=>Ju w o (h0.bnd id b (by rw [h]; rfl) hb))⟩
theorem Hs.new (h0:Sat w U L) (o:Obj) (i:Nat):Hs (w.alloc o) U L w.heap.size i:=
 ⟨by simp,fun h=>by have:=h0.hid _ _ h; omega,fun id ob h1 h2=>by have:=h0.bnd id _ (by rw [h1]; rfl) h2; omega⟩
end unnamed

theorem ZD:∀ (vs:AK) (off s:Nat) (cells:Array Value),off+s+vs.length<=cells.size ->
  ((vs.zipIdx s).foldl (fun cs (p:Value×Nat)=>cs.setIfInBounds (off+p.2) p.1) cells).toList=cells.toList.take (off+s)++vs++cells.toList.drop (off+s+vs.length)
 | [],off,s,cells,_=>by simp
 | v::r,off,s,cells,h=>by
  simp only [List.zipIdx_cons,List.foldl_cons];rw [ZD r off (s+1) (cells.setIfInBounds (off+s) v) (by simp at h ⊢; omega)];have e:=list_seg_step cells.toList (off+s) v r (by simp at h ⊢; omega);simpa [Array.toList_setIfInBounds,Nat.add_assoc] using e

theorem Hf8 (v:Value) (off:Nat) (cells:Array Value) (h:off+v.cells.size<=cells.size) :
  (v.cells.zipIdx.foldl (fun cs (p:Value×Nat)=>cs.setIfInBounds (off+p.2) p.1) cells).toList=cells.toList.take off++v.cells.toList++cells.toList.drop (off+v.cells.size):=by
 rw [<- Array.foldl_toList];have:=ZD v.cells.toList off 0 cells (by simpa using h);simpa [Array.toList_zipIdx] using this

def tE (place:Nat->Option (Nat×Nat)) (cells:AD):List (Nat×AV)->Option AD
 | []=>some cells
 | (i,u)::r=>
  match place i with
  | none=>none
  | some (off,size)=>bif Nat.beq u.cells.length size&&Nat.ble (off+size) cells.length&&u.BI then tE place (cells.take off++u.cells++cells.drop (off+size)) r else none

theorem nK {w:World} {U:Gx} {L:Loc} {place:Nat->Option (Nat×Nat)}:∀ {ps:List (Nat×AV)} {qs:List (Nat×Value)} {cells:AD} {vs:Array Value} {out:AD},
  tE place cells ps=some out->ps.length=qs.length->(∀ (j:Nat) p q,ps[j]? = some p->qs[j]? = some q->p.1=q.1/\V w U L p.2 q.2)->vs.size=cells.length ->
  (∀ (j:Nat) u v,cells[j]? = some u->vs[j]? = some v->V w U L u v) ->
  ∃ vs',Instr.fill place vs qs=some vs'/\vs'.size=out.length/\∀ (j:Nat) u v,out[j]? = some u->vs'[j]? = some v->V w U L u v
 | [],[],cells,vs,out,h,_,_,hs,hv=>by simp [tE] at h; subst h; exact⟨vs,rfl,hs,hv⟩
 | [],_::_,_,_,_,_,hl,_,_,_=>by simp at hl
 | _::_,[],_,_,_,_,hl,_,_,_=>by simp at hl
 | (i,u)::r,(i',v)::s,cells,vs,out,h,hl,hp,hs,hv=>by
  obtain⟨he,h5⟩:=hp 0 (i,u) (i',v) rfl rfl;simp only at he h5;subst he;simp only [tE] at h;cases h4:place i with
  | none=>rw [h4] at h; cases h
  | some q=>
   obtain⟨off,size⟩:=q;rw [h4] at h;simp only at h;cases hc:(Nat.beq u.cells.length size&&Nat.ble (off+size) cells.length&&u.BI) with
   | false=>rw [hc] at h; cases h
   | true=>
    rw [hc] at h;simp only [cond_true] at h;simp only [Pp,Nat.ble_eq] at hc;obtain⟨⟨h1,h2⟩,h3⟩:=hc;have h1:=P2 h1;obtain⟨c1,c2,c3⟩:=h5.cells h3;have h6:v.cells.size=size:=c1.trans h1;have h7:=Hf8 v off vs (by omega);obtain⟨vs',e1,e2,e3⟩:=nK (w:=w) (U:=U) (L:=L) (qs:=s) (vs:=v.cells.zipIdx.foldl (fun cs (p:Value×Nat)=>cs.setIfInBounds (off+p.2) p.1) vs) h (by simpa using hl) (fun j p q h8 h9=>hp (j+1) p q (by simpa using h8) (by simpa using h9))
     (by rw [<- Array.length_toList,h7]; simp only [Pn,List.length_take,List.length_drop,Array.length_toList]; omega)
     (fun j u' v' a0 h0=>by
      rw [<- Array.getElem?_toList,h7,h6] at h0;exact Gc9 (cs:=cells) (us:=u.cells) (old:=vs.toList) (ws:=v.cells.toList) (off:=off) (k:=size) (by simpa using hs) (by simpa using c1) h1 h2
       (fun j u v hu h0=>hv j u v hu (by simpa using h0)) (fun j u v hu h0=>c2 j u v hu (by simpa using h0)) j u' v' a0 h0)
    refine⟨vs',?_,e2,e3⟩;simp only [Instr.fill,h4];rw [if_neg (by simp [h6]; omega)];exact e1

def placesOf (P:Program) (T:TypeId):Option (List (Nat×Nat)):=
 match P.underlying T with
 | some (.struct fs)=>fs.toList.mapM fun f=>(P.info? f.type).map fun i=>(f.offset,i.size)
 | _=>none

theorem run_places {P:Program} {w:World}:∀ (fs:List Field) (ps:List (Nat×Nat)),fs.mapM (fun f=>(P.info? f.type).map fun i=>(f.offset,i.size))=some ps ->
  (fs.mapM (fun f=>Prod.mk f.offset <$> sizeOf f.type:Field->Sem (Nat×Nat))).run P w=.ok ps w
 | [],ps,h=>by simp at h; subst h; rfl
 | f::r,ps,h=>by
  simp only [List.mapM_cons,Option.bind_eq_bind,Option.pure_def,Option.bind_eq_some_iff,Option.some.injEq] at h;obtain⟨p,hp,qs,hq,rfl⟩:=h;simp only [Option.map_eq_some_iff] at hp;obtain⟨i,hi,rfl⟩:=hp;have ih:=run_places (w:=w) r qs hq;simp only [List.mapM_cons,Sem.run_bind,Sem.run_map,sizeOf,typeInfo,run_program,Result.andThen_ok,hi,Sem.run_pure];simp only [sizeOf,typeInfo] at ih;rw [ih];rfl


theorem dM {n:Int} (h1 : -9223372036854775808<=n) (h2:n<=9223372036854775807):IntKind.i64.wrap n=n:=IntWalk.i64_in n ⟨h1,h2⟩
theorem Jb3:∀ id,(lk [] id).isSome=true->id∈([]:AI):=fun id h=>by simp [lk] at h
abbrev I64 (n:Int):AV:=.sc (.int .i64 n)
abbrev U8 (n:Int):AV:=.sc (.int .u8 n)
abbrev BL (b:Bool):AV:=.sc (.bool b)
end Go.Proofs.YtbgfgnddogfpcaaGreat
