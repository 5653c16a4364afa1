/-
 Calls by contract; Small lemmas that the walks use at every turn. Slices that the call makes itself: Slices laid out in the text;
-/
import Derived.Test.YtibhpogonkdiaaaGreatFlow
import Derived.IntWalk
set_option linter.unusedVariables false
set_option linter.unusedSimpArgs false
set_option linter.unnecessarySimpa false
namespace Go.Proofs.YtibhpogonkdiaaaGreat
open Go.RowKit

/-! ### A call of a function that knows nothing of the local objects -/
mutual
def AV.plain:AV→AV
 | .own _ _ k xs=>.list k xs
 | .agg cs=>.agg (Ge6 cs)
 | u=>u
def Ge6:List AV→List AV
 | []=>[]
 | u::r=>u.plain::Ge6 r
end
theorem Hae:∀ {cs:List AV} {j:Nat} {u:AV},(Ge6 cs)[j]? = some u→∃ x,cs[j]? = some x∧u=x.plain
 | [],j,u,h=>by simp [Ge6] at h
 | c::r,0,u,h=>by simp [Ge6] at h; exact⟨c,rfl,h.symm⟩
 | c::r,j+1,u,h=>by
  simp only [Ge6,List.getElem?_cons_succ] at h
  obtain⟨x,hx,e⟩:=Hae (cs:=r) (j:=j) h
  exact⟨x,by simpa using hx,e⟩
theorem G74:∀ {cs:List AV},(Ge6 cs).length=cs.length
 | []=>rfl
 | c::r=>by simp [Ge6,G74 (cs:=r)]

def AV.isData (u:AV):Bool:=u.refs (fun _=>false)

theorem V.toD {w:World} {β:Gu} {L:Loc} {u:AV} {v:Value} (h:V w β L u v):u.isData=true→D w (Hv w β L) u v:=by
 have mem:∀ {cs:List AV},Qn (fun _=>false) cs=true→∀ (j:Nat) u,cs[j]? = some u→u.isData=true:=
  fun h j u hu=>Yt h u (Kz hu)
 induction h with
 | data h=>exact fun _=>h
 | agg hl _ ih=>exact fun hr=>.agg hl fun j u v hu hv=>ih j u v hu hv (mem (by simpa [AV.isData,AV.refs] using hr) j u hu)
 | tup hl _ ih=>exact fun hr=>.tup hl fun j u v hu hv=>ih j u v hu hv (mem (by simpa [AV.isData,AV.refs] using hr) j u hu)
 | fn hl _ ih=>exact fun hr=>.fn hl fun j u v hu hv=>ih j u v hu hv (mem (by simpa [AV.isData,AV.refs] using hr) j u hu)
 | bfn hl _ ih=>exact fun hr=>.bfn hl fun j u v hu hv=>ih j u v hu hv (mem (by simpa [AV.isData,AV.refs] using hr) j u hu)
 | opt _ h0 ih=>exact fun hr=>.opt (fun e=>ih e (by simpa [AV.isData,AV.refs] using hr)) h0
 | ptr=>exact fun hr=>by simp [AV.isData,AV.refs] at hr
 | ms=>exact fun hr=>by simp [AV.isData,AV.refs] at hr
 | mp=>exact fun hr=>by simp [AV.isData,AV.refs] at hr
 | it=>exact fun hr=>by simp [AV.isData,AV.refs] at hr
 | vptr=>exact fun hr=>by simp [AV.isData,AV.refs] at hr
 | vsl=>exact fun hr=>by simp [AV.isData,AV.refs] at hr
 | vcap=>exact fun hr=>by simp [AV.isData,AV.refs] at hr
 | nst=>exact fun hr=>by simp [AV.isData,AV.refs] at hr
 | nptr=>exact fun hr=>by simp [AV.isData,AV.refs] at hr
 | vec=>exact fun hr=>by simp [AV.isData,AV.refs] at hr
 | own=>exact fun hr=>by simp [AV.isData,AV.refs] at hr

theorem D.plain {w:World} {S:Nat→Nat→Prop} {u:AV} {v:Value} (h:D w S u v):D w S u.plain v:=by
 induction h with
 | junk=>exact .junk
 | sc=>exact .sc
 | agg hl _ ih=>
  refine .agg (by rw [G74]; exact hl) fun j u v hu hv=>?_
  obtain⟨x,hx,rfl⟩:=Hae hu
  exact ih j x v hx hv
 | tup hl h _=>exact .tup hl h
 | nil h=>exact .nil h
 | list vals h1 hm hk hS h _=>exact .list vals h1 hm hk hS h
 | lnil h=>exact .lnil h
 | lst vals h1 hm hk hS h _=>exact .lst vals h1 hm hk hS h
 | dptr vals hS h _=>exact .dptr vals hS h
 | fn hl h _=>exact .fn hl h
 | bfn hl h _=>exact .bfn hl h
 | opt h h0 _=>exact .opt h h0
 | dmap vals hl hw hS h _=>exact .dmap vals hl hw hS h
 | bag hp h _=>exact .bag hp h
theorem V.plain {w:World} {β:Gu} {L:Loc} {u:AV} {v:Value} (h:V w β L u v):V w β L u.plain v:=by
 induction h with
 | data h=>exact .data h.plain
 | agg hl _ ih=>
  refine .agg (by rw [G74]; exact hl) fun j u v hu hv=>?_
  obtain⟨x,hx,rfl⟩:=Hae hu
  exact ih j x v hx hv
 | own hd hp=>exact .data hd
 | tup hl h _=>exact .tup hl h
 | ptr hi h=>exact .ptr hi h
 | ms hi h hn hm=>exact .ms hi h hn hm
 | it hi h=>exact .it hi h
 | vec hp hv=>exact .vec hp hv
 | vptr hp hv=>exact .vptr hp hv
 | vsl hp hv=>exact .vsl hp hv
 | vcap hp hv=>exact .vcap hp hv
 | nst vs hi h1 hr h3 h2 hv _=>exact .nst vs hi h1 hr h3 h2 hv
 | nptr b vs hi h1 hr hu hv _=>exact .nptr b vs hi h1 hr hu hv
 | mp hi h=>exact .mp hi h
 | fn hl h _=>exact .fn hl h
 | bfn hl h _=>exact .bfn hl h
 | opt h h0 _=>exact .opt h h0

theorem V.data_of_nil {w:World} {β:Gu} {u:AV} {v:Value} (h:V w β [] u v):D w (Hv w β []) u v:=by
 induction h with
 | data h=>exact h
 | agg hl _ ih=>exact .agg hl ih
 | tup hl _ ih=>exact .tup hl ih
 | fn hl _ ih=>exact .fn hl ih
 | bfn hl _ ih=>exact .bfn hl ih
 | opt _ h0 ih=>exact .opt ih h0
 | ptr hi=>simp [lk] at hi
 | ms hi=>simp [lk] at hi
 | mp hi=>simp [lk] at hi
 | it hi=>simp [lk] at hi
 | vptr hp=>obtain⟨_,_,_,_,hi,_⟩:=hp; simp [lk] at hi
 | vsl hp=>obtain⟨_,_,_,hi,_⟩:=hp; simp [lk] at hi
 | vcap hp=>obtain⟨_,_,_,hi,_⟩:=hp; simp [lk] at hi
 | nst vs hi=>simp [lk] at hi
 | nptr _ vs hi=>simp [lk] at hi
 | vec hp=>obtain⟨_,_,_,hi,_⟩:=hp; simp [lk] at hi
 | own _ hp=>obtain⟨_,_,_,hi,_⟩:=hp; simp [lk] at hi

def G2a (l:Fr):List Operand→List AV→Prop
 | [],[]=>True
 | x::r,u::s=>(ev l x).plain=u∧u.isData=true∧G2a l r s
 | _,_=>False

theorem G2a.length {l:Fr}:∀ {xs:List Operand} {us:List AV},G2a l xs us→xs.length=us.length
 | [],[],_=>rfl
 | _::_,_::_,h=>by simp [G2a.length h.2.2]
 | [],_::_,h=>h.elim
 | _::_,[],h=>h.elim

theorem G2a.get {l:Fr}:∀ {xs:List Operand} {us:List AV},G2a l xs us→∀ {j:Nat} {x:Operand} {u:AV},xs[j]? = some x→us[j]? = some u→(ev l x).plain=u∧u.isData=true
 | x::r,u::s,h,j,x',u',hx,hu=>by
  cases j with
  | zero=>simp at hx hu; subst hx; subst hu; exact⟨h.1,h.2.1⟩
  | succ j=>simp at hx hu; exact h.2.2.get hx hu
 | [],[],_,j,_,_,hx,_=>by simp at hx
 | [],_::_,h,_,_,_,_,_=>h.elim
 | _::_,[],h,_,_,_,_,_=>h.elim

def Pure (P:Program) (f:FuncId) (args:List AV) (R:AV→Prop):Prop:=Q2 P f args [] (fun r L'=>L'=[]∧R r)

theorem Had {P:Program} {f:FuncId} {args:List AV} {R:AV→Prop} (hc:Pure P f args R) {w:World} {β:Gu} {L:Loc} (h0:Sat w β L) {vs:Array Value} (hl:vs.size=args.length)
  (hv:∀ (j:Nat) u v,args[j]? = some u→vs[j]? = some v→D w (Hv w β L) u v) :
  Calls P f vs w fun e w'=>∃ v r,e=.returned v∧Sat w' β L∧Step w β L w' β L∧V w' β L r v∧R r:=by
 have h4:∀ b i,Hv w β L b i→Hv w ⟨fun _=>none,fun b i=>¬ Hv w β L b i∧b < w.heap.size⟩ [] b i:=fun b i hs=>⟨hs.lt,fun h=>h.1 hs,fun id o h=>by simp [lk] at h⟩
 refine(hc w ⟨fun _=>none,fun b i=>¬ Hv w β L b i∧b < w.heap.size⟩ vs ⟨fun b i h=>h.2,fun id b h=>by simp [lk] at h,fun id b j h=>by simp [lk] at h,fun id id' b h=>by simp [lk] at h,fun id o h=>by simp [lk] at h⟩ hl
  (fun j u v hu h5=>.data ((hv j u v hu h5).mono fun b i hs=>⟨h4 b i hs,rfl⟩))).mono fun e w' h=>?_
 obtain⟨v,r,β',L',he,h7,h3,h6,rfl,hR⟩:=h
 have far:∀ b,b < w.heap.size→w'.heap[b]? = w.heap[b]? := fun b hb=>(h3.far b hb (fun id h=>by simp [lk] at h)).1
 have stab:∀ b i,Hv w β L b i→Hv w' β L b i:=fun b i hs=>⟨Km hs.lt h3.size,hs.seen,hs.kept⟩
 have step:Step w β L w' β L:=⟨h3.os,h3.tape,h3.output,h3.size,fun _ _ _=>Iff.rfl,fun b i hs=>⟨stab b i hs,Jh (w:=w) (far b hs.lt)⟩,fun b hb hf=>⟨far b hb,hf⟩,
  fun _ _ cs h=>⟨rfl,cs,h⟩,fun _ _ cs h=>⟨rfl,cs,h⟩,fun _ _ n cs h=>⟨rfl,n,cs,h⟩,fun id _ _ ver xs h=>⟨ver,xs,h,M1,fun _=>⟨rfl,rfl,fun b hb=>G03 (far b (h0.bnd id b (by rw [h]; rfl) hb))⟩⟩,fun id _ _ ver hw h=>⟨ver,hw,h,M1,fun _=>⟨rfl,rfl,fun b hb=>far b (h0.bnd id b (by rw [h]; rfl) hb)⟩⟩⟩
 refine⟨v,r,he,⟨fun b i h=>Km (h0.hid b i h) h3.size,fun id b h1 h2=>Km (h0.bnd id b h1 h2) h3.size,h0.apart,h0.inj,fun id o h=>(h0.obj id o h).step step (fun b hb=>far b (h0.bnd id b (by rw [h]; rfl) hb))⟩,step,?_,hR⟩
 refine .data (h6.data_of_nil.mono fun b i hs=>⟨?_,rfl⟩)
 rcases Kq b w.heap.size with hb | hb
 ·have:¬ (¬ Hv w β L b i∧b < w.heap.size):=by have:=hs.seen; rwa [h3.hid b i hb] at this
  exact stab b i (Classical.byContradiction fun hn=>this ⟨hn,hb⟩)
 ·exact⟨hs.lt,fun h=>by have:=h0.hid b i h; omega,fun id o h1 h2=>by have:=h0.bnd id b (by rw [h1]; rfl) h2; omega⟩

theorem Hh.out {P:Program} {f:FuncId} (h:Hh P f=true) (args:Array Value) (w:World):(callFunc f args).run P w=.ok (.enter f args) w:=by
 unfold Hh at h
 split at h
 ·rename_i fn hf
  simp only [Ma,Bool.not_eq_true',beq_eq_false_iff_ne,ne_eq] at h
  obtain⟨c,hc⟩:=Kj h.2
  simp [callFunc,hf,h.1,hc]
 ·cases h

section call
variable {P:Program} {o:Oper} {l:Fr} {L:Loc}

theorem Y75 {f:FuncId} {xs:List Operand} {args:List AV} {ts:Array TypeId} {R:AV→Prop} (hc:Pure P f args R) (hB:Hh P f=true) (ha:G2a l xs args) (ho:o.op=.call { callee:=.value (.func f),args:=xs.toArray,argTypes:=ts }:=by rfl):Gz P o l L (fun r L'=>L'=L∧R r):=by
 intro a w β K Q h0 hf hK
 have hr:(execOp a.eval o).run P w=.ok (.enter f (xs.toArray.map a.eval)) w:=by
  simp [execOp,ho,resolve,Act.eval,Deferred.ofValue,invoke,Hh.out hB]
 unfold Oper.wp
 rw [hr]
 show Calls P f _ w _
 refine(Had hc h0 (vs:=xs.toArray.map a.eval) (by simp [ha.length]) (fun j u v hu hv=>?_)).mono fun e w' h=>?_
 ·simp only [Array.getElem?_map,List.getElem?_toArray,Option.map_eq_some_iff] at hv
  obtain⟨x,hx,rfl⟩:=hv
  obtain⟨h1,h2⟩:=ha.get hx hu
  have:=(hf.ev x).plain
  rw [h1] at this
  exact this.toD h2
 ·obtain⟨v,r,rfl,h1,h2,h3,h4⟩:=h
  exact hK r L v w' β ⟨rfl,h4⟩ h1 h2 h3

theorem Y36 {f:FuncId} {x:Operand} {xs:List Operand} {args caps:List AV} {ts:Array TypeId} {R:AV→Prop} (hc:Pure P f (args++caps) R) (hB:Hh P f=true) (ha:G2a l xs args) (ho:o.op=.call { callee:=.value x,args:=xs.toArray,argTypes:=ts }:=by rfl) (hx:ev l x=.fn f caps:=by rfl) (h5:Qn (fun _=>false) caps=true:=by rfl):Gz P o l L (fun r L'=>L'=L∧R r):=by
 intro a w β K Q h0 hf hK
 have hv:=hf.ev x
 rw [hx] at hv
 obtain⟨vs,he,hl,h6⟩:=hv.inv_fn
 have hr:(execOp a.eval o).run P w=.ok (.enter f (xs.toArray.map a.eval++vs)) w:=by
  simp [execOp,ho,resolve,he,Deferred.ofValue,invoke,Hh.out hB]
 unfold Oper.wp
 rw [hr]
 show Calls P f _ w _
 refine(Had hc h0 (vs:=xs.toArray.map a.eval++vs) (by simp [ha.length,hl]) (fun j u v hu hv=>?_)).mono fun e w' h=>?_
 ·rcases Kq j args.length with hj | hj
  ·rw [M3 hj] at hu
   rw [Array.getElem?_append_left (by simp [ha.length]; exact hj)] at hv
   simp only [Array.getElem?_map,List.getElem?_toArray,Option.map_eq_some_iff] at hv
   obtain⟨x,hx,rfl⟩:=hv
   obtain⟨h1,h2⟩:=ha.get hx hu
   have:=(hf.ev x).plain
   rw [h1] at this
   exact this.toD h2
  ·rw [M2 hj] at hu
   rw [Array.getElem?_append_right (by simp [ha.length]; exact hj)] at hv
   simp only [Array.size_map,List.size_toArray,ha.length] at hv
   exact(h6 _ u v hu hv).toD (Yt h5 u (Kz hu))
 ·obtain⟨v,r,rfl,h1,h2,h3,h4⟩:=h
  exact hK r L v w' β ⟨rfl,h4⟩ h1 h2 h3
end call

/-! ### Slices that are laid out in the text -/
section unnamed
variable {w:World} {β:Gu} {L:Loc}
theorem Step.new (h0:Sat w β L) (o:Obj):Step w β L (w.alloc o) β L:=
 ⟨rfl,rfl,⟨rfl,M1⟩,by simp,fun _ _ _=>Iff.rfl,fun b i hs=>⟨⟨by have:=hs.lt; simp; omega,hs.seen,hs.kept⟩,Jh (w:=w) (Ji w o hs.lt)⟩,fun b hb hf=>⟨Ji w o hb,hf⟩,
  fun _ _ cs h=>⟨rfl,cs,h⟩,fun _ _ cs h=>⟨rfl,cs,h⟩,fun _ _ n cs h=>⟨rfl,n,cs,h⟩,fun id _ _ ver xs h=>⟨ver,xs,h,M1,fun _=>⟨rfl,rfl,fun b hb=>G03 (Ji w o (h0.bnd id b (by rw [h]; rfl) hb))⟩⟩,fun id _ _ ver hw h=>⟨ver,hw,h,M1,fun _=>⟨rfl,rfl,fun b hb=>Ji w o (h0.bnd id b (by rw [h]; rfl) hb)⟩⟩⟩
theorem Sat.new (h0:Sat w β L) (o:Obj):Sat (w.alloc o) β L:=
 ⟨fun b i h=>by have:=h0.hid b i h; simp; omega,fun id b h1 h2=>by have:=h0.bnd id b h1 h2; simp; omega,h0.apart,h0.inj,
  fun id ob h=>(h0.obj id ob h).step (Step.new h0 o) (fun b hb=>Ji w o (h0.bnd id b (by rw [h]; rfl) hb))⟩
theorem Hv.new (h0:Sat w β L) (o:Obj) (i:Nat):Hv (w.alloc o) β L w.heap.size i:=
 ⟨by simp,fun h=>by have:=h0.hid _ _ h; omega,fun id ob h1 h2=>by have:=h0.bnd id _ (by rw [h1]; rfl) h2; omega⟩
end unnamed

theorem J5b:∀ (vs:List Value) (off s:Nat) (cells:Array Value),off+s+vs.length≤cells.size →
  ((vs.zipIdx s).foldl (fun cs (p:Value×Nat)=>cs.setIfInBounds (off+p.2) p.1) cells).toList=cells.toList.take (off+s)++vs++cells.toList.drop (off+s+vs.length)
 | [],off,s,cells,_=>by simp
 | v::r,off,s,cells,h=>by
  simp only [List.zipIdx_cons,List.foldl_cons]
  rw [J5b r off (s+1) (cells.setIfInBounds (off+s) v) (by simp at h ⊢; omega)]
  have e:=list_seg_step cells.toList (off+s) v r (by simp at h ⊢; omega)
  simpa [Array.toList_setIfInBounds,Nat.add_assoc] using e

theorem R1f (v:Value) (off:Nat) (cells:Array Value) (h:off+v.cells.size≤cells.size) :
  (v.cells.zipIdx.foldl (fun cs (p:Value×Nat)=>cs.setIfInBounds (off+p.2) p.1) cells).toList=cells.toList.take off++v.cells.toList++cells.toList.drop (off+v.cells.size):=by
 rw [← Array.foldl_toList]
 have:=J5b v.cells.toList off 0 cells (by simpa using h)
 simpa [Array.toList_zipIdx] using this

def H3c (place:Nat→Option (Nat×Nat)) (cells:List AV):List (Nat×AV)→Option (List AV)
 | []=>some cells
 | (i,u)::r=>
  match place i with
  | none=>none
  | some (off,size)=>bif Nat.beq u.cells.length size&&Nat.ble (off+size) cells.length&&u.flatOk then H3c place (cells.take off++u.cells++cells.drop (off+size)) r else none

theorem Gcf {w:World} {β:Gu} {L:Loc} {place:Nat→Option (Nat×Nat)}:∀ {ps:List (Nat×AV)} {qs:List (Nat×Value)} {cells:List AV} {vs:Array Value} {out:List AV},
  H3c place cells ps=some out→ps.length=qs.length→(∀ (j:Nat) p q,ps[j]? = some p→qs[j]? = some q→p.1=q.1∧V w β L p.2 q.2)→vs.size=cells.length →
  (∀ (j:Nat) u v,cells[j]? = some u→vs[j]? = some v→V w β L u v) →
  ∃ vs',Instr.fill place vs qs=some vs'∧vs'.size=out.length∧∀ (j:Nat) u v,out[j]? = some u→vs'[j]? = some v→V w β L u v
 | [],[],cells,vs,out,h,_,_,hs,hv=>by simp [H3c] at h; subst h; exact⟨vs,rfl,hs,hv⟩
 | [],_::_,_,_,_,_,hl,_,_,_=>by simp at hl
 | _::_,[],_,_,_,_,hl,_,_,_=>by simp at hl
 | (i,u)::r,(i',v)::s,cells,vs,out,h,hl,hp,hs,hv=>by
  obtain⟨he,h5⟩:=hp 0 (i,u) (i',v) rfl rfl
  simp only at he h5
  subst he
  simp only [H3c] at h
  cases h4:place i with
  | none=>rw [h4] at h; cases h
  | some q=>
   obtain⟨off,size⟩:=q
   rw [h4] at h
   simp only at h
   cases hc:(Nat.beq u.cells.length size&&Nat.ble (off+size) cells.length&&u.flatOk) with
   | false=>rw [hc] at h; cases h
   | true=>
    rw [hc] at h
    simp only [cond_true] at h
    simp only [Ma,Nat.ble_eq] at hc
    obtain⟨⟨h1,h2⟩,h3⟩:=hc
    have h1:=Ko h1
    obtain⟨c1,c2,c3⟩:=h5.cells h3
    have h6:v.cells.size=size:=c1.trans h1
    have h7:=R1f v off vs (by omega)
    obtain⟨vs',e1,e2,e3⟩:=Gcf (w:=w) (β:=β) (L:=L) (qs:=s) (vs:=v.cells.zipIdx.foldl (fun cs (p:Value×Nat)=>cs.setIfInBounds (off+p.2) p.1) vs) h (by simpa using hl) (fun j p q h8 h9=>hp (j+1) p q (by simpa using h8) (by simpa using h9))
     (by rw [← Array.length_toList,h7]; simp only [M8,List.length_take,List.length_drop,Array.length_toList]; omega)
     (fun j u' v' a0 h0=>by
      rw [← Array.getElem?_toList,h7,h6] at h0
      exact Q24 (cs:=cells) (us:=u.cells) (old:=vs.toList) (ws:=v.cells.toList) (off:=off) (k:=size) (by simpa using hs) (by simpa using c1) h1 h2
       (fun j u v hu h0=>hv j u v hu (by simpa using h0)) (fun j u v hu h0=>c2 j u v hu (by simpa using h0)) j u' v' a0 h0)
    refine⟨vs',?_,e2,e3⟩
    simp only [Instr.fill,h4]
    rw [if_neg (by simp [h6]; omega)]
    exact e1

def placesOf (P:Program) (T:TypeId):Option (List (Nat×Nat)):=
 match P.underlying T with
 | some (.struct fs)=>fs.toList.mapM fun f=>(P.info? f.type).map fun i=>(f.offset,i.size)
 | _=>none

theorem run_places {P:Program} {w:World}:∀ (fs:List Field) (ps:List (Nat×Nat)),fs.mapM (fun f=>(P.info? f.type).map fun i=>(f.offset,i.size))=some ps →
  (fs.mapM (fun f=>Prod.mk f.offset <$> sizeOf f.type:Field→Sem (Nat×Nat))).run P w=.ok ps w
 | [],ps,h=>by simp at h; subst h; rfl
 | f::r,ps,h=>by
  simp only [List.mapM_cons,Option.bind_eq_bind,Option.pure_def,Option.bind_eq_some_iff,Option.some.injEq] at h
  obtain⟨p,hp,qs,hq,rfl⟩:=h
  simp only [Option.map_eq_some_iff] at hp
  obtain⟨i,hi,rfl⟩:=hp
  have ih:=run_places (w:=w) r qs hq
  simp only [List.mapM_cons,Sem.run_bind,Sem.run_map,sizeOf,typeInfo,run_program,Result.andThen_ok,hi,Sem.run_pure]
  simp only [sizeOf,typeInfo] at ih
  rw [ih]
  rfl

section build
variable {P:Program} {o:Oper} {l:Fr} {L:Loc}

end build

theorem R4f {n:Int} (h1 : -9223372036854775808≤n) (h2:n≤9223372036854775807):IntKind.i64.wrap n=n:=IntWalk.i64_in n ⟨h1,h2⟩
theorem Rd3:∀ id,(lk [] id).isSome=true→id∈([]:List Nat):=fun id h=>by simp [lk] at h
abbrev I64 (n:Int):AV:=.sc (.int .i64 n)
abbrev U8 (n:Int):AV:=.sc (.int .u8 n)
abbrev BL (b:Bool):AV:=.sc (.bool b)

section mem
variable {P:Program} {o:Oper} {l:Fr} {L:Loc} {u:AV}

theorem Gv {x:Operand} {n:Nat} {cs:List AV} (ho:o.op=.extract x n) (hx:ev l x=.tup cs) (hn:cs[n]? = some u):Gz P o l L (Is u L):=
 Hj fun a w β _ hf=>by
  have h1:=hf.ev x
  rw [hx] at h1
  obtain⟨vs,he,hl,hv⟩:=h1.inv_tup
  have h0:n < vs.size:=by
   rw [hl]
   rcases Kq n cs.length with h | h
   ·exact h
   ·simp [List.getElem?_eq_none h] at hn
  exact⟨vs[n],by simp [execOp,ho,Instr.extract,he,h0],hv n u _ hn (by simp [h0])⟩

/-! ### The nil slice that is going to be appended to -/
theorem G45 (i E k:Nat) {x:Operand} (ho:o.op=.assign x) (hx:ev l x=.sc (.slice none 0 0)) (hi:lk L i=none):Gz P o l L (Is (.own i 0 k []) ((i,.spare E k 0 0)::L)):=by
 intro a w β K Q h0 hf hK
 have hv:=hf.ev x
 rw [hx] at hv
 have hr:(execOp a.eval o).run P w=.ok (.value (.slice none 0 0)) w:=by simp [execOp,ho,hv.inv_sc]
 unfold Oper.wp
 rw [hr]
 have h6:∀ id,(lk L id).isSome=true→i≠id:=fun id h e=>by subst e; rw [hi] at h; cases h
 have st:Step w β L w (upP β i none) ((i,.spare E k 0 0)::L):=by
  refine⟨rfl,rfl,⟨rfl,M1⟩,M1,fun _ _ _=>Iff.rfl,fun b j hs=>⟨⟨hs.lt,hs.seen,fun id ob hid hb=>?_⟩,rfl⟩,fun b hb h5=>⟨rfl,fun id hid e=>?_⟩,fun id t cs hid=>?_,fun id t cs hid=>?_,fun id t n cs hid=>?_,fun id t k' ver xs hid=>?_,fun id t k' ver hw hid=>?_⟩
  ·rw [Gd] at hid
   by_cases e:i=id
   ·subst e; simp [upP] at hb
   ·rw [if_neg e] at hid; simp only [upP,if_neg (Ne.symm e)] at hb; exact hs.kept id ob hid hb
  ·rw [Gd] at hid
   by_cases e':i=id
   ·subst e'; simp [upP] at e
   ·rw [if_neg e'] at hid; simp only [upP,if_neg (Ne.symm e')] at e; exact h5 id hid e
  all_goals
   have e:=h6 id (by rw [hid]; rfl)
  ·exact⟨by simp [upP,Ne.symm e],cs,by rw [Gd,if_neg e]; exact hid⟩
  ·exact⟨by simp [upP,Ne.symm e],cs,by rw [Gd,if_neg e]; exact hid⟩
  ·exact⟨by simp [upP,Ne.symm e],n,cs,by rw [Gd,if_neg e]; exact hid⟩
  ·exact⟨ver,xs,by rw [Gd,if_neg e]; exact hid,M1,fun _=>⟨rfl,by simp [upP,Ne.symm e],fun _ _=>rfl⟩⟩
  ·exact⟨ver,hw,by rw [Gd,if_neg e]; exact hid,M1,fun _=>⟨rfl,by simp [upP,Ne.symm e],fun _ _=>rfl⟩⟩
 refine hK _ _ _ w (upP β i none) ⟨rfl,rfl⟩ ⟨h0.hid,fun id b hid hb=>?_,fun id b j hid hb=>?_,fun id id' b h1 h2 h3 h4=>?_,fun id ob hid=>?_⟩ st ?_
 ·rw [Gd] at hid
  by_cases e:i=id
  ·subst e; simp [upP] at hb
  ·rw [if_neg e] at hid; simp only [upP,if_neg (Ne.symm e)] at hb; exact h0.bnd id b hid hb
 ·rw [Gd] at hid
  by_cases e:i=id
  ·subst e; simp [upP] at hb
  ·rw [if_neg e] at hid; simp only [upP,if_neg (Ne.symm e)] at hb; exact h0.apart id b j hid hb
 ·by_cases e:i=id
  ·subst e; simp [upP] at h3
  ·by_cases e':i=id'
   ·subst e'; simp [upP] at h4
   ·rw [Gd,if_neg e] at h1
    rw [Gd,if_neg e'] at h2
    simp only [upP,if_neg (Ne.symm e)] at h3
    simp only [upP,if_neg (Ne.symm e')] at h4
    exact h0.inj id id' b h1 h2 h3 h4
 ·rw [Gd] at hid
  by_cases e:i=id
  ·subst e; simp at hid; subst hid; exact .inl ⟨by simp [upP],rfl⟩
  ·rw [if_neg e] at hid
   simp only [upP,if_neg (Ne.symm e)]
   exact(h0.obj id ob hid).step st (fun b hb=>rfl)
 ·exact .own (.nil (Nat.zero_le _)) ⟨E,0,0,by rw [Gd,if_pos rfl],M1,fun _=>⟨rfl,by simp [Value.ownBlock,upP],[],⟨by simp,.inl ⟨rfl,rfl⟩⟩,fun j u hu=>by simp [flat] at hu⟩⟩

theorem H4a:∀ {ys:List AV},(∀ y∈ys,y.flatOk=true)→∀ {c:AV},c∈flat ys→c.isCell=true
 | y::r,h,c,hc=>by
  simp only [flat,Md] at hc
  rcases hc with hc | hc
  ·have:=h y (by simp)
   simp only [AV.flatOk,List.all_eq_true] at this
   exact this c hc
  ·exact H4a (fun y hy=>h y (by simp [hy])) hc

/-! ### append -/
theorem H13 (w:World) (t ty e:TypeId) (i:TypeInfo) (z:Value) (size:Nat) (ht:P.underlying t=some (.slice e)) (hi:P.info? e=some i) (hz:i.zero=some z)
  (h7:i.size=size) (a5:z.cells.size=size) (b1:0 < size)
  (v:Value) (n:Nat) (xs:List Value) (h0:w.ownsRow 0 e size v n xs)
  (ao:Option Addr) (m c:Nat) (news:List Value) (hl:news.length=m*size) (h8:∀ (ad:Addr) (j:Nat) u,ao=some ad→news[j]? = some u→w.cell? (ad.add j)=some u) (a6:ao=none→m=0) (h1:∀ u∈news,u.oneCell'=true)
  (a0:n+m≤maxLen) (h5:(n+m)*i.bytes≤140737488355328) :
  ∃ v' w',(Builtin.append_ #[t,t] ty #[v,.slice ao m c]).run P w=.ok v' w'∧w'.ownsRow 0 e size v' (n+m) (xs++news)∧w'.os=w.os∧w'.tape=w.tape∧(w'.output=w.output∧w.drawn≤w'.drawn)∧w.heap.size≤w'.heap.size ∧
   (∀ b,b < w.heap.size→v.ownBlock≠some b→w'.heap[b]? = w.heap[b]?) ∧
   (v'.ownBlock=v.ownBlock∨(v'.ownBlock=some w.heap.size∧w.heap.size < w'.heap.size∧∀ b,b < w.heap.size→w'.heap[b]? = w.heap[b]?)):=by
 subst h7
 have a7:n+m≤9223372036854775807:=by simp only [maxLen] at a0; omega
 have h3:(xs++news).length=(n+m)*i.size:=by rw [M8,h0.1,hl,Nat.add_mul]
 have grown:∀ (old:Nat),old < n+m →
   (w.drew.alloc (.cells (xs.toArray++news.toArray++Builtin.zeroCells z.cells (grownCap w (n+m) old e - (n+m))) e)).ownsRow 0 e i.size
    (.slice (some ⟨w.heap.size,0,none⟩) (n+m) (grownCap w (n+m) old e)) (n+m) (xs++news):=by
  intro old ho
  have a8:=grownCap_ge w (n+m) old e
  have h6:grownCap w (n+m) old e≤maxLen:=grownCap_le_maxLen w (n+m) old e a0
  refine⟨h3,.inr ⟨w.heap.size,_,_,rfl,Nat.zero_le _,heap_alloc_new w.drew _,a8,h6,?_,?_⟩⟩
  ·simp only [Array.size_append,List.size_toArray,size_zeroCells,a5,h0.1,hl,← Nat.add_mul]
   congr 1
   omega
  ·simp only [Array.toList_append,List.append_assoc]
   rw [← List.append_assoc,← h3]
   exact List.take_left
 have same:∀ (o:Obj) b,b < w.heap.size→(w.drew.alloc o).heap[b]? = w.heap[b]? := fun o b hb=>Ji w.drew o hb
 by_cases a1:m=0
 ·-- nothing is appended
  subst a1
  have hn:news=[]:=Kn (by simpa using hl)
  subst hn
  refine⟨v,w,?_,by simpa using h0,rfl,rfl,⟨rfl,M1⟩,M1,fun _ _ _=>rfl,.inl rfl⟩
  rcases h0.2 with ⟨rfl,rfl⟩ | ⟨g,cap,cur,rfl,_,_,a2,_⟩
  ·cases ao <;> simp [Builtin.append_,run_underlying ht,sizeOf,typeInfo,hi,Builtin.lenOf,Builtin.firstCells,loadCells,loadCellsFrom]
  ·cases ao <;> simp [Builtin.append_,run_underlying ht,sizeOf,typeInfo,hi,Builtin.lenOf,Builtin.firstCells,a2,storeCells,loadCells,loadCellsFrom]
 ·cases ao with
  | none=>exact absurd (a6 rfl) a1
  | some a=>
   have h2:∀ j u,news[j]? = some u→w.cell? (a.add j)=some u:=fun j u h=>h8 a j u rfl h
   rcases h0.2 with ⟨rfl,rfl⟩ | ⟨g,cap,cur,rfl,a9,hg,a2,h6,b0,h9⟩
   ·have hx:xs=[]:=Kn (by simpa using h0.1)
    subst hx
    have hr:=run_append_nil (P:=P) w t ty e i z ht hi hz a m c news hl h2 (by omega) (by omega) (by have hb:=h5; simp only [Nat.zero_add] at hb; omega)
    have a3:=grown 0 (by omega)
    simp only [Nat.zero_add,List.nil_append,Array.empty_append] at a3 ⊢
    exact⟨_,_,hr,a3,rfl,rfl,⟨rfl,Nat.le_succ _⟩,by simp,fun b hb _=>same _ b hb,.inr ⟨rfl,by simp,fun b hb=>same _ b hb⟩⟩
   ·by_cases h4:n+m≤cap
    ·have a4:n*i.size+news.length≤cur.size:=by rw [hl,b0,← Nat.add_mul]; exact Nat.mul_le_mul_right _ h4
     have hr:=run_append_room (P:=P) w t ty e i ht hi g n cap cur hg a m c news hl h2 h1 h4 a4
     refine⟨_,_,hr,⟨h3,.inr ⟨g,cap,_,rfl,a9,setRow_heap w g cur _ e _ hg,h4,h6,?_,?_⟩⟩,rfl,rfl,⟨rfl,M1⟩,by simp,fun k _ hk=>setRow_other w g k _ (fun e=>hk (by simp [Value.ownBlock,e])),.inl rfl⟩
     ·simp only [List.size_toArray,M8,List.length_take,List.length_drop,Array.length_toList]
      omega
     ·rw [h9,← h3]
      exact List.take_left
    ·have holds:∀ j u,xs[j]? = some u→w.cell? ((⟨g,0,none⟩:Addr).add j)=some u:=h0.cells (g:=g) rfl
     have hr:=run_append_grow (P:=P) w t ty e i z ht hi hz ⟨g,0,none⟩ n cap xs h0.1 holds a m c news hl h2 (by omega) (by omega) (growslice_fits (by omega) h5)
     exact⟨_,_,hr,grown cap (by omega),rfl,rfl,⟨rfl,Nat.le_succ _⟩,by simp,fun b hb _=>same _ b hb,.inr ⟨rfl,by simp,fun b hb=>same _ b hb⟩⟩

theorem H63 {w:World} {t k n:Nat} {v:Value} {vals:List Value} (h:w.ownsRow 0 t k v n vals) {b j:Nat} (hb:v.ownBlock=some b) (hj:j < n*k):w.cell? ⟨b,j,none⟩=vals[j]? := by
 have h1:=h.1
 have:=h.cells hb j
 have h0:j < vals.length:=by omega
 have h2:=this vals[j] (by simp [h0])
 rw [Addr.add_lit,Nat.zero_add] at h2
 rw [h2]; simp [h0]

theorem Hcd {w:World} {t k n:Nat} {v:Value} {vals:List Value} (h:w.ownsRow 0 t k v n vals) {b:Nat} (hb:v.ownBlock=some b):∃ vs,w.heap[b]? = some (.cells vs t (0,0)):=by
 rcases h.2 with ⟨rfl,_⟩ | ⟨g,cap,cur,rfl,_,hg,_⟩
 ·cases hb
 ·cases hb; exact⟨cur,hg⟩

theorem ownsRow_form {w:World} {t k n:Nat} {v:Value} {vals:List Value} (h:w.ownsRow 0 t k v n vals):(v=.slice none 0 0∧n=0∧v.ownBlock=none)∨∃ b cap cur,v=.slice (some ⟨b,0,none⟩) n cap∧v.ownBlock=some b∧n≤cap∧cap≤maxLen∧w.heap[b]? = some (.cells cur t (0,0))∧n*k≤cur.size:=by
 rcases h.2 with ⟨rfl,rfl⟩ | ⟨g,cap,cur,rfl,_,hg,h0,h1,h2,_⟩
 ·exact .inl ⟨rfl,rfl,rfl⟩
 ·exact .inr ⟨g,cap,cur,rfl,rfl,h0,h1,hg,by rw [h2]; exact Nat.mul_le_mul_right _ h0⟩

theorem D.vals {w:World} {S:Nat→Nat→Prop} {k:Nat} {ys:List AV} {ao:Option Addr} {m c:Nat} (h:D w S (.list k ys) (.slice ao m c)) :
  m=ys.length∧(∀ y∈ys,y.cells.length=k)∧(ao=none→m=0)∧∃ vals:List Value,vals.length=(flat ys).length∧(∀ (ad:Addr) (j:Nat) u,ao=some ad→vals[j]? = some u→w.cell? (ad.add j)=some u)∧∀ (j:Nat) u,(flat ys)[j]? = some u→∃ x,vals[j]? = some x∧D w S u x:=by
 cases h with
 | nil=>exact⟨rfl,by simp,fun _=>rfl,[],rfl,fun ad j u _ h=>by simp at h,fun j u h=>by simp [flat] at h⟩
 | @list _ b off cap _ vals h0 hm hk hS h=>
  refine⟨rfl,hk,(fun e=>by cases e),(List.range (flat ys).length).map vals,by simp,fun ad j u e hu=>?_,fun j u hu=>?_⟩
  ·cases e
   have hj:j < (flat ys).length:=by
    rcases Kq j (flat ys).length with h | h
    ·exact h
    ·simp [List.getElem?_eq_none (show ((List.range (flat ys).length).map vals).length≤j by simpa using h)] at hu
   simp [hj] at hu
   rw [Addr.add_lit,← hu]
   exact(hS j hj).2
  ·have hj:j < (flat ys).length:=by
    rcases Kq j (flat ys).length with h | h
    ·exact h
    ·simp [List.getElem?_eq_none h] at hu
   exact⟨vals j,by simp [hj],h j u hu⟩

theorem J4c {s x:Operand} {T E k by_ i ver ver1 n:Nat} {kx:Nat} {xs ys:List AV} (ho:o.op=.call { callee:=.builtin .append,args:=#[s,x],argTypes:=#[T,T] }) (hs:ev l s=.own i ver k xs) (hi:lk L i=some (.spare E k ver n)) (hx:Q0 (ev l x)=some (kx,ys))
  (hT:sliceB P T E k=true) (hE:Rw P E k by_=true) (hb:(xs.length+ys.length)*by_≤140737488355328) (c7:xs.length+ys.length≤maxLen) (b8:∀ y∈ys,y.flatOk=true) (hk:kx=k∨ys=[]) (e9:ver < ver1) :
  Gz P o l L (Is (.own i ver1 k (xs++ys)) ((i,.spare E k ver1 (xs.length+ys.length))::L)):=by
 intro a w β K Q h6 hf hK
 have hv:=hf.ev s
 rw [hs] at hv
 generalize d2:a.eval s=vs at hv
 have b1:=(hf.ev x).Q0 hx
 obtain⟨ao,cap,b9,_⟩:=b1.len
 rw [b9] at b1
 obtain⟨_,d3,d4,news,c0,b2,c1⟩:=b1.vals
 obtain⟨inf,z,e1,e2,e3,e4,e5,e6⟩:=Rw.out hE
 cases hv with
 | data h=>cases h
 | own hd hp=>
  obtain⟨t,ver',hw,h1,h2,h3⟩:=hp
  rw [hi] at h1
  cases h1
  obtain⟨rfl,a4,vals,a5,d5⟩:=h3 rfl
  have c2:∀ y∈xs,y.cells.length=k:=by
   cases hd with
   | nil=>simp
   | list _ _ _ hk=>exact hk
  have b3:∀ y∈ys,y.cells.length=k:=by
   rcases hk with rfl | rfl
   ·exact d3
   ·simp
  have c8:∀ u∈news,u.oneCell'=true:=by
   intro u hu
   obtain⟨j,hj,e⟩:=List.mem_iff_getElem.1 hu
   have c3:j < (flat ys).length:=by omega
   obtain⟨x',h9,a1⟩:=c1 j (flat ys)[j] (by simp [c3])
   have:u=x':=by
    have:news[j]? = some u:=by rw [← e]; simp [hj]
    rw [this] at h9; exact Ky h9
   subst this
   have d6:((flat ys)[j]).isCell=true:=H4a b8 (List.getElem_mem c3)
   exact(V.data (L:=L) (β:=β) a1).cell d6
  have c4:(flat ys).length=ys.length*k:=J0 b3
  obtain⟨v',w',hr,h7,d7,d8,c9,a9,a2,h8⟩:=H13 (P:=P) w T o.type E inf z k (sliceB.out hT).1 e1 e4 e2 e5 e6 vs xs.length vals a5 ao ys.length cap news (by rw [c0,c4]) (fun ad j u h h'=>b2 ad j u h h') d4 c8 c7 (by rw [e3]; exact hb)
  have d0:(execOp a.eval o).run P w=.ok (.value v') w':=by
   simp [execOp,ho,resolve,invoke,builtin,d2,b9,hr]
  unfold Oper.wp
  rw [d0]
  have c5:vals.length=xs.length*k:=a5.1
  have a6:∀ id b,(lk L id).isSome=true→β id=some b→i≠id→w'.heap[b]? = w.heap[b]? := by
   intro id b h1 h2 d9
   refine a2 b (h6.bnd id b h1 h2) (fun e=>d9 ?_)
   exact h6.inj i id b (by rw [hi]; rfl) h1 (a4 ▸ e) h2
  -- the step
  have st:Step w β L w' (upP β i v'.ownBlock) ((i,.spare E k ver1 (xs.length+ys.length))::L):=by
   refine⟨d7,d8,c9,a9,fun _ _ _=>Iff.rfl,fun b j a0=>?_,fun b hb a7=>⟨a2 b hb (fun e=>a7 i (by rw [hi]; rfl) (a4 ▸ e)),fun id hid e=>?_⟩,fun id t cs hid=>?_,fun id t cs hid=>?_,fun id t n cs hid=>?_,fun id t k' vr zs hid=>?_,fun id t k' vr hw hid=>?_⟩
   ·refine⟨⟨Km a0.lt a9,a0.seen,fun id ob hid hb=>?_⟩,?_⟩
    ·rw [Gd] at hid
     by_cases e:i=id
     ·subst e
      rw [if_pos rfl] at hid
      cases hid
      simp only [upP,if_true] at hb
      show j < (xs.length+ys.length)*k
      rcases h8 with hw1 | ⟨hw1,_⟩
      ·rw [hw1,a4] at hb
       have:j < xs.length*k:=a0.kept i _ hi hb
       rw [Nat.add_mul]; omega
      ·rw [hw1] at hb
       have:=a0.lt
       cases hb; omega
     ·rw [if_neg e] at hid; simp only [upP,if_neg (Ne.symm e)] at hb; exact a0.kept id ob hid hb
    ·by_cases e:vs.ownBlock=some b
     ·have hj:j < xs.length*k:=a0.kept i _ hi (a4 ▸ e)
      rcases h8 with hw1 | ⟨_,_,e0⟩
      ·obtain⟨_,b4⟩:=Hcd a5 e
       obtain⟨_,b5⟩:=Hcd h7 (hw1.trans e)
       exact Q08 (by rw [H63 h7 (hw1.trans e) (by rw [Nat.add_mul]; omega),H63 a5 e hj,M3 (by omega)]) b4 b5
      ·exact Jh (w:=w) (e0 b a0.lt)
     ·exact Jh (w:=w) (a2 b a0.lt e)
   ·rw [Gd] at hid
    by_cases e':i=id
    ·subst e'
     simp only [upP,if_true] at e
     rcases h8 with hw1 | ⟨hw1,_⟩
     ·exact a7 i (by rw [hi]; rfl) (a4 ▸ (hw1 ▸ e))
     ·rw [hw1] at e; cases e; omega
    ·rw [if_neg e'] at hid; simp only [upP,if_neg (Ne.symm e')] at e; exact a7 id hid e
   ·have e:i≠id:=fun e=>by subst e; rw [hi] at hid; cases hid
    exact⟨by simp [upP,Ne.symm e],cs,by rw [Gd,if_neg e]; exact hid⟩
   ·have e:i≠id:=fun e=>by subst e; rw [hi] at hid; cases hid
    exact⟨by simp [upP,Ne.symm e],cs,by rw [Gd,if_neg e]; exact hid⟩
   ·have e:i≠id:=fun e=>by subst e; rw [hi] at hid; cases hid
    exact⟨by simp [upP,Ne.symm e],n,cs,by rw [Gd,if_neg e]; exact hid⟩
   ·have e:i≠id:=fun e=>by subst e; rw [hi] at hid; cases hid
    exact⟨vr,zs,by rw [Gd,if_neg e]; exact hid,M1,fun _=>⟨rfl,by simp [upP,Ne.symm e],fun b hb=>G03 (a6 id b (by rw [hid]; rfl) hb e)⟩⟩
   ·rw [Gd]
    by_cases e:i=id
    ·subst e
     rw [hi] at hid; cases hid
     exact⟨ver1,_,if_pos rfl,by omega,fun e=>by omega⟩
    ·exact⟨vr,hw,by rw [if_neg e]; exact hid,M1,fun _=>⟨rfl,by simp [upP,Ne.symm e],fun b hb=>a6 id b (by rw [hid]; rfl) hb e⟩⟩
  have fresh:∀ b,v'.ownBlock=some b→(∃ j,β i=some b∧j=b)∨b=w.heap.size:=by
   intro b hb
   rcases h8 with hw1 | ⟨hw1,_⟩
   ·exact .inl ⟨b,by rw [← a4,← hw1,hb],rfl⟩
   ·rw [hw1] at hb; exact .inr (Ky hb).symm
  have vlt:∀ b,v'.ownBlock=some b→b < w'.heap.size:=by
   intro b hb
   rcases ownsRow_form h7 with ⟨_,_,h0⟩ | ⟨b',cap',cur,_,a3,_,_,hg,_⟩
   ·rw [h0] at hb; cases hb
   ·rw [a3] at hb; cases hb
    exact(Kk hg).1
  refine hK _ _ v' w' (upP β i v'.ownBlock) ⟨rfl,rfl⟩ ⟨fun b j h=>Km (h6.hid b j h) a9,fun id b hid hb=>?_,fun id b j hid hb hh=>?_,fun id id' b h1 h2 h3 h4=>?_,fun id ob hid=>?_⟩ st ?_
  ·rw [Gd] at hid
   by_cases e:i=id
   ·subst e; simp only [upP,if_true] at hb; exact vlt b hb
   ·rw [if_neg e] at hid; simp only [upP,if_neg (Ne.symm e)] at hb; exact Km (h6.bnd id b hid hb) a9
  ·rw [Gd] at hid
   by_cases e:i=id
   ·subst e
    simp only [upP,if_true] at hb
    rcases fresh b hb with ⟨_,h1,_⟩ | rfl
    ·exact h6.apart i b j (by rw [hi]; rfl) h1 hh
    ·have:=h6.hid _ _ hh; omega
   ·rw [if_neg e] at hid; simp only [upP,if_neg (Ne.symm e)] at hb; exact h6.apart id b j hid hb hh
  ·have key:∀ id,i≠id→(lk ((i,Je.spare E k ver1 (xs.length+ys.length))::L) id).isSome=true→(upP β i v'.ownBlock) id=some b→v'.ownBlock=some b→False:=by
    intro id e h1 h3 hb
    rw [Gd,if_neg e] at h1
    simp only [upP,if_neg (Ne.symm e)] at h3
    rcases fresh b hb with ⟨_,h5,_⟩ | rfl
    ·exact e (h6.inj i id b (by rw [hi]; rfl) h1 h5 h3)
    ·have:=h6.bnd id _ h1 h3; omega
   by_cases e:i=id
   ·by_cases e':i=id'
    ·rw [← e,e']
    ·subst e; simp only [upP,if_true] at h3; exact(key id' e' h2 h4 h3).elim
   ·by_cases e':i=id'
    ·subst e'; simp only [upP,if_true] at h4; exact(key id e h1 h3 h4).elim
    ·rw [Gd,if_neg e] at h1
     rw [Gd,if_neg e'] at h2
     simp only [upP,if_neg (Ne.symm e)] at h3
     simp only [upP,if_neg (Ne.symm e')] at h4
     exact h6.inj id id' b h1 h2 h3 h4
  ·rw [Gd] at hid
   by_cases e:i=id
   ·subst e
    rw [if_pos rfl] at hid; cases hid
    simp only [upP,if_true]
    rcases ownsRow_form h7 with ⟨_,h0,e7⟩ | ⟨b',cap',cur,_,a3,_,_,hg,b6⟩
    ·exact .inl ⟨e7,h0⟩
    ·exact .inr ⟨b',a3,cur,hg,b6⟩
   ·rw [if_neg e] at hid
    simp only [upP,if_neg (Ne.symm e)]
    exact(h6.obj id ob hid).step st (fun b hb=>a6 id b (by rw [hid]; rfl) hb e)
  ·have b0:∀ (j:Nat) u,(flat (xs++ys))[j]? = some u→∃ x,(vals++news)[j]? = some x∧D w' (Hv w' (upP β i v'.ownBlock) ((i,.spare E k ver1 (xs.length+ys.length))::L)) u x:=by
    intro j u hu
    rw [G16] at hu
    have e8:(flat xs).length=xs.length*k:=J0 c2
    rcases Kq j (flat xs).length with hj | hj
    ·rw [M3 hj] at hu
     obtain⟨x',h9,a1⟩:=d5 j u hu
     exact⟨x',by rw [M3 (by omega)]; exact h9,a1.mono st.stab⟩
    ·rw [M2 hj] at hu
     obtain⟨x',h9,a1⟩:=c1 _ u hu
     refine⟨x',?_,a1.mono st.stab⟩
     rw [M2 (by omega),c5,← e8]; exact h9
   refine .own ?_ ⟨E,ver1,xs.length+ys.length,by rw [Gd,if_pos rfl],M1,fun _=>⟨by simp,by simp [upP],vals++news,by simpa using h7,b0⟩⟩
   have b7:∀ y∈xs++ys,y.cells.length=k:=fun y hy=>(Md.1 hy).elim (c2 y) (b3 y)
   have d1:(flat (xs++ys)).length=(xs.length+ys.length)*k:=by rw [J0 b7]; simp
   rcases ownsRow_form h7 with ⟨rfl,h0,_⟩ | ⟨b',cap',cur,rfl,a3,b4,b5,hg,b6⟩
   ·have:xs++ys=[]:=Kn (by rw [M8]; exact h0)
    rw [this]; exact .nil (Nat.zero_le _)
   ·have hD:D w' (Hv w' (upP β i (Value.slice (some ⟨b',0,none⟩) (xs.length+ys.length) cap').ownBlock) ((i,.spare E k ver1 (xs.length+ys.length))::L)) (.list k (xs++ys)) (.slice (some ⟨b',0,none⟩) (xs++ys).length cap'):=?_
    ·rw [M8] at hD; exact hD
    refine .list (fun j=>(vals++news).getD j undef) (by rw [M8]; exact b4) b5 b7 (fun j hj=>?_) (fun j u hu=>?_)
    ·rw [d1] at hj
     have c6:j < (vals++news).length:=by rw [M8,c5,c0,c4,← Nat.add_mul]; exact hj
     refine⟨⟨by have:=vlt b' a3; exact this,?_,fun id ob hid a8=>?_⟩,?_⟩
     ·show ¬ β.hid b' _
      intro hh
      rcases fresh b' a3 with ⟨_,h5,_⟩ | rfl
      ·exact h6.apart i b' _ (by rw [hi]; rfl) h5 hh
      ·have:=h6.hid _ _ hh; omega
     ·rw [Gd] at hid
      by_cases e:i=id
      ·subst e; rw [if_pos rfl] at hid; cases hid
       show 0+j < (xs.length+ys.length)*k
       omega
      ·rw [if_neg e] at hid
       simp only [upP,if_neg (Ne.symm e)] at a8
       exfalso
       rcases fresh b' a3 with ⟨_,h5,_⟩ | rfl
       ·exact e (h6.inj i id b' (by rw [hi]; rfl) (by rw [hid]; rfl) h5 a8)
       ·have:=h6.bnd id _ (by rw [hid]; rfl) a8; omega
     ·rw [Nat.zero_add,H63 h7 rfl hj]
      rw [Kx c6]
      simp only [List.getD,Kx c6,Option.getD_some]
    ·obtain⟨x',h9,a1⟩:=b0 j u hu
     simp only [List.getD,h9,Option.getD_some]
     exact a1
theorem Qe0 {s x:Operand} {T E k by_ i ver n:Nat} {kx:Nat} {xs ys:List AV} (ho:o.op=.call { callee:=.builtin .append,args:=#[s,x],argTypes:=#[T,T] }) (hs:ev l s=.own i ver k xs) (hi:lk L i=some (.spare E k ver n)) (hx:Q0 (ev l x)=some (kx,ys))
  (hT:sliceB P T E k=true) (hE:Rw P E k by_=true) (hb:(xs.length+ys.length)*by_≤140737488355328) (h1:xs.length+ys.length≤maxLen) (h0:∀ y∈ys,y.flatOk=true) (hk:kx=k∨ys=[]) :
  Gz P o l L (Is (.own i (ver+1) k (xs++ys)) ((i,.spare E k (ver+1) (xs.length+ys.length))::L)):=J4c ho hs hi hx hT hE hb h1 h0 hk (Nat.lt_succ_self ver)
end mem

theorem H18 {k:Nat}:∀ (us:List AV) (j:Nat) (cells:List AV),cells.length=(j+us.length)*k→(∀ u∈us,u.cells.length=k∧u.flatOk=true) →
  H3c (fun i=>some (i*k,k)) cells ((List.range' j us.length).zip us)=some (cells.take (j*k)++flat us)
 | [],j,cells,h,_=>by
  simp only [List.length_nil,Nat.add_zero] at h
  simp [H3c,flat,← h]
 | u::r,j,cells,h,hu=>by
  obtain⟨h1,h2⟩:=hu u (by simp)
  have h0:j*k+k≤cells.length:=by
   rw [h]; simp only [M4]
   have:(j+1)*k≤(j+(r.length+1))*k:=Nat.mul_le_mul_right k (by omega)
   rw [Nat.add_mul] at this; omega
  have e1:Nat.beq u.cells.length k=true:=by rw [h1]; exact Nat.beq_refl k
  have e2:Nat.ble (j*k+k) cells.length=true:=by simpa using h0
  simp only [M4,List.range'_succ,List.zip_cons_cons,H3c,e1,e2,h2,Bool.and_true,cond_true]
  have ih:=H18 (k:=k) r (j+1) (cells.take (j*k)++u.cells++cells.drop (j*k+k)) (by
   simp only [M8,List.length_take,List.length_drop,h1]
   rw [h] at h0 ⊢; simp only [M4] at h0 ⊢
   rw [Nat.min_eq_left (by omega)]
   have:(j+1+r.length)*k=(j+(r.length+1))*k:=by congr 1; omega
   omega) (fun y hy=>hu y (by simp [hy]))
  rw [ih]
  congr 1
  have hl:(cells.take (j*k)++u.cells).length=(j+1)*k:=by simp [h1]; rw [Nat.add_mul]; omega
  rw [List.take_append_of_le_length (by rw [hl]; exact M1),List.take_of_length_le (by rw [hl]; exact M1)]
  simp [flat]

def Gaa (k:Nat):List AV→Bool
 | []=>true
 | u::r=>Nat.beq u.cells.length k&&u.flatOk&&Gaa k r
theorem G94 {k:Nat}:∀ {us:List AV},Gaa k us=true→∀ u∈us,u.cells.length=k∧u.flatOk=true
 | u::r,h,v,hv=>by
  simp only [Gaa,Ma] at h
  rcases Mg.1 hv with rfl | hv
  ·exact⟨Ko h.1.1,h.1.2⟩
  ·exact G94 h.2 v hv

theorem Jba {ok:Nat→Bool} {u:AV} (h:u.refs ok=true):∀ c∈u.cells,c.refs ok=true:=by
 intro c hc
 cases u with
 | agg cs=>exact Yt (by simpa [AV.refs] using h) c (by simpa [AV.cells] using hc)
 | _=>simp [AV.cells] at hc; subst hc; exact h

theorem Gfe {ok:Nat→Bool}:∀ {us:List AV},(∀ u∈us,u.refs ok=true)→∀ c∈flat us,c.refs ok=true
 | u::r,h,c,hc=>by
  simp only [flat,Md] at hc
  rcases hc with hc | hc
  ·exact Jba (h u (by simp)) c hc
  ·exact Gfe (fun y hy=>h y (by simp [hy])) c hc

section lits
variable {P:Program} {o:Oper} {l:Fr} {L:Loc}

theorem D.newRow {w:World} {β:Gu} {L:Loc} {k:Nat} {xs:List AV} {vs:Array Value} {E:TypeId} (h0:Sat w β L) (hk:∀ x∈xs,x.cells.length=k) (hm:xs.length≤maxLen) (hs:vs.size=(flat xs).length)
  (h:∀ (j:Nat) u v,(flat xs)[j]? = some u→vs[j]? = some v→D w (Hv w β L) u v) :
  D (w.alloc (.cells vs E)) (Hv (w.alloc (.cells vs E)) β L) (.list k xs) (.slice (some ⟨w.heap.size,0,none⟩) xs.length xs.length):=by
 refine .list (fun j=>vs.getD j undef) (M1) hm hk (fun j hj=>⟨Hv.new h0 _ _,?_⟩) (fun j u hu=>?_)
 ·rw [World.cell?_alloc_new]
  rw [Nat.zero_add,Array.getD_eq_getD_getElem?,Array.getElem?_eq_getElem (by omega)]
  rfl
 ·have hj:j < (flat xs).length:=by
   rcases Kq j (flat xs).length with h | h
   ·exact h
   ·simp [List.getElem?_eq_none h] at hu
  rw [Array.getD_eq_getD_getElem?,Array.getElem?_eq_getElem (by omega)]
  exact(h j u _ hu (by simp [Array.getElem?_eq_getElem (show j < vs.size by omega)])).mono (Step.new h0 _).stab

theorem H7 {T E k n:Nat} {parts:List (Nat×Operand)} {xs:List AV} (ho:o.op=.buildSlice T n parts.toArray) (hd:G2a l (parts.map (·.2)) xs) (hT:sliceB P T E k=true) (hz:Qo P E k=true)
  (h5:parts.map (·.1)=List.range n) (hc:Gaa k xs=true) (hn:Nat.ble (n*k) 16777216=true) (a4:Nat.blt 0 k=true):Gz P o l L (Is (.list k xs) L):=by
 intro a w β K Q h3 hf hK
 have a3:=hd.length
 have a5:n=xs.length:=by
  have:=congrArg List.length h5
  simp only [Mc,List.length_range] at this a3
  omega
 subst a5
 have a0:=G94 hc
 have a6:∀ x∈xs,x.cells.length=k:=fun x hx=>(a0 x hx).1
 have h7:∀ x∈xs,x.isData=true:=by
  intro x hx
  obtain⟨j,hj,e⟩:=List.mem_iff_getElem.1 hx
  have a7:j < (parts.map (·.2)).length:=by omega
  exact e ▸ (hd.get (j:=j) (x:=(parts.map (·.2))[j]) (u:=xs[j]) (Kx a7) (Kx hj)).2
 have h8:=H18 (k:=k) xs 0 (List.replicate (xs.length*k) .junk) (by simp) a0
 obtain⟨inf,z,hi,a8,b2⟩:=Qo.out hz
 let zs:Array Value:=if xs.length*k=0 then #[] else z.cells
 obtain⟨vs',e1,e2,e3⟩:=Gcf (w:=w) (β:=β) (L:=L) (qs:=parts.map fun p=>(p.1,a.eval p.2)) (vs:=(Array.range (xs.length*k)).map (zs[· % zs.size]!)) h8 (by
   have:=congrArg List.length h5
   simp only [Mc,List.length_range] at this
   simp [this]) (fun j p q hp hq=>by
   simp only [M5,Option.map_eq_some_iff] at hq
   obtain⟨y,hy,rfl⟩:=hq
   rw [List.getElem?_zip_eq_some] at hp
   obtain⟨a9,b0⟩:=hp
   have h4:(parts.map (·.1))[j]? = (List.range xs.length)[j]? := by rw [h5]
   simp only [M5,hy,Option.map_some] at h4
   rw [List.range_eq_range',a9] at h4
   have:=(hd.get (j:=j) (x:=y.2) (u:=p.2) (by rw [M5,hy]; rfl) b0)
   have hv:=(hf.ev y.2).plain
   rw [this.1] at hv
   exact⟨(Ky h4).symm,hv⟩) (by simp) (fun j u v hu _=>by
   have:=List.eq_of_mem_replicate (Kz hu)
   subst this; exact .junk)
 have h9:(List.take (0*k) (List.replicate (xs.length*k) AV.junk))++flat xs=flat xs:=by simp
 rw [h9] at e2 e3
 have hr:(execOp a.eval o).run P w=.ok (.value (.slice (some ⟨w.heap.size,0,none⟩) xs.length xs.length)) (w.alloc (.cells vs' E)):=by
  have a1:=Jv (sliceB.out hT).2 w
  have b1:xs.length*k≤16777216:=by simpa using hn
  have a2:¬ (xs.length*k > 2 ^ 24):=by
   have:(2:Nat) ^ 24=16777216:=by decide
   omega
  have hp:(parts.toArray.map fun(x:Nat×Operand)=>(x.1,a.eval x.2)).toList=parts.map fun p=>(p.1,a.eval p.2):=by simp
  by_cases h0:xs.length*k=0
  ·have h6:zs=#[]:=by simp only [zs,if_pos h0]
   rw [h6] at e1
   simp only [execOp,ho,Instr.buildSlice,underlying,(sliceB.out hT).1,run_program,Sem.run_bind,Result.andThen_ok,a1,a2,if_false,Sem.run_pure,if_pos h0,hp,e1,newRow,run_newObj]
   rfl
  ·have h6:zs=z.cells:=by simp only [zs,if_neg h0]
   rw [h6] at e1
   simp only [execOp,ho,Instr.buildSlice,underlying,(sliceB.out hT).1,run_program,Sem.run_bind,Result.andThen_ok,a1,a2,if_false,Sem.run_pure,if_neg h0,zeroValue,typeInfo,hi,a8,hp,e1,newRow,run_newObj]
   rfl
 unfold Oper.wp
 rw [hr]
 exact hK _ _ _ _ β ⟨rfl,rfl⟩ (h3.new _) (Step.new h3 _) (.data (D.newRow h3 a6 (by
  have h1:xs.length*k≤16777216:=by simpa using hn
  have h2:0 < k:=by simpa [Nat.blt_eq] using a4
  have:xs.length*1≤xs.length*k:=Nat.mul_le_mul_left _ h2
  simp only [maxLen]; omega) e2 (fun j u v hu hv=>(e3 j u v hu hv).toD (Gfe h7 u (Kz hu)))))
end lits
end Go.Proofs.YtibhpogonkdiaaaGreat
