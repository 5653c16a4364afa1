/-
 An object that bears maps: lent to calls that only read it,its parts among what a closure captures; rows of closures; ranges over maps with gaps.
-/
import Derived.Test.YtidpfkmbfgihlaaGreatLnv
import Derived.Test.YtidpfkmbfgihlaaGreatLnv
namespace Go.Proofs.YtidpfkmbfgihlaaGreat
open Go.RowKit

section calls
variable {P:Program} {o:Oper} {l:Fr} {L:Loc} {u:AV}
inductive G70 (L:Loc):AV→AV→Prop
 | data {u u':AV} (h:u.plain=u') (hd:u'.isData=true):G70 L u u'
 | vec {i ver k n t:Nat} {xs:List AV} (hi:lk L i=some (.vec t k ver xs)):G70 L (.vec i ver k n) (.list k xs)
 | agg {cs ds:List AV} (hl:ds.length=cs.length) (h:∀ (j:Nat) u u',cs[j]? = some u→ds[j]? = some u'→G70 L u u'):G70 L (.agg cs) (.agg ds)
 | ptr {i off t:Nat} {cs ds:List AV} (hi:lk L i=some (.box t cs)) (hl:ds.length=(cs.drop off).length) (h:∀ (j:Nat) u u',(cs.drop off)[j]? = some u→ds[j]? = some u'→G70 L u u'):G70 L (.ptr i off) (.dptr ds)
 | mp {κ ν:Type} [DecidableEq κ] {kv:κ→Value} {av:ν→AV} {i T:Nat} {m:Gt κ ν} (hi:lk L i=some (TP T kv av m)):G70 L (.mp i) (DM kv av m)
 | fn {f:FuncId} {cs ds:List AV} (hl:ds.length=cs.length) (h:∀ (j:Nat) u u',cs[j]? = some u→ds[j]? = some u'→G70 L u u'):G70 L (.fn f cs) (.fn f ds)
 | ms {i n cap t k:Nat} {cs xs:List AV} (hi:lk L i=some (.box t cs)) (hn:n=xs.length) (hk:∀ x∈xs,x.cells.length=k) (hl:(flat xs).length=cs.length) (h:∀ (j:Nat) u u',cs[j]? = some u→(flat xs)[j]? = some u'→G70 L u u'):G70 L (.ms i 0 n cap) (.list k xs)
def H83 (L:Loc):List AV→List AV→Prop
 | [],[]=>True
 | u::r,u'::s=>G70 L u u'∧H83 L r s
 | _,_=>False
theorem H83.len {L:Loc}:∀ {cs ds:List AV},H83 L cs ds→ds.length=cs.length
 | [],[],_=>rfl
 | _::_,_::_,h=>by simp [H83.len h.2]
theorem H83.get {L:Loc}:∀ {cs ds:List AV},H83 L cs ds→∀ (j:Nat) u u',cs[j]? = some u→ds[j]? = some u'→G70 L u u'
 | _::_,_::_,h,0,_,_,h1,h2=>by simp at h1 h2; subst h1 h2; exact h.1
 | _::_,_::_,h,j+1,u,u',h1,h2=>H83.get h.2 j u u' (by simpa using h1) (by simpa using h2)
 | [],[],_,j,_,_,h1,_=>by simp at h1
theorem G70.ptrL {i off t:Nat} {cs ds:List AV} (hi:lk L i=some (.box t cs)) (h:H83 L (cs.drop off) ds):G70 L (.ptr i off) (.dptr ds):=.ptr hi h.len h.get
theorem G70.fnL {f:FuncId} {cs ds:List AV} (h:H83 L cs ds):G70 L (.fn f cs) (.fn f ds):=.fn h.len h.get
theorem G70.msL {i n cap t k:Nat} {cs xs:List AV} (hi:lk L i=some (.box t cs)) (hn:n=xs.length) (hk:Gf1 k xs=true) (h:H83 L cs (flat xs)):G70 L (.ms i 0 n cap) (.list k xs):=
 .ms hi hn (fun x hx=>(G8f hk x hx).1) h.len h.get

theorem V.ms_inv {w:World} {β:H4} {i off n cap:Nat} {v:Value} (h:V w β L (.ms i off n cap) v):∃ b,β i=some b∧v=.slice (some ⟨b,off,none⟩) n cap∧n≤cap∧cap≤maxLen:=by
 cases h with
 | data h=>cases h
 | ms hi h hn hm=>exact⟨_,h,rfl,hn,hm⟩
theorem G70.D {w:World} {β:H4} {u u':AV} (hsat:Sat w β L) (h:G70 L u u'):∀ {v:Value},V w β L u v→D w (fun b _=>b < w.heap.size) u' v:=by
 induction h with
 | data h hd=>exact fun hv=>G80.D hsat (.data h hd) hv
 | vec hi=>exact fun hv=>G80.D hsat (.vec hi) hv
 | agg hl _ ih=>
  intro v hv
  obtain⟨vs,rfl,hl2,hvs⟩:=hv.inv_agg
  refine .agg (hl2.trans hl.symm) fun j u' x hu' hx=>?_
  have hj:j < _:=(List.getElem?_eq_some_iff.1 hu').1
  exact ih j _ u' (List.getElem?_eq_getElem (hl ▸ hj)) hu' (hvs j _ x (List.getElem?_eq_getElem (hl ▸ hj)) hx)
 | fn hl _ ih=>
  intro v hv
  obtain⟨vs,rfl,hl2,hvs⟩:=hv.inv_fn
  refine .fn (hl2.trans hl.symm) fun j u' x hu' hx=>?_
  have hj:j < _:=(List.getElem?_eq_some_iff.1 hu').1
  exact ih j _ u' (List.getElem?_eq_getElem (hl ▸ hj)) hu' (hvs j _ x (List.getElem?_eq_getElem (hl ▸ hj)) hx)
 | @ptr i off t cs ds hi hl _ ih=>
  intro v hv
  obtain⟨b,hb,rfl⟩:=hv.inv_ptr
  obtain⟨b',hb',vs,o1,o2,o3⟩:=hsat.obj i _ hi
  rw [hb] at hb'; cases hb'
  have hlt:b < w.heap.size:=(Array.getElem?_eq_some_iff.1 o1).1
  have hjl:∀ j,j < ds.length→off+j < cs.length:=fun j hj=>by rw [hl,List.length_drop] at hj; omega
  refine .dptr (fun j=>vs.getD (off+j) undef) (fun j hj=>⟨hlt,?_⟩) (fun j u hu=>?_)
  ·have:=hjl j hj
   have h2:off+j < vs.size:=by omega
   simp [World.cell?,o1,h2]
  ·have hj:=(List.getElem?_eq_some_iff.1 hu).1
   have:=hjl j hj
   have h2:off+j < vs.size:=by omega
   have hc:(cs.drop off)[j]? = some cs[off+j]:=by rw [List.getElem?_drop]; simp [this]
   refine ih j _ u hc hu ?_
   rw [Array.getD_eq_getD_getElem?,Array.getElem?_eq_getElem h2]
   exact o3 (off+j) _ _ (by simp [this]) (by simp [h2])
 | @ms i n cap t k cs xs hi hn hk hl _ ih=>
  intro v hv
  obtain⟨b,hb,rfl,g1,g2⟩:=hv.ms_inv
  obtain⟨b',hb',vs,o1,o2,o3⟩:=hsat.obj i _ hi
  rw [hb] at hb'; cases hb'
  have hlt:b < w.heap.size:=(Array.getElem?_eq_some_iff.1 o1).1
  subst hn
  refine .list (fun j=>vs.getD (0+j) undef) g1 g2 hk (fun j hj=>⟨hlt,?_⟩) (fun j u hu=>?_)
  ·have h2:j < vs.size:=by omega
   simp [World.cell?,o1,h2]
  ·have hj:=(List.getElem?_eq_some_iff.1 hu).1
   have h2:j < vs.size:=by omega
   have hc:cs[j]? = some cs[j]:=by simp
   refine ih j _ u hc hu ?_
   rw [Nat.zero_add,Array.getD_eq_getD_getElem?,Array.getElem?_eq_getElem h2]
   exact o3 j _ _ hc (by simp [h2])
 | @mp κ ν dq kv av i T m hi=>
  intro v hv
  obtain⟨b,vals,He,rfl,g1,g2,h1,g3⟩:=hv.tsrc hsat (.own hi)
  have hlt:b < w.heap.size:=(Array.getElem?_eq_some_iff.1 h1).1
  exact .dmap vals g1 (by rw [H19,← g2]; exact h1) (fun _=>hlt) (fun i k u v h2 h3 h4=>(g3 i k u v h2 h3 h4).mono fun b i hs=>⟨hs.lt,rfl⟩)

def Gc9 (l:Fr) (L:Loc):List Operand→List AV→Prop
 | [],[]=>True
 | x::r,u::s=>G70 L (ev l x) u∧Gc9 l L r s
 | _,_=>False
theorem Gc9.length {l:Fr} {L:Loc}:∀ {xs:List Operand} {us:List AV},Gc9 l L xs us→xs.length=us.length
 | [],[],_=>rfl
 | _::r,_::s,h=>by simp [Gc9.length h.2]
theorem Gc9.get {l:Fr} {L:Loc}:∀ {xs:List Operand} {us:List AV},Gc9 l L xs us→∀ {j:Nat} {x:Operand} {u:AV},xs[j]? = some x→us[j]? = some u→G70 L (ev l x) u
 | [],[],_,j,x,u,h,_=>by simp at h
 | x::r,u::s,h,0,_,_,hx,hu=>by simp at hx hu; subst hx hu; exact h.1
 | x::r,u::s,h,j+1,_,_,hx,hu=>by simp at hx hu; exact Gc9.get h.2 hx hu
theorem Z8 {f:FuncId} {xs:List Operand} {args:List AV} {ts:Array TypeId} (ho:o.op=.call { callee:=.value (.func f),args:=xs.toArray,argTypes:=ts }) (hc:Pure P f args (·=u)) (hB:H7 P f=true) (ha:Gc9 l L xs args) (hu:u.noRef=true):H0 P o l L (Is u L):=by
 intro a w β K Q hsat hf hK
 have hr:(execOp a.eval o).run P w=.ok (.enter f (xs.toArray.map a.eval)) w:=by
  simp [execOp,ho,resolve,Act.eval,Deferred.ofValue,invoke,H7.out hB]
 unfold Oper.wp
 rw [hr]
 show Calls P f _ w _
 refine(Jd7 hc hsat (vs:=xs.toArray.map a.eval) (by simp [ha.length]) (fun j u v hu hv=>?_) (fun r hr=>by rw [hr]; exact hu)).mono fun e w' h=>?_
 ·simp only [Array.getElem?_map,List.getElem?_toArray,Option.map_eq_some_iff] at hv
  obtain⟨x,hx,rfl⟩:=hv
  exact(ha.get hx hu).D hsat (hf.ev x)
 ·obtain⟨v,r,rfl,h1,h2,h3,rfl⟩:=h
  exact hK _ L v w' β ⟨rfl,rfl⟩ h1 h2 h3
theorem Y7 {α:Type} {f:FuncId} {xs:List Operand} {args:List AV} {ts:Array TypeId} {i E k n:Nat} {g:α→AV} {r:List α} (ho:o.op=.call { callee:=.value (.func f),args:=xs.toArray,argTypes:=ts })
  (hc:Jg P f args [] (fun av L'=>∃ p:Nat,av=.vec i p k n∧L'=[(i,.vec E k p (r.map g))])) (hB:H7 P f=true) (ha:Gc9 l L xs args) (hg:∀ x,AV.noRef.noRefL (g x).cells=true):H0 P o l L (Is (LS k g r) L):=by
 intro a w β K Q hsat hf hK
 have hr:(execOp a.eval o).run P w=.ok (.enter f (xs.toArray.map a.eval)) w:=by
  simp [execOp,ho,resolve,Act.eval,Deferred.ofValue,invoke,H7.out hB]
 unfold Oper.wp
 rw [hr]
 show Calls P f _ w _
 have hmono:∀ b i:Nat,b < w.heap.size→Jt w ⟨fun _=>none,fun _ _=>False⟩ [] b i:=fun b i hs=>⟨hs,fun h=>h,fun id o h=>by simp [lk] at h⟩
 refine(hc w ⟨fun _=>none,fun _ _=>False⟩ (xs.toArray.map a.eval) ⟨fun b i h=>h.elim,fun id b h=>by simp [lk] at h,fun id b j h=>by simp [lk] at h,fun id id' b h=>by simp [lk] at h,fun id o h=>by simp [lk] at h⟩ (by simp [ha.length])
  (fun j u v hu hv'=>?_)).mono fun e w' h=>?_
 ·simp only [Array.getElem?_map,List.getElem?_toArray,Option.map_eq_some_iff] at hv'
  obtain⟨x,hx,rfl⟩:=hv'
  exact .data (((ha.get hx hu).D hsat (hf.ev x)).mono fun b i hs=>⟨hmono b i hs,rfl⟩)
 obtain⟨v,r',β',L',rfl,hsat',hst,hvr,p,rfl,rfl⟩:=h
 have far:∀ b,b < w.heap.size→w'.heap[b]? = w.heap[b]? := fun b hb=>(hst.far b hb (fun id h=>by simp [lk] at h)).1
 have stab:∀ b i,Jt w β L b i→Jt w' β L b i:=fun b i hs=>⟨Nat.lt_of_lt_of_le hs.lt hst.size,hs.seen,hs.kept⟩
 have step:Step w β L w' β L:=⟨hst.os,hst.tape,hst.output,hst.size,fun _ _ _=>Iff.rfl,fun b i hs=>⟨stab b i hs,Q2 (w:=w) (far b hs.lt)⟩,fun b hb hf=>⟨far b hb,hf⟩,
  fun _ _ cs h=>⟨rfl,cs,h⟩,fun _ _ cs h=>⟨rfl,cs,h⟩,fun _ _ n cs h=>⟨rfl,n,cs,h⟩,fun id _ _ ver xs h=>⟨ver,xs,h,Nat.le_refl _,fun _=>⟨rfl,rfl,fun b hb=>G12 (far b (hsat.bnd id b (by rw [h]; rfl) hb))⟩⟩,fun id _ _ ver hw h=>⟨ver,hw,h,Nat.le_refl _,fun _=>⟨rfl,rfl,fun b hb=>far b (hsat.bnd id b (by rw [h]; rfl) hb)⟩⟩⟩
 have hi:lk [(i,Jh.vec E k p (r.map g))] i=some (.vec E k p (r.map g)):=by rw [Gh,if_pos rfl]
 have key:∀ r:List α,∀ u∈flat (r.map g),u.noRef=true:=by
  intro r
  induction r with
  | nil=>intro u hu; simp [flat] at hu
  | cons x r ih=>
   intro u hu
   rw [List.map_cons,flat,List.mem_append] at hu
   rcases hu with hu | hu
   ·exact Gd0 (hg x) u hu
   ·exact ih u hu
 refine hK _ L v w' β ⟨rfl,rfl⟩ ⟨fun b i h=>Nat.lt_of_lt_of_le (hsat.hid b i h) hst.size,fun id b h1 h2=>Nat.lt_of_lt_of_le (hsat.bnd id b h1 h2) hst.size,hsat.apart,hsat.inj,fun id o h=>(hsat.obj id o h).step step (fun b hb=>far b (hsat.bnd id b (by rw [h]; rfl) hb))⟩ step ?_
 obtain⟨_,hk,h⟩:=G5b hsat' hi hvr
 rcases h with ⟨rfl,e,_⟩ | ⟨b,cap,cs,rfl,hb,h1,h2,h3,h4,h5⟩
 ·have:r=[]:=by simpa using e
  subst this
  exact .data (.nil (Nat.zero_le _))
 ·have hnew:w.heap.size≤b:=Nat.le_of_not_lt fun hlt=>(hst.far b hlt (fun id h=>by simp [lk] at h)).2 i (by rw [hi]; rfl) hb
  have hlt:∀ j,j < (flat (r.map g)).length→j < cs.size:=fun j hj=>by
   rw [J1 hk] at hj
   have:=Nat.mul_le_mul_right k h1
   omega
  refine .data (.list (fun j=>cs.getD j undef) h1 h2 hk (fun j hj=>⟨⟨(Array.getElem?_eq_some_iff.1 h3).1,fun hh=>?_,fun id o ho hb'=>?_⟩,?_⟩) (fun j u hu=>?_))
  ·have:=hsat.hid _ _ hh; omega
  ·have:=hsat.bnd id b (by rw [ho]; rfl) hb'; omega
  ·have:=hlt j hj
   simp [World.cell?,h3,this]
  ·have hj:=(List.getElem?_eq_some_iff.1 hu).1
   have:=hlt j hj
   exact(h5 j u _ hu (by simp [this])).noRef (key r u (List.mem_of_getElem? hu))
end calls

/-! ### Is it nil -/
def Y4d (P:Program) (T:Nat):Bool:=match P.underlying T with | some (.pointer _)=>true | _=>false
def Y1f (P:Program) (T:Nat):Bool:=match P.underlying T with | some (.map _ _)=>true | _=>false
def AV.isPtr:AV→Bool
 | .ptr .. | .dptr ..=>true
 | _=>false
def AV.isMap:AV→Bool
 | .mp .. | .dmap ..=>true
 | _=>false
theorem V.isPtr {w:World} {β:H4} {L:Loc} {u:AV} {v:Value} (h:V w β L u v) (hu:u.isPtr=true):∃ a,v=.pointer (some a):=by
 cases h with
 | data h=>cases h <;> first | exact⟨_,rfl⟩ | cases hu
 | ptr=>exact⟨_,rfl⟩
 | _=>cases hu
theorem V.isMap {w:World} {β:H4} {L:Loc} {u:AV} {v:Value} (h:V w β L u v) (hu:u.isMap=true):∃ b,v=.map (some b):=by
 cases h with
 | data h=>cases h <;> first | exact⟨_,rfl⟩ | cases hu
 | mp=>exact⟨_,rfl⟩
 | _=>cases hu
theorem J71 {P:Program} {T:Nat} (hT:Y4d P T=true) (a:Option Addr) (w:World):(Op.equal T (.pointer a) (.pointer none)).run P w=.ok a.isNone w:=by
 unfold Y4d at hT
 split at hT
 ·rename_i e h
  unfold Op.equal
  generalize hd:Op.maxDepth=d
  obtain⟨d,rfl⟩:∃ m,d=m+1:=⟨Op.maxDepth - 1,by rw [← hd]; rfl⟩
  clear hd
  cases a with
  | none=>rw [Op.equalIn]; simp [underlying,h]
  | some a=>rw [Op.equalIn]; simp [underlying,h]
 ·cases hT
theorem Re6 {P:Program} {T:Nat} (hT:Y1f P T=true) (b:Nat) (w:World):(Op.equal T (.map (some b)) (.map none)).run P w=.ok false w:=by
 unfold Y1f at hT
 split at hT
 ·rename_i e h
  unfold Op.equal
  generalize hd:Op.maxDepth=d
  obtain⟨d,rfl⟩:∃ m,d=m+1:=⟨Op.maxDepth - 1,by rw [← hd]; rfl⟩
  clear hd
  rw [Op.equalIn]; simp [underlying,h]
 ·cases hT
section nil
variable {P:Program} {o:Oper} {l:Fr} {L:Loc}
theorem Jc3 {x:Operand} {T T':Nat} (hT:Y4d P T=true) (ho:o.op=.binOp .eql T x (.const (.pointer none)) T') (hx:(ev l x).isPtr=true):H0 P o l L (Is (BL false) L):=by
 intro a w β K Q hsat hf hK
 obtain⟨ad,hv⟩:=(hf.ev x).isPtr hx
 have hr:(execOp a.eval o).run P w=.ok (.value (.bool false)) w:=by
  have e2:a.eval (.const (.pointer none))=.pointer none:=rfl
  simp [execOp,ho,eqGuard,binOp,hv,e2,J71 hT]
 unfold Oper.wp
 rw [hr]
 exact hK _ _ _ _ _ ⟨rfl,rfl⟩ hsat (Step.refl _ _ _) .sc
theorem Yaf {x:Operand} {T T':Nat} (hT:Y4d P T=true) (ho:o.op=.binOp .neq T x (.const (.pointer none)) T') (hx:(ev l x).isPtr=true):H0 P o l L (Is (BL true) L):=by
 intro a w β K Q hsat hf hK
 obtain⟨ad,hv⟩:=(hf.ev x).isPtr hx
 have hr:(execOp a.eval o).run P w=.ok (.value (.bool true)) w:=by
  have e2:a.eval (.const (.pointer none))=.pointer none:=rfl
  simp [execOp,ho,eqGuard,binOp,hv,e2,J71 hT]
 unfold Oper.wp
 rw [hr]
 exact hK _ _ _ _ _ ⟨rfl,rfl⟩ hsat (Step.refl _ _ _) .sc
theorem Yae {x:Operand} {T T':Nat} (hT:Y1f P T=true) (ho:o.op=.binOp .neq T x (.const (.map none)) T') (hx:(ev l x).isMap=true):H0 P o l L (Is (BL true) L):=by
 intro a w β K Q hsat hf hK
 obtain⟨b,hv⟩:=(hf.ev x).isMap hx
 have hr:(execOp a.eval o).run P w=.ok (.value (.bool true)) w:=by
  have e2:a.eval (.const (.map none))=.map none:=rfl
  simp [execOp,ho,eqGuard,binOp,hv,e2,Re6 hT]
 unfold Oper.wp
 rw [hr]
 exact hK _ _ _ _ _ ⟨rfl,rfl⟩ hsat (Step.refl _ _ _) .sc
end nil

/-! ### A row of values that are no data -/
def Q23 (l:Fr):List Operand→List AV→Prop
 | [],[]=>True
 | x::r,u::s=>ev l x=u∧Q23 l r s
 | _,_=>False
theorem Q23.length {l:Fr}:∀ {xs:List Operand} {us:List AV},Q23 l xs us→xs.length=us.length
 | [],[],_=>rfl
 | _::_,_::_,h=>by simp [Q23.length h.2]
theorem Q23.get {l:Fr}:∀ {xs:List Operand} {us:List AV},Q23 l xs us→∀ {j:Nat} {x:Operand} {u:AV},xs[j]? = some x→us[j]? = some u→ev l x=u
 | _::_,_::_,h,0,x,u,hx,hu=>by simp at hx hu; subst hx; subst hu; exact h.1
 | _::_,_::_,h,j+1,x,u,hx,hu=>Q23.get h.2 (by simpa using hx) (by simpa using hu)
 | [],[],_,j,x,u,hx,_=>by simp at hx
theorem Jeb {P:Program} {o:Oper} {l:Fr} {L:Loc} (i:Nat) {T E k n:Nat} {parts:List (Nat×Operand)} {xs cs:List AV} (ho:o.op=.buildSlice T n parts.toArray) (hd:Q23 l (parts.map (·.2)) xs) (hfl:flat xs=cs) (hT:sliceB P T E k=true) (hz:Y1 P E k=true)
  (hix:parts.map (·.1)=List.range n) (hc:Gf1 k xs=true) (hn:Nat.ble (n*k) 16777216=true) (hk0:Nat.blt 0 k=true) (hi0:lk L i=none):H0 P o l L (Is (.ms i 0 n n) ((i,.box E cs)::L)):=by
 subst hfl
 intro a w β K Q hsat hf hK
 have hlen:=hd.length
 have hnl:n=xs.length:=by
  have:=congrArg List.length hix
  simp only [List.length_map,List.length_range] at this hlen
  omega
 subst hnl
 have hc':=G8f hc
 have hkc:∀ x∈xs,x.cells.length=k:=fun x hx=>(hc' x hx).1
 have hfill:=H74 (k:=k) xs 0 (List.replicate (xs.length*k) .junk) (by simp) hc'
 obtain⟨inf,z,hi,hz1,hz2⟩:=Y1.out hz
 let zs:Array Value:=if xs.length*k=0 then #[] else z.cells
 obtain⟨vs',e1,e2,e3⟩:=H1b (w:=w) (β:=β) (L:=L) (qs:=parts.map fun p=>(p.1,a.eval p.2)) (vs:=(Array.range (xs.length*k)).map (zs[· % zs.size]!)) hfill (by
   have:=congrArg List.length hix
   simp only [List.length_map,List.length_range] at this
   simp [this]) (fun j p q hp hq=>by
   simp only [List.getElem?_map,Option.map_eq_some_iff] at hq
   obtain⟨y,hy,rfl⟩:=hq
   rw [List.getElem?_zip_eq_some] at hp
   obtain⟨hp1,hp2⟩:=hp
   have hix':(parts.map (·.1))[j]? = (List.range xs.length)[j]? := by rw [hix]
   simp only [List.getElem?_map,hy,Option.map_some] at hix'
   rw [List.range_eq_range',hp1] at hix'
   have:=(hd.get (j:=j) (x:=y.2) (u:=p.2) (by rw [List.getElem?_map,hy]; rfl) hp2)
   have hv:=hf.ev y.2
   rw [this] at hv
   exact⟨(Option.some.inj hix').symm,hv⟩) (by simp) (fun j u v hu _=>by
   have:=List.eq_of_mem_replicate (List.mem_of_getElem? hu)
   subst this; exact .junk)
 have hflat:(List.take (0*k) (List.replicate (xs.length*k) AV.junk))++flat xs=flat xs:=by simp
 rw [hflat] at e2 e3
 have hle0:xs.length*k≤16777216:=by simpa using hn
 have hr:(execOp a.eval o).run P w=.ok (.value (.slice (some ⟨w.heap.size,0,none⟩) xs.length xs.length)) (w.alloc (.cells vs' E)):=by
  have hsz:=Qe (sliceB.out hT).2 w
  have hle:¬ (xs.length*k > 2 ^ 24):=by
   have:(2:Nat) ^ 24=16777216:=by decide
   omega
  have hp:(parts.toArray.map fun(x:Nat×Operand)=>(x.1,a.eval x.2)).toList=parts.map fun p=>(p.1,a.eval p.2):=by simp
  by_cases h0:xs.length*k=0
  ·have hzs:zs=#[]:=by simp only [zs,if_pos h0]
   rw [hzs] at e1
   simp only [execOp,ho,Instr.buildSlice,underlying,(sliceB.out hT).1,run_program,Sem.run_bind,Result.andThen_ok,hsz,hle,if_false,Sem.run_pure,if_pos h0,hp,e1,newRow,run_newObj]
   rfl
  ·have hzs:zs=z.cells:=by simp only [zs,if_neg h0]
   rw [hzs] at e1
   simp only [execOp,ho,Instr.buildSlice,underlying,(sliceB.out hT).1,run_program,Sem.run_bind,Result.andThen_ok,hsz,hle,if_false,Sem.run_pure,if_neg h0,zeroValue,typeInfo,hi,hz1,hp,e1,newRow,run_newObj]
   rfl
 unfold Oper.wp
 rw [hr]
 have hm:xs.length≤maxLen:=by
  have h2:0 < k:=by simpa [Nat.blt_eq] using hk0
  have:xs.length*1≤xs.length*k:=Nat.mul_le_mul_left _ h2
  simp only [maxLen]; omega
 refine hK _ _ _ _ (upP β i (some w.heap.size)) ⟨rfl,rfl⟩ (hsat.alloc hi0 _ (fun hs=>⟨_,rfl,vs',heap_alloc_new w _,e2,fun j u v hu hv=>(e3 j u v hu hv).step hs⟩)) (Step.alloc hi0 hsat.bnd _) (.ms (t:=E) (cs:=flat xs) (by simp [Gh]) (by simp [upP]) (Nat.le_refl _) hm)

/-! ### Ranges over maps with gaps -/
section gaps
variable {α σ:Type}
def rk (l:List (Option α)) (j:Nat):Nat:=((l.take j).filterMap id).length
theorem Re9:∀ {l:List (Option α)} {j:Nat} {e:α},l[j]? = some (some e)→(l.filterMap id)[rk l j]? = some e
 | [],j,e,h=>by simp at h
 | none::r,0,e,h=>by simp at h
 | some a::r,0,e,h=>by simp at h; subst h; simp [rk]
 | none::r,j+1,e,h=>by
  have:=Re9 (l:=r) (j:=j) (e:=e) (by simpa using h)
  simpa [rk] using this
 | some a::r,j+1,e,h=>by
  have:=Re9 (l:=r) (j:=j) (e:=e) (by simpa using h)
  simpa [rk] using this
theorem Re8:∀ {l:List (Option α)} {i j:Nat} {e e':α},l[i]? = some (some e)→l[j]? = some (some e')→rk l i=rk l j→i=j
 | [],i,j,e,e',h,_,_=>by simp at h
 | x::r,0,0,_,_,_,_,_=>rfl
 | none::r,0,j+1,e,e',h,_,_=>by simp at h
 | some a::r,0,j+1,e,e',_,_,hr=>by simp [rk] at hr
 | none::r,i+1,0,e,e',_,h,_=>by simp at h
 | some a::r,i+1,0,e,e',_,_,hr=>by simp [rk] at hr
 | none::r,i+1,j+1,e,e',h,h',hr=>by
  have:=Re8 (l:=r) (i:=i) (j:=j) (by simpa using h) (by simpa using h') (by simpa [rk] using hr)
  omega
 | some a::r,i+1,j+1,e,e',h,h',hr=>by
  have:=Re8 (l:=r) (i:=i) (j:=j) (by simpa using h) (by simpa using h') (by simpa [rk] using hr)
  omega
theorem Re7:∀ {l:List (Option α)} {q:Nat},q < (l.filterMap id).length→∃ j e,l[j]? = some (some e)∧rk l j=q
 | [],q,h=>by simp at h
 | none::r,q,h=>by
  obtain⟨j,e,h1,h2⟩:=Re7 (l:=r) (q:=q) (by simpa using h)
  exact⟨j+1,e,by simpa using h1,by simpa [rk] using h2⟩
 | some a::r,0,h=>⟨0,a,rfl,rfl⟩
 | some a::r,q+1,h=>by
  obtain⟨j,e,h1,h2⟩:=Re7 (l:=r) (q:=q) (by simpa using h)
  exact⟨j+1,e,by simpa using h1,by simpa [rk] using h2⟩
def Gc8 (b:α→σ→(σ→Option (σ ⊕ Prop))→Option (σ ⊕ Prop)) (kx:σ→Option Prop) (l:List (Option α)) (seen:List Nat) (s:σ):Prop:=
 (∀ j∈seen,∃ e,l[j]? = some (some e))∧MInv b kx (l.filterMap id) (seen.map (rk l)) s
theorem Gc8.start {b:α→σ→(σ→Option (σ ⊕ Prop))→Option (σ ⊕ Prop)} {kx:σ→Option Prop} {l:List (Option α)} {s:σ} {p:Prop} (h:Hfb b kx (l.filterMap id) s=some p) (hp:p):Gc8 b kx l [] s:=
 ⟨by simp,MInv.start h hp⟩
theorem Gc8.step {b:α→σ→(σ→Option (σ ⊕ Prop))→Option (σ ⊕ Prop)} {kx:σ→Option Prop} {l:List (Option α)} {seen:List Nat} {s:σ} {j:Nat} {e:α} (h:Gc8 b kx l seen s) (hj:l[j]? = some (some e)) (hs:j ∉ seen) :
  ∃ o,b e s (fun s'=>some (.inl s'))=some o∧(∀ r,o=.inr r→r)∧∀ s',o=.inl s'→Gc8 b kx l (seen++[j]) s':=by
 obtain⟨h1,h2⟩:=h
 obtain⟨o,o1,o2,o3⟩:=h2.step (Re9 hj) (fun hm=>by
  obtain⟨i,hi,e2⟩:=List.mem_map.1 hm
  obtain⟨e',he'⟩:=h1 i hi
  exact hs (Re8 he' hj e2 ▸ hi))
 refine⟨o,o1,o2,fun s' ho=>⟨fun i hi=>?_,?_⟩⟩
 ·rcases List.mem_append.1 hi with hi | hi
  ·exact h1 i hi
  ·simp at hi; subst hi; exact⟨e,hj⟩
 ·rw [List.map_append]; exact o3 s' ho
theorem Gc8.done {b:α→σ→(σ→Option (σ ⊕ Prop))→Option (σ ⊕ Prop)} {kx:σ→Option Prop} {l:List (Option α)} {seen:List Nat} {s:σ} (h:Gc8 b kx l seen s) (ha:∀ q e,l[q]? = some (some e)→q∈seen):∃ p,kx s=some p∧p:=
 h.2.done (fun q hq=>by
  obtain⟨j,e,h1,h2⟩:=Re7 hq
  exact List.mem_map.2 ⟨j,ha j e h1,h2⟩)
end gaps
end Go.Proofs.YtidpfkmbfgihlaaGreat
