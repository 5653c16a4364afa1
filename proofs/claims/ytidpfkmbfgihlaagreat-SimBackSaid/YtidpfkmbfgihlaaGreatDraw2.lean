/-
 Slices of the call's own: frozen,described anew,lent to calls that only read; calls on local objects. Slices of typed elements that the call may write in place. Maps of typed keys and elements: made,looked into,written,ranged over. A statement whose order is open,in which more than one operation turns the local memory without an order between them (two variables that are made).
-/
import Derived.Test.YtidpfkmbfgihlaaGreatVec
namespace Go.Proofs.YtidpfkmbfgihlaaGreat
open Go.RowKit

section freeze
variable {P:Program} {N:Cfg} {Q:Post} {l l':Fr} {L L':Loc}

theorem V.vfreeze {w:World} {β:H4} {i ver n t k:Nat} {xs:List AV} {v:Value} (hsat:Sat w β L) (hi:lk L i=some (.vec t k ver xs)) (hdr:J82 L L') (hi':lk L' i=none) (h:V w β L (.vec i ver k n) v):V w β L' (.list k xs) v:=by
 obtain⟨rfl,hk,h⟩:=G5b hsat hi h
 rcases h with ⟨rfl,rfl,_⟩ | ⟨b,cap,vs,rfl,hb,h1,h2,h3,h4,h5⟩
 ·exact .data (.nil (Nat.zero_le _))
 ·have hlt:∀ j,j < (flat xs).length→j < vs.size:=fun j hj=>by
   rw [J1 hk] at hj
   have:=Nat.mul_le_mul_right k h1
   omega
  refine .data (.list (fun j=>vs.getD j undef) h1 h2 hk (fun j hj=>⟨⟨(Array.getElem?_eq_some_iff.1 h3).1,hsat.apart i b _ (by rw [hi]; rfl) hb,fun id o ho hb'=>?_⟩,?_⟩) (fun j u hu=>?_))
  ·obtain⟨o0,ho0,_⟩:=hdr.like id o ho
   have:=hsat.inj i id b (by rw [hi]; rfl) (by rw [ho0]; rfl) hb hb'
   subst this
   rw [hi'] at ho; cases ho
  ·have:=hlt j hj
   simp [World.cell?,h3,this]
  ·have hj:=(List.getElem?_eq_some_iff.1 hu).1
   have:=hlt j hj
   refine(h5 j u _ hu ?_).mono fun b i hs=>⟨hdr.stab hs,rfl⟩
   simp [this]

inductive Ye1 (i ver k:Nat) (xs:List AV) (ok:Nat→Bool):AV→AV→Prop
 | conv {u u':AV} (h:Conv ok u u'):Ye1 i ver k xs ok u u'
 | vec {n:Nat}:Ye1 i ver k xs ok (.vec i ver k n) (.list k xs)
def Qbc (i ver k:Nat) (xs:List AV) (ok:Nat→Bool) (l:Fr):Fr→Prop
 | []=>True
 | (t,u)::r=>Ye1 i ver k xs ok (look l t) u∧Qbc i ver k xs ok l r
theorem Qbc.get {i ver k:Nat} {xs:List AV} {ok:Nat→Bool} {l:Fr}:∀ {l':Fr},Qbc i ver k xs ok l l'→∀ t,Ye1 i ver k xs ok (look l t) (look l' t)
 | [],_,t=>.conv .junk
 | (s,u)::r,h,t=>by
  simp only [look]
  cases hb:Nat.beq s t with
  | true=>have:=Nat.eq_of_beq_eq_true hb; subst this; exact h.1
  | false=>exact Qbc.get h.2 t

theorem Ri.vfreeze {w0 w:World} {β0 β:H4} {L0:Loc} {a:Act} (hs:Ri N w0 β0 L0 a w β l L) (i:Nat) {t ver k:Nat} {xs:List AV} (hi:lk L i=some (.vec t k ver xs))
  (hi':lk L' i=none) (hl:H01 (fun j=>(lk L' j).isSome) L L') (hb:allIn L' N.base=true) (hf:Qbc i ver k xs (fun j=>(lk L' j).isSome) l l'):Ri N w0 β0 L0 a w β l' L':=by
 have hfit:Fits N.base l L [] L':=⟨trivial,hl,hb⟩
 have h1:=hs.fits hfit
 refine⟨h1.sat,h1.step,⟨fun t'=>?_⟩,h1.size,h1.base,h1.defers⟩
 have hv:=hs.frame.tmp t'
 generalize hu:look l t'=u at hv
 have hz:=hf.get t'
 rw [hu] at hz
 generalize look l' t'=u' at hz
 cases hz with
 | conv hc=>exact hv.conv hfit.drop hc
 | vec=>exact hv.vfreeze hs.sat hi hfit.drop hi'
theorem Qbb {c:Code} (l':Fr) (L':Loc) (i:Nat) {t ver k:Nat} {xs:List AV} (hi:lk L i=some (.vec t k ver xs)) (hi':lk L' i=none) (hl:H01 (fun j=>(lk L' j).isSome) L L') (hb:allIn L' N.base=true)
  (hf:Qbc i ver k xs (fun j=>(lk L' j).isSome) l l') (hk:JC P N c Q l' L'):JC P N c Q l L:=fun n w0 β0 L0 a w β hs=>hk n w0 β0 L0 a w β (hs.vfreeze i hi hi' hl hb hf)
end freeze

def AV.noRef:AV→Bool
 | .junk=>true
 | .sc _=>true
 | .agg cs=>noRefL cs
 | .tup cs=>noRefL cs
 | .list _ []=>true
 | _=>false
where noRefL:List AV→Bool
 | []=>true
 | x::r=>x.noRef&&noRefL r
theorem Gd0:∀ {cs:List AV},AV.noRef.noRefL cs=true→∀ u∈cs,u.noRef=true
 | [],_,u,hu=>by cases hu
 | x::r,h,u,hu=>by
  simp only [AV.noRef.noRefL,Bool.and_eq_true] at h
  rcases List.mem_cons.1 hu with rfl | hu
  ·exact h.1
  ·exact Gd0 h.2 u hu
theorem D.noRef {w w':World} {S S':Nat→Nat→Prop} {u:AV} {v:Value} (h:D w S u v):u.noRef=true→D w' S' u v:=by
 induction h with
 | junk=>exact fun _=>.junk
 | sc=>exact fun _=>.sc
 | agg hl _ ih=>exact fun hr=>.agg hl fun j u v hu hv=>ih j u v hu hv (Gd0 (by simpa [AV.noRef] using hr) u (List.mem_of_getElem? hu))
 | tup hl _ ih=>exact fun hr=>.tup hl fun j u v hu hv=>ih j u v hu hv (Gd0 (by simpa [AV.noRef] using hr) u (List.mem_of_getElem? hu))
 | nil h=>exact fun _=>.nil h
 | @list k b off cap xs vals hcap hm _ _ _ _=>
  intro hr
  cases xs with
  | nil=>exact .nil hm
  | cons x r=>simp [AV.noRef] at hr
 | lnil=>exact fun hr=>by simp [AV.noRef] at hr
 | lst=>exact fun hr=>by simp [AV.noRef] at hr
 | dptr=>exact fun hr=>by simp [AV.noRef] at hr
 | fn=>exact fun hr=>by simp [AV.noRef] at hr
 | bfn=>exact fun hr=>by simp [AV.noRef] at hr
 | opt=>exact fun hr=>by simp [AV.noRef] at hr
 | dmap=>exact fun hr=>by simp [AV.noRef] at hr
 | bag=>exact fun hr=>by simp [AV.noRef] at hr

section calls
variable {P:Program} {o:Oper} {l:Fr} {L:Loc} {u:AV}

inductive G80 (L:Loc):AV→AV→Prop
 | data {u u':AV} (h:u.plain=u') (hd:u'.isData=true):G80 L u u'
 | vec {i ver k n t:Nat} {xs:List AV} (hi:lk L i=some (.vec t k ver xs)):G80 L (.vec i ver k n) (.list k xs)
 | agg {cs ds:List AV} (hl:ds.length=cs.length) (h:∀ (j:Nat) u u',cs[j]? = some u→ds[j]? = some u'→G80 L u u'):G80 L (.agg cs) (.agg ds)
def H9e (L:Loc):List AV→List AV→Prop
 | [],[]=>True
 | u::r,u'::s=>G80 L u u'∧H9e L r s
 | _,_=>False
theorem H9e.len {L:Loc}:∀ {cs ds:List AV},H9e L cs ds→ds.length=cs.length
 | [],[],_=>rfl
 | _::_,_::_,h=>by simp [H9e.len h.2]
theorem H9e.get {L:Loc}:∀ {cs ds:List AV},H9e L cs ds→∀ (j:Nat) u u',cs[j]? = some u→ds[j]? = some u'→G80 L u u'
 | _::_,_::_,h,0,_,_,h1,h2=>by simp at h1 h2; subst h1 h2; exact h.1
 | _::_,_::_,h,j+1,u,u',h1,h2=>H9e.get h.2 j u u' (by simpa using h1) (by simpa using h2)
 | [],[],_,j,_,_,h1,_=>by simp at h1
def H9f (l:Fr) (L:Loc):List Operand→List AV→Prop
 | [],[]=>True
 | x::r,u::s=>G80 L (ev l x) u∧H9f l L r s
 | _,_=>False
theorem H9f.length {l:Fr} {L:Loc}:∀ {xs:List Operand} {us:List AV},H9f l L xs us→xs.length=us.length
 | [],[],_=>rfl
 | _::r,_::s,h=>by simp [H9f.length h.2]
theorem H9f.get {l:Fr} {L:Loc}:∀ {xs:List Operand} {us:List AV},H9f l L xs us→∀ {j:Nat} {x:Operand} {u:AV},xs[j]? = some x→us[j]? = some u→G80 L (ev l x) u
 | [],[],_,j,x,u,h,_=>by simp at h
 | x::r,u::s,h,0,_,_,hx,hu=>by simp at hx hu; subst hx hu; exact h.1
 | x::r,u::s,h,j+1,_,_,hx,hu=>by simp at hx hu; exact H9f.get h.2 hx hu

theorem G80.D {w:World} {β:H4} {u u':AV} (hsat:Sat w β L) (h:G80 L u u'):∀ {v:Value},V w β L u v→D w (fun b _=>b < w.heap.size) u' v:=by
 induction h with
 | agg hl _ ih=>
  intro v hv
  obtain⟨vs,rfl,hl2,hvs⟩:=hv.inv_agg
  refine .agg (hl2.trans hl.symm) fun j u' x hu' hx=>?_
  have hj:j < _:=(List.getElem?_eq_some_iff.1 hu').1
  exact ih j _ u' (List.getElem?_eq_getElem (hl ▸ hj)) hu' (hvs j _ x (List.getElem?_eq_getElem (hl ▸ hj)) hx)
 | data h hd=>
  intro v hv
  subst h
  exact(hv.plain.toD hd).mono fun b i hs=>⟨hs.lt,rfl⟩
 | @vec i ver k n t xs hi=>
  intro v hv
  have hd:J82 L (L.filter fun p=>!Nat.beq p.1 i):=by
   refine⟨fun id o' h=>?_⟩
   have:lk L id=some o':=by
    clear hsat hi hv
    induction L with
    | nil=>simp [lk] at h
    | cons p r ih=>
     obtain⟨q,ob⟩:=p
     rw [List.filter_cons] at h
     by_cases e:(!Nat.beq (q,ob).1 i)=true
     ·rw [if_pos e,Gh] at h
      rw [Gh]
      by_cases e2:q=id
      ·rw [if_pos e2] at h ⊢; exact h
      ·rw [if_neg e2] at h ⊢; exact ih h
     ·rw [if_neg e] at h
      rw [Gh]
      by_cases e2:q=id
      ·exfalso
       subst e2
       have hqi:q=i:=by
        cases hb:Nat.beq q i with
        | true=>exact Nat.eq_of_beq_eq_true hb
        | false=>exact absurd (by simp [hb]) e
       subst hqi
       have hno:∀ r:Loc,lk (r.filter fun p=>!Nat.beq p.1 q) q=none:=by
        intro r
        induction r with
        | nil=>rfl
        | cons p r ih2=>
         rw [List.filter_cons]
         by_cases e3:(!Nat.beq p.1 q)=true
         ·rw [if_pos e3,Gh,if_neg (fun e4=>by rw [e4] at e3; simp at e3)]; exact ih2
         ·rw [if_neg e3]; exact ih2
       rw [hno] at h; cases h
      ·rw [if_neg e2]; exact ih h
   exact⟨o',this,by cases o' <;> simp [Jh.like]⟩
  have hn:lk (L.filter fun p=>!Nat.beq p.1 i) i=none:=by
   clear hsat hi hv hd
   induction L with
   | nil=>rfl
   | cons p r ih2=>
    rw [List.filter_cons]
    by_cases e3:(!Nat.beq p.1 i)=true
    ·rw [if_pos e3,Gh,if_neg (fun e4=>by rw [e4] at e3; simp at e3)]; exact ih2
    ·rw [if_neg e3]; exact ih2
  exact((hv.vfreeze hsat hi hd hn).inv_list).mono fun b i hs=>⟨hs.lt,rfl⟩

theorem Jd7 {P:Program} {f:FuncId} {args:List AV} {R:AV→Prop} (hc:Pure P f args R) {w:World} {β:H4} (hsat:Sat w β L) {vs:Array Value} (hl:vs.size=args.length)
  (hv:∀ (j:Nat) u v,args[j]? = some u→vs[j]? = some v→D w (fun b _=>b < w.heap.size) u v) (hr:∀ r,R r→r.noRef=true) :
  Calls P f vs w fun e w'=>∃ v r,e=.returned v∧Sat w' β L∧Step w β L w' β L∧V w' β L r v∧R r:=by
 have hmono:∀ b i:Nat,b < w.heap.size→Jt w ⟨fun _=>none,fun _ _=>False⟩ [] b i:=fun b i hs=>⟨hs,fun h=>h,fun id o h=>by simp [lk] at h⟩
 refine(hc w ⟨fun _=>none,fun _ _=>False⟩ vs ⟨fun b i h=>h.elim,fun id b h=>by simp [lk] at h,fun id b j h=>by simp [lk] at h,fun id id' b h=>by simp [lk] at h,fun id o h=>by simp [lk] at h⟩ hl
  (fun j u v hu hv'=>.data ((hv j u v hu hv').mono fun b i hs=>⟨hmono b i hs,rfl⟩))).mono fun e w' h=>?_
 obtain⟨v,r,β',L',he,hsat',hst,hvr,rfl,hR⟩:=h
 have far:∀ b,b < w.heap.size→w'.heap[b]? = w.heap[b]? := fun b hb=>(hst.far b hb (fun id h=>by simp [lk] at h)).1
 have stab:∀ b i,Jt w β L b i→Jt w' β L b i:=fun b i hs=>⟨Nat.lt_of_lt_of_le hs.lt hst.size,hs.seen,hs.kept⟩
 have step:Step w β L w' β L:=⟨hst.os,hst.tape,hst.output,hst.size,fun _ _ _=>Iff.rfl,fun b i hs=>⟨stab b i hs,Q2 (w:=w) (far b hs.lt)⟩,fun b hb hf=>⟨far b hb,hf⟩,
  fun _ _ cs h=>⟨rfl,cs,h⟩,fun _ _ cs h=>⟨rfl,cs,h⟩,fun _ _ n cs h=>⟨rfl,n,cs,h⟩,fun id _ _ ver xs h=>⟨ver,xs,h,Nat.le_refl _,fun _=>⟨rfl,rfl,fun b hb=>G12 (far b (hsat.bnd id b (by rw [h]; rfl) hb))⟩⟩,fun id _ _ ver hw h=>⟨ver,hw,h,Nat.le_refl _,fun _=>⟨rfl,rfl,fun b hb=>far b (hsat.bnd id b (by rw [h]; rfl) hb)⟩⟩⟩
 exact⟨v,r,he,⟨fun b i h=>Nat.lt_of_lt_of_le (hsat.hid b i h) hst.size,fun id b h1 h2=>Nat.lt_of_lt_of_le (hsat.bnd id b h1 h2) hst.size,hsat.apart,hsat.inj,fun id o h=>(hsat.obj id o h).step step (fun b hb=>far b (hsat.bnd id b (by rw [h]; rfl) hb))⟩,step,.data (hvr.data_of_nil.noRef (hr r hR)),hR⟩

def J05 (l:Fr) (L0:Loc):List Operand→List AV→Prop
 | [],[]=>True
 | x::r,u::s=>(ev l x=u∨(ev l x).plain=u)∧u.refs (inL L0)=true∧J05 l L0 r s
 | _,_=>False
theorem J05.length {l:Fr} {L0:Loc}:∀ {xs:List Operand} {us:List AV},J05 l L0 xs us→xs.length=us.length
 | [],[],_=>rfl
 | _::r,_::s,h=>by simp [J05.length h.2.2]
theorem J05.get {l:Fr} {L0:Loc}:∀ {xs:List Operand} {us:List AV},J05 l L0 xs us→∀ {j:Nat} {x:Operand} {u:AV},xs[j]? = some x→us[j]? = some u→(ev l x=u∨(ev l x).plain=u)∧u.refs (inL L0)=true
 | [],[],_,j,x,u,h,_=>by simp at h
 | x::r,u::s,h,0,_,_,hx,hu=>by simp at hx hu; subst hx hu; exact⟨h.1,h.2.1⟩
 | x::r,u::s,h,j+1,_,_,hx,hu=>by simp at hx hu; exact J05.get h.2.2 hx hu

def Qd1 (L:Loc):Loc→Prop
 | []=>True
 | (i,ob)::r=>lk L i=some ob∧Qd1 L r
theorem Qd1.get {L:Loc}:∀ {L0:Loc},Qd1 L L0→∀ {id:Nat} {ob:Jh},lk L0 id=some ob→lk L id=some ob
 | [],_,id,ob,h=>by simp [lk] at h
 | (i,o')::r,hs,id,ob,h=>by
  rw [Gh] at h
  by_cases e:i=id
  ·subst e; rw [if_pos rfl] at h; cases h; exact hs.1
  ·rw [if_neg e] at h; exact Qd1.get hs.2 h
def closedIn (ok:Nat→Bool):Loc→Bool
 | []=>true
 | (_,ob)::r=>ob.refs ok&&closedIn ok r
theorem closedIn.get {ok:Nat→Bool}:∀ {L0:Loc},closedIn ok L0=true→∀ {id:Nat} {ob:Jh},lk L0 id=some ob→ob.refs ok=true
 | [],_,id,ob,h=>by simp [lk] at h
 | (i,o')::r,hs,id,ob,h=>by
  simp only [closedIn,Bool.and_eq_true] at hs
  rw [Gh] at h
  by_cases e:i=id
  ·subst e; rw [if_pos rfl] at h; cases h; exact hs.1
  ·rw [if_neg e] at h; exact closedIn.get hs.2 h
def H45 (L L0:Loc):Loc→Bool
 | []=>true
 | (i,_)::r=>(inL L0 i||!inL L i)&&H45 L L0 r
theorem H45.get {L L0:Loc}:∀ {Lr:Loc},H45 L L0 Lr=true→∀ {id:Nat},inL Lr id=true→inL L0 id=true∨lk L id=none
 | [],_,id,h=>by simp [inL,lk] at h
 | (i,_)::r,hs,id,h=>by
  simp only [H45,Bool.and_eq_true,Bool.or_eq_true,Bool.not_eq_true'] at hs
  rw [inL,Gh] at h
  by_cases e:i=id
  ·subst e
   exact hs.1.imp id (fun h=>by simpa [inL] using h)
  ·rw [if_neg e] at h; exact H45.get hs.2 h

theorem R00 {f:FuncId} {vs:Array Value} {args:List AV} {L0 Lr L'':Loc} {a:Act} {w:World} {β:H4} {K:Act→World→Prop} {Q:Exit→Act→World→Prop} (hc:Jg P f args L0 (fun r L'=>r=u∧L'=Lr)) (hsat:Sat w β L)
  (hsub:Qd1 L L0) (hcl:closedIn (inL L0) L0=true) (hnew:H45 L L0 Lr=true) (hL:Lr++Hb2 L L0=L'') (hl:vs.size=args.length)
  (hv:∀ (j:Nat) u v,args[j]? = some u→vs[j]? = some v→V w β L u v∧u.refs (inL L0)=true)
  (hK:∀ u' L' v w' β',Is u L'' u' L'→Sat w' β' L'→Step w β L w' β' L'→V w' β' L' u' v→K (a.put o.dst v) w') :
  Calls P f vs w fun
   | .returned v,w''=>K (a.put o.dst v) w''
   | .panicked chain,w''=>Q (.panic chain) a w''
   | .outgrown,_=>LetsOut Q:=by
 refine(Q8d hc hsat (fun id ob h=>hsub.get h) (fun id ob h=>closedIn.get hcl h) hl hv (fun r L' hR id h=>by rw [hR.2] at h; exact H45.get hnew h)).mono fun e w' h=>?_
 obtain⟨v,r,β',L',rfl,⟨rfl,rfl⟩,h1,h2,h3⟩:=h
 unfold H3f at h1 h2 h3
 rw [hL] at h1 h2 h3
 exact hK _ _ v w' _ ⟨rfl,rfl⟩ h1 h2 h3

theorem Rs {f:FuncId} {xs:List Operand} {args:List AV} {ts:Array TypeId} {L0 Lr L'':Loc} (ho:o.op=.call { callee:=.value (.func f),args:=xs.toArray,argTypes:=ts }) (hc:Jg P f args L0 (fun r L'=>r=u∧L'=Lr)) (hB:H7 P f=true) (ha:J05 l L0 xs args)
  (hsub:Qd1 L L0) (hcl:closedIn (inL L0) L0=true) (hnew:H45 L L0 Lr=true) (hL:Lr++Hb2 L L0=L''):H0 P o l L (Is u L''):=by
 intro a w β K Q hsat hf hK
 have hr:(execOp a.eval o).run P w=.ok (.enter f (xs.toArray.map a.eval)) w:=by
  simp [execOp,ho,resolve,Act.eval,Deferred.ofValue,invoke,H7.out hB]
 unfold Oper.wp
 rw [hr]
 refine R00 hc hsat hsub hcl hnew hL (by simp [ha.length]) (fun j u v hu hv=>?_) hK
 simp only [Array.getElem?_map,List.getElem?_toArray,Option.map_eq_some_iff] at hv
 obtain⟨x,hx,rfl⟩:=hv
 obtain⟨h1,h2⟩:=ha.get hx hu
 refine⟨?_,h2⟩
 rcases h1 with h1 | h1
 ·rw [← h1]; exact hf.ev x
 ·rw [← h1]; exact(hf.ev x).plain

end calls
end Go.Proofs.YtidpfkmbfgihlaaGreat
namespace Go.Proofs.YtidpfkmbfgihlaaGreat
open Go.RowKit

section ops
variable {P:Program} {N:Cfg} {Q:Post} {o:Oper} {ops:Array Oper} {rest:List Oper} {l:Fr} {L L':Loc} {u:AV} {α:Type}

theorem G67 {s x:Operand} {T E k by_ i ver ver1 n kx:Nat} {f:α→AV} {xs ys:List α} (ho:o.op=.call { callee:=.builtin .append,args:=#[s,x],argTypes:=#[T,T] }) (hs:ev l s=.vec i ver k n) (hi:lk L i=some (.vec E k ver (xs.map f))) (hx:Qf (ev l x)=some (kx,ys.map f))
  (hT:sliceB P T E k=true) (hE:Z5 P E k by_=true) (hb:decide ((xs.length+ys.length)*by_≤140737488355328∧xs.length+ys.length≤maxLen)=true) (hcell:∀ y,(f y).flatOk=true) (hk:kx=k∨ys=[]) (hv:ver < ver1) :
  H0 P o l L (Is (.vec i ver1 k (xs++ys).length) ((i,.vec E k ver1 ((xs++ys).map f))::L)):=by
 have hb':=of_decide_eq_true hb
 have h:=Y68 (xs:=xs.map f) (ys:=ys.map f) ho hs hi hx hT hE (by simpa using hb'.1) (by simpa using hb'.2) (fun y hy=>by
  obtain⟨z,_,rfl⟩:=List.mem_map.1 hy
  exact hcell z) (hk.imp id (fun e=>by rw [e]; rfl)) hv
 simpa only [List.map_append,List.length_append,List.length_map] using h
theorem Y37 {x ix:Operand} {T E k i ver n m:Nat} {kd:IntKind} {z:Int} {f:α→AV} {xs:List α} {y:α} (ho:o.op=.indexAddr T x ix) (hx:ev l x=.vec i ver k n) (hix:ev l ix=.sc (.int kd z)) (hi:lk L i=some (.vec E k ver (xs.map f))) (hT:sliceB P T E k=true) (hy:xs[m]? = some y) (hz:z=(m:Int)) :
  H0 P o l L (Is (.vptr i ver m 0) L):=Z1b ho hx hix hi hT (by rw [List.length_map]; exact(List.getElem?_eq_some_iff.1 hy).1) hz
end ops
end Go.Proofs.YtidpfkmbfgihlaaGreat
namespace Go.Proofs.YtidpfkmbfgihlaaGreat
open Go.RowKit

structure Ju (κ ν:Type) where
 l:List (κ×ν)
 nd:(l.map (·.1)).Nodup
namespace Ju
variable {κ ν:Type} [DecidableEq κ]
def empty:Ju κ ν:=⟨[],List.nodup_nil⟩
def put (m:Ju κ ν) (a:κ) (v:ν):Ju κ ν:=⟨Gfc m.l a v,He1 m.nd a v⟩
def get (m:Ju κ ν) (a:κ) (z:ν):ν:=(G2a m.l a).getD z
def has (m:Ju κ ν) (a:κ):Bool:=G32 m.l a
def size (m:Ju κ ν):Nat:=m.l.length
end Ju
def MP {κ ν:Type} (T:Nat) (kv:κ→Value) (av:ν→AV) (m:Ju κ ν):Jh:=.map T (mapOf kv av m.l)
def MI {κ ν:Type} [DecidableEq κ] (T:Nat) (kv:κ→Value) (av:ν→AV) (m:Ju κ ν) (a:κ) (z:ν):Jh:=.map T (mapOf kv av (H26 m.l a z))

section ops
variable {P:Program} {N:Cfg} {o:Oper} {l:Fr} {L L':Loc} {u:AV} {κ ν:Type} {kv:κ→Value} {av:ν→AV}

theorem Y08 (i:Nat) {T:Nat} (kv:κ→Value) (av:ν→AV) (ho:o.op=.makeMap T none) (hi:lk L i=none) (hcl:Nat.blt T 1000000=true:=by rfl):H0 P o l L (Is (.mp i) ((i,MP T kv av Ju.empty)::L)):=Y6c i ho hi hcl
theorem R11 [DecidableEq κ] {x y:Operand} {T K E i:Nat} {ok:Bool} {m:Ju κ ν} {a:κ} (z0:ν) (zv:Value) (ho:o.op=.lookup T x y ok) (hm:ev l x=.mp i) (hi:lk L i=some (MP T kv av m))
  (hx:ev l y=Rt (kv a)) (hk:Gd3 P K kv) (hT:Zj P T K E=true) (hz:(P.info? E).bind (·.zero)=some zv) (hzv:av z0=Rt zv) :
  H0 P o l L (Is (bif ok then .tup [av (m.get a z0),BL (m.has a)] else av (m.get a z0)) L):=Qc3 z0 zv ho hm hi m.nd hx hk hT hz hzv
theorem Qc2 [DecidableEq κ] {x y:Operand} {T K E i:Nat} {m:Ju κ ν} {a:κ} (z0:ν) (zv:Value) (ho:o.op=.lookup T x y false) (hm:ev l x=.mp i) (hi:lk L i=some (MP T kv av m))
  (hx:ev l y=Rt (kv a)) (hk:Gd3 P K kv) (hT:Zj P T K E=true) (hz:(P.info? E).bind (·.zero)=some zv) (hzv:av z0=Rt zv) :
  H0 P o l L (Is (av (m.get a z0)) L):=R11 (ok:=false) z0 zv ho hm hi hx hk hT hz hzv
theorem Qc1 [DecidableEq κ] {x y:Operand} {T K E i:Nat} {m:Ju κ ν} {a:κ} (z0:ν) (zv:Value) (ho:o.op=.lookup T x y false) (hm:ev l x=.mp i) (hi:lk L i=some (MI T kv av m a z0))
  (hx:ev l y=Rt (kv a)) (hk:Gd3 P K kv) (hT:Zj P T K E=true) (hz:(P.info? E).bind (·.zero)=some zv) (hzv:av z0=Rt zv) :
  H0 P o l L (Is (av (m.get a z0)) L):=R9d z0 zv ho hm hi m.nd hx hk hT hz hzv
theorem Q24 [DecidableEq κ] {x y:Operand} {T K E i:Nat} {m:Ju κ ν} {a:κ} (z0:ν) (zv:Value) (ho:o.op=.mapEntry T x y) (hm:ev l x=.mp i) (hi:lk L i=some (MP T kv av m))
  (hx:ev l y=Rt (kv a)) (hk:Gd3 P K kv) (hT:Zj P T K E=true) (hz:(P.info? E).bind (·.zero)=some zv) (hzv:av z0=Rt zv) :
  H0 P o l L (Is (.tup [.junk,I64 (G31 m.l a)]) ((i,MI T kv av m a z0)::L)):=Y07 z0 zv ho hm hi m.nd hx hk hT hz hzv
theorem J61 [DecidableEq κ] {x s y:Operand} {T i:Nat} {m:Ju κ ν} {a:κ} {v:ν} (z0:ν) (ho:o.op=.entryStore T x s y) (hm:ev l x=.mp i) (hi:lk L i=some (MI T kv av m a z0))
  (hs:ev l s=I64 (G31 m.l a)) (hy:(ev l y).plain=av v) (hyd:(av v).isData=true) (hcl:Nat.blt T 1000000=true:=by rfl) :
  H0 P o l L (Is .junk ((i,MP T kv av (m.put a v))::L)):=R3b z0 ho hm hi m.nd hs hy hyd hcl
theorem Yac (i:Nat) {x:Operand} {T K E j:Nat} {m:Ju κ ν} (ho:o.op=.range T x) (hx:ev l x=.mp j) (hm:lk L j=some (MP T kv av m)) (hi:lk L i=none) (hT:Zj P T K E=true) :
  H0 P o l L (Is (.it i) ((i,.iter (.mp j) m.size [])::L)):=by
 have h:=Ye8 (P:=P) i ho hx hm hi hT (Zj.both hT).2
 simpa only [mapOf,List.length_map,Ju.size] using h
end ops

section ops
variable {P:Program} {N:Cfg} {Q:Post} {o:Oper} {l:Fr} {L L':Loc} {u:AV} {κ ν:Type} {kv:κ→Value} {av:ν→AV}
def Z41 (i j:Nat) (L:Loc) (kv:κ→Value) (av:ν→AV) (m:Ju κ ν) (seen:List Nat):AV→Loc→Prop:=fun u L'=>
 (∃ q e,m.l[q]? = some e∧q ∉ seen∧u=.tup [BL true,Rt (kv e.1),av e.2]∧L'=(i,.iter (.mp j) m.size (seen++[q]))::L)∨((∀ q,q < m.l.length→q∈seen)∧u=.tup [BL false]∧L'=L)
theorem H0.weaken {R R':AV→Loc→Prop} (h:H0 P o l L R) (hR:∀ u L',R u L'→R' u L'):H0 P o l L R':=fun a w β K Q h1 h2 h3=>h a w β K Q h1 h2 (fun u L' v w' β' hr=>h3 u L' v w' β' (hR u L' hr))
theorem Y89 {m:Ju κ ν} {q:Nat} {k:Value} {v:AV} (h:(mapOf kv av m.l)[q]? = some (k,v)):∃ e:κ×ν,m.l[q]? = some e∧k=kv e.1∧v=av e.2:=by
 rw [mapOf,List.getElem?_map] at h
 cases hl:m.l[q]? with
 | none=>rw [hl] at h; cases h
 | some e=>rw [hl] at h; cases h; exact⟨e,rfl,rfl,rfl⟩
theorem Ye9 {x:Operand} {i j T:Nat} {m:Ju κ ν} {seen:List Nat} (ho:o.op=.next x false) (hx:ev l x=.it i) (hi:lk L i=some (.iter (.mp j) m.size seen)) (hm:lk L j=some (MP T kv av m)) (hcl:Nat.blt T 1000000=true:=by rfl):H0 P o l L (Z41 i j L kv av m seen):=by
 have hi':lk L i=some (.iter (.mp j) (mapOf kv av m.l).length seen):=by rw [hi]; simp [mapOf,Ju.size]
 refine(Z1f ho hx hi' hm hcl).weaken (fun u L' h=>?_)
 rcases h with ⟨q,k,v,h1,h2,h3,h4⟩ | ⟨h1,h2,h3⟩
 ·obtain⟨e,he,rfl,rfl⟩:=Y89 h1
  exact .inl ⟨q,e,he,h2,h3,by rw [h4]; simp [mapOf,Ju.size]⟩
 ·exact .inr ⟨fun q hq=>h1 q (by simpa [mapOf] using hq),h2,h3⟩
theorem Yb5 {x:Operand} {i j T q:Nat} {m:Ju κ ν} {seen:List Nat} {e:κ×ν} (ho:o.op=.entry x) (hx:ev l x=.it i) (hi:lk L i=some (.iter (.mp j) m.size (seen++[q]))) (hm:lk L j=some (MP T kv av m)) (he:m.l[q]? = some e) (hcl:Nat.blt T 1000000=true:=by rfl) :
  H0 P o l L (Is (.tup [Rt (kv e.1),av e.2]) L):=by
 have hi':lk L i=some (.iter (.mp j) (mapOf kv av m.l).length (seen++[q])):=by rw [hi]; simp [mapOf,Ju.size]
 exact Yef ho hx hi' hm (by rw [mapOf,List.getElem?_map,he]; rfl) hcl
theorem J30 {body:Code} {σ:Type} (n:Nat) (I:List Nat→σ→Prop) (F:List Nat→σ→Fr) (M:List Nat→σ→Loc) (s0:σ) (h0:I [] s0) (hf:Fits N.base l L (F [] s0) (M [] s0))
  (hr:∀ i s,I i s→∀ K:Fr→Loc→Prop,(∀ l L i' s',I i' s'→unseen n i' < unseen n i→Fits N.base l L (F i' s') (M i' s')→K l L)→JC P N body (Q.seq K) (F i s) (M i s)):JC P N (.loop body) Q l L:=
 Y31 (fun x:List Nat×σ=>I x.1 x.2) (fun x=>F x.1 x.2) (fun x=>M x.1 x.2) (fun x=>unseen n x.1) ([],s0) h0 hf
  (fun x hi K hK=>hr x.1 x.2 hi K (fun l L i' s' h1 h2 h3=>hK l L (i',s') h1 h2 h3))
end ops

/-! ### Ranging over a map: every order of its entries -/
section range
variable {α β σ:Type}
def H24 (b:α→σ→(σ→Option (σ ⊕ β))→Option (σ ⊕ β)) (kx:σ→Option β):List α→σ→Option β
 | [],s=>kx s
 | x::xs,s=>match b x s (fun s'=>some (.inl s')) with
  | some (.inl s')=>H24 b kx xs s'
  | some (.inr r)=>some r
  | none=>none
def lft (x:Option β):Option (σ ⊕ β):=x.map .inr
def Hfb (b:α→σ→(σ→Option (σ ⊕ Prop))→Option (σ ⊕ Prop)) (kx:σ→Option Prop) (l:List α) (s:σ):Option Prop:=
 some (∀ q:List α,q.Perm l→∃ p,H24 b kx q s=some p∧p)
theorem Y21 {x:Option β} {r:σ ⊕ β} (h:lft x=some r):∃ y,r=.inr y∧x=some y:=by
 cases x with
 | none=>cases h
 | some y=>cases h; exact⟨y,rfl,rfl⟩
theorem Qec {b:α→σ→(σ→Option (σ ⊕ Prop))→Option (σ ⊕ Prop)} {kx:σ→Option Prop} {x:α} {xs:List α} {s:σ} (h:∃ p,H24 b kx (x::xs) s=some p∧p) :
  ∃ o,b x s (fun s'=>some (.inl s'))=some o∧(∀ r,o=.inr r→r)∧∀ s',o=.inl s'→∃ p,H24 b kx xs s'=some p∧p:=by
 obtain⟨p,h,hp⟩:=h
 rw [H24] at h
 cases hb:b x s (fun s'=>some (.inl s')) with
 | none=>rw [hb] at h; cases h
 | some o=>
  rw [hb] at h
  cases o with
  | inl s'=>exact⟨_,rfl,(fun r e=>by cases e),(fun s2 e=>by cases e; exact⟨p,h,hp⟩)⟩
  | inr r=>cases h; exact⟨_,rfl,(fun r2 e=>by cases e; exact hp),(fun s2 e=>by cases e)⟩
def MInv (b:α→σ→(σ→Option (σ ⊕ Prop))→Option (σ ⊕ Prop)) (kx:σ→Option Prop) (l:List α) (seen:List Nat) (s:σ):Prop:=
 (seen.Nodup∧∀ j∈seen,j < l.length)∧∀ q:List α,(seen.filterMap (fun j=>l[j]?)++q).Perm l→∃ p,H24 b kx q s=some p∧p
theorem MInv.start {b:α→σ→(σ→Option (σ ⊕ Prop))→Option (σ ⊕ Prop)} {kx:σ→Option Prop} {l:List α} {s:σ} {p:Prop} (h:Hfb b kx l s=some p) (hp:p):MInv b kx l [] s:=by
 cases h
 exact⟨⟨List.nodup_nil,by simp⟩,by simpa using hp⟩
theorem H28 {b:α→σ→(σ→Option (σ ⊕ Prop))→Option (σ ⊕ Prop)} {kx:σ→Option Prop} {l:List α} {s:σ} {r:Option Prop} (h:Hfb b kx l s=r):∃ b' kx',b=b'∧kx=kx'∧Hfb b' kx' l s=r:=⟨b,kx,rfl,rfl,h⟩
theorem Q7c {l:List α} {seen:List Nat} (hn:seen.Nodup) (hb:∀ j∈seen,j < l.length):∃ q,(seen.filterMap (fun j=>l[j]?)++q).Perm l:=by
 have h1:∃ r,(seen++r).Perm (List.range l.length):=by
  refine⟨(List.range l.length).filter (fun j=>!seen.contains j),?_⟩
  refine(List.perm_ext_iff_of_nodup ?_ List.nodup_range).2 (fun j=>?_)
  ·refine List.nodup_append.2 ⟨hn,List.nodup_range.filter _,fun a ha b hb'=>?_⟩
   have:=(List.mem_filter.1 hb').2
   intro e; subst e; simp [ha] at this
  ·simp only [List.mem_append,List.mem_filter,List.mem_range,Bool.not_eq_true',List.contains_eq_mem,decide_eq_false_iff_not]
   constructor
   ·rintro(h | h)
    ·exact hb j h
    ·exact h.1
   ·intro h
    by_cases hs:j∈seen
    ·exact .inl hs
    ·exact .inr ⟨h,hs⟩
 obtain⟨r,hr⟩:=h1
 have h2:=hr.filterMap (fun j=>l[j]?)
 have h3:(List.range l.length).filterMap (fun j=>l[j]?)=l:=by
  have key:∀ (l m:List α),(List.range' m.length l.length).filterMap (fun j=>(m++l)[j]?)=l:=by
   intro l
   induction l with
   | nil=>intro m; rfl
   | cons a r ih=>
    intro m
    have h1:=ih (m++[a])
    rw [List.length_cons,List.range'_succ,List.filterMap_cons_some (b:=a) (by simp)]
    congr 1
    simpa using h1
  have:=key l []
  simpa [List.range_eq_range'] using this
 rw [List.filterMap_append,h3] at h2
 exact⟨_,h2⟩
theorem MInv.step {b:α→σ→(σ→Option (σ ⊕ Prop))→Option (σ ⊕ Prop)} {kx:σ→Option Prop} {l:List α} {seen:List Nat} {s:σ} {j:Nat} {e:α} (h:MInv b kx l seen s) (hj:l[j]? = some e) (hs:j ∉ seen) :
  ∃ o,b e s (fun s'=>some (.inl s'))=some o∧(∀ r,o=.inr r→r)∧∀ s',o=.inl s'→MInv b kx l (seen++[j]) s':=by
 obtain⟨⟨h1,h2⟩,h3⟩:=h
 have hn:(seen++[j]).Nodup:=List.nodup_append.2 ⟨h1,by simp,fun a ha b hb=>by simp at hb; subst hb; intro e; subst e; exact hs ha⟩
 have hb:∀ i∈seen++[j],i < l.length:=fun i hi=>by
  rcases List.mem_append.1 hi with hi | hi
  ·exact h2 i hi
  ·simp at hi; subst hi; exact(List.getElem?_eq_some_iff.1 hj).1
 have hfm:(seen++[j]).filterMap (fun j=>l[j]?)=seen.filterMap (fun j=>l[j]?)++[e]:=by
  rw [List.filterMap_append]; simp [hj]
 obtain⟨q,hq⟩:=Q7c (l:=l) hn hb
 rw [hfm,List.append_assoc] at hq
 obtain⟨o,o1,o2,_⟩:=Qec (h3 (e::q) hq)
 refine⟨o,o1,o2,fun s' ho=>⟨⟨hn,hb⟩,fun q' hq'=>?_⟩⟩
 rw [hfm,List.append_assoc] at hq'
 obtain⟨o',p1,_,p3⟩:=Qec (h3 (e::q') hq')
 rw [o1] at p1; cases p1
 exact p3 s' ho
theorem MInv.done {b:α→σ→(σ→Option (σ ⊕ Prop))→Option (σ ⊕ Prop)} {kx:σ→Option Prop} {l:List α} {seen:List Nat} {s:σ} (h:MInv b kx l seen s) (ha:∀ j,j < l.length→j∈seen):∃ p,kx s=some p∧p:=by
 obtain⟨⟨h1,h2⟩,h3⟩:=h
 obtain⟨q,hq⟩:=Q7c (l:=l) h1 h2
 have hl:(seen.filterMap (fun j=>l[j]?)).length=l.length:=by
  have hp:seen.Perm (List.range l.length):=(List.perm_ext_iff_of_nodup h1 List.nodup_range).2 (fun j=>by
   rw [List.mem_range]; exact⟨h2 j,ha j⟩)
  have h5:(seen.filterMap (fun j=>l[j]?)).length=seen.length:=by
   have:∀ s:List Nat,(∀ j∈s,j < l.length)→(s.filterMap (fun j=>l[j]?)).length=s.length:=by
    intro s
    induction s with
    | nil=>intro _; rfl
    | cons a r ih=>
     intro hs
     have ha:=hs a (by simp)
     rw [List.filterMap_cons_some (by simp [ha]; rfl),List.length_cons,ih (fun j hj=>hs j (by simp [hj])),List.length_cons]
   exact this seen h2
  rw [h5,hp.length_eq,List.length_range]
 have hq0:q=[]:=by
  have:=hq.length_eq
  rw [List.length_append,hl] at this
  exact List.eq_nil_of_length_eq_zero (by omega)
 subst hq0
 exact h3 [] hq
end range
end Go.Proofs.YtidpfkmbfgihlaaGreat
namespace Go.Proofs.YtidpfkmbfgihlaaGreat
open Go.RowKit

def H9d (L L':Loc):Prop:=∀ id,lk L id=lk L' id
theorem Sat.locEq {w:World} {β:H4} {L L':Loc} (h:Sat w β L) (e:H9d L L'):Sat w β L':=by
 have hS:∀ b i,Jt w β L b i→Jt w β L' b i:=fun b i hs=>⟨hs.lt,hs.seen,fun id o ho=>hs.kept id o (by rw [e]; exact ho)⟩
 exact⟨h.hid,fun id b h1=>h.bnd id b (by rw [e]; exact h1),fun id b j h1=>h.apart id b j (by rw [e]; exact h1),fun id id' b h1 h2=>h.inj id id' b (by rw [e]; exact h1) (by rw [e]; exact h2),
  fun id o ho=>(h.obj id o (by rw [e]; exact ho)).up hS (fun id o ho=>⟨by rw [← e]; exact ho,rfl⟩)⟩
theorem Step.locEq {w w':World} {β β':H4} {L L1 L':Loc} (h:Step w β L w' β' L1) (e:H9d L1 L'):Step w β L w' β' L' where
 os:=h.os
 tape:=h.tape
 output:=h.output
 size:=h.size
 hid:=h.hid
 stab:=fun b i hs=>by
  obtain⟨h1,h2⟩:=h.stab b i hs
  exact⟨⟨h1.lt,h1.seen,fun id o ho=>h1.kept id o (by rw [e]; exact ho)⟩,h2⟩
 far:=fun b hb hf=>by
  obtain⟨h1,h2⟩:=h.far b hb hf
  exact⟨h1,fun id hid=>h2 id (by rw [e]; exact hid)⟩
 box:=fun id t cs hi=>by obtain⟨h1,cs',h2⟩:=h.box id t cs hi; exact⟨h1,cs',by rw [← e]; exact h2⟩
 map:=fun id t cs hi=>by obtain⟨h1,cs',h2⟩:=h.map id t cs hi; exact⟨h1,cs',by rw [← e]; exact h2⟩
 iter:=fun id m n cs hi=>by obtain⟨h1,n',cs',h2⟩:=h.iter id m n cs hi; exact⟨h1,n',cs',by rw [← e]; exact h2⟩
 vec:=fun id t k ver xs hi=>by obtain⟨v,xs',h1,h2,h3⟩:=h.vec id t k ver xs hi; exact⟨v,xs',by rw [← e]; exact h1,h2,h3⟩
 spare:=fun id t k ver xs hi=>by obtain⟨v,xs',h1,h2,h3⟩:=h.spare id t k ver xs hi; exact⟨v,xs',by rw [← e]; exact h1,h2,h3⟩
theorem V.locEq {w:World} {β:H4} {L L':Loc} {u:AV} {v:Value} (h:V w β L u v) (e:H9d L L'):V w β L' u v:=
 h.up (fun b i hs=>⟨hs.lt,hs.seen,fun id o ho=>hs.kept id o (by rw [e]; exact ho)⟩) (fun id o ho=>⟨by rw [← e]; exact ho,rfl⟩)
theorem Gc0.locEq {P:Program} {N:Cfg} {ops:Array Oper} {o:Oper} {l:Fr} {L L1 L':Loc} {u:AV} (h:Gc0 P N ops o l L u L1) (e:H9d L1 L'):Gc0 P N ops o l L u L':=
 fun a w β K Q h1 h2 h3 h4=>h a w β K Q h1 h2 h3 (fun v w' β' k1 k2 k3=>h4 v w' β' (k1.locEq e) (k2.locEq e) (k3.locEq e))
def J76 (ks:List Nat):Loc→Bool
 | []=>true
 | (i,_)::r=>ks.contains i&&J76 ks r
def Z0f (L L':Loc):List Nat→Prop
 | []=>True
 | k::r=>lk L k=lk L' k∧Z0f L L' r
theorem J75 {ks:List Nat} {id:Nat} (h:id ∉ ks):∀ {L:Loc},J76 ks L=true→lk L id=none
 | [],_=>rfl
 | (i,o)::r,hk=>by
  simp only [J76,Bool.and_eq_true] at hk
  rw [Gh,if_neg (fun e=>h (by subst e; simpa using hk.1))]
  exact J75 h hk.2
theorem H9d.of {L L':Loc} (ks:List Nat) (h1:J76 ks L=true) (h2:J76 ks L'=true) (h3:Z0f L L' ks):H9d L L':=fun id=>by
 by_cases h:id∈ks
 ·clear h1 h2
  induction ks with
  | nil=>cases h
  | cons k r ih=>
   rcases List.mem_cons.1 h with e | h
   ·rw [e]; exact h3.1
   ·exact ih h3.2 h
 ·rw [J75 h h1,J75 h h2]

/-! ### The stages: which of the turning operations are done -/
def Q33 (ws:List Nat) (s:List Bool) (i:Nat):List Bool:=(ws.zip s).map fun p=>p.2||p.1==i
def Q27 (tb:List (List Bool×Loc)) (s:List Bool):Option Loc:=(tb.find? fun p=>p.1==s).map (·.2)
def H4f (P:Program) (N:Cfg) (ops:Array Oper) (ws:List Nat) (tb:List (List Bool×Loc)) (i:Nat) (o:Oper) (l:Fr) (u:AV) (s:List Bool):Prop:=
 ∃ L L1 L',Q27 tb s=some L∧Q27 tb (Q33 ws s i)=some L'∧Gc0 P N ops o l L u L1∧H9d L1 L'
theorem H4f.ro {P:Program} {N:Cfg} {ops:Array Oper} {ws:List Nat} {tb:List (List Bool×Loc)} {i:Nat} {o:Oper} {l:Fr} {u:AV} {s:List Bool} {L:Loc} (h1:Q27 tb s=some L) (h2:Q27 tb (Q33 ws s i)=some L) (h:Gc0 P N ops o l L u L):H4f P N ops ws tb i o l u s:=⟨L,L,L,h1,h2,h,fun _=>rfl⟩
theorem H4f.w {P:Program} {N:Cfg} {ops:Array Oper} {ws:List Nat} {tb:List (List Bool×Loc)} {i:Nat} {o:Oper} {l:Fr} {u:AV} {s:List Bool} {L L1 L':Loc} (ks:List Nat) (h1:Q27 tb s=some L) (h2:Q27 tb (Q33 ws s i)=some L') (h:Gc0 P N ops o l L u L1) (k1:J76 ks L1=true) (k2:J76 ks L'=true) (k3:Z0f L1 L' ks):H4f P N ops ws tb i o l u s:=⟨L,L1,L',h1,h2,h,H9d.of ks k1 k2 k3⟩

section pre
variable {P:Program} {N:Cfg} {ops:Array Oper} {ws:List Nat} {sts:List (List (List Bool))} {tb:List (List Bool×Loc)} {i:Nat} {o:Oper} {r:List Oper} {l:Fr} {K:Fr→Prop} {u:AV}
end pre

end Go.Proofs.YtidpfkmbfgihlaaGreat
