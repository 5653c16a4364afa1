/-
 Slices of the call's own: frozen,described anew,lent to calls that only read; calls on local objects.
-/
import Derived.Test.YtidpfkmbfgihlaaGreatVec
namespace Go.Proofs.YtidpfkmbfgihlaaGreat
open Go.RowKit

section freeze
variable {P:Program} {N:Cfg} {Q:Post} {l l':Fr} {L L':Loc}

theorem V.vfreeze {w:World} {β:H4} {i ver n t k:Nat} {xs:List AV} {v:Value} (hsat:Sat w β L) (hi:lk L i=some (.vec t k ver xs)) (hdr:J81 L L') (hi':lk L' i=none) (h:V w β L (.vec i ver k n) v):V w β L' (.list k xs) v:=by
 obtain⟨rfl,hk,h⟩:=G60 hsat hi h
 rcases h with ⟨rfl,rfl,_⟩ | ⟨b,cap,vs,rfl,hb,h1,h2,h3,h4,h5⟩
 ·exact .data (.nil (Nat.zero_le _))
 ·have hlt:∀ j,j < (flat xs).length→j < vs.size:=fun j hj=>by
   rw [J1 hk] at hj
   have:=Nat.mul_le_mul_right k h1
   omega
  refine .data (.list (fun j=>vs.getD j undef) h1 h2 hk (fun j hj=>⟨⟨(Array.getElem?_eq_some_iff.1 h3).1,hsat.apart i b _ (by rw [hi]; rfl) hb,fun id o ho hb'=>?_⟩,?_⟩) (fun j u hu=>?_))
  ·obtain⟨o0,ho0,_⟩:=hdr.like id o ho
   have:=hsat.inj i id b (by rw [hi]; rfl) (by rw [ho0]; rfl) hb hb'
   subst this
   rw [hi'] at ho; cases ho
  ·have:=hlt j hj
   simp [World.cell?,h3,this]
  ·have hj:=(List.getElem?_eq_some_iff.1 hu).1
   have:=hlt j hj
   refine(h5 j u _ hu ?_).mono fun b i hs=>⟨hdr.stab hs,rfl⟩
   simp [this]

inductive Ydc (i ver k:Nat) (xs:List AV) (ok:Nat→Bool):AV→AV→Prop
 | conv {u u':AV} (h:Conv ok u u'):Ydc i ver k xs ok u u'
 | vec {n:Nat}:Ydc i ver k xs ok (.vec i ver k n) (.list k xs)
def Qbf (i ver k:Nat) (xs:List AV) (ok:Nat→Bool) (l:Fr):Fr→Prop
 | []=>True
 | (t,u)::r=>Ydc i ver k xs ok (look l t) u∧Qbf i ver k xs ok l r
theorem Qbf.get {i ver k:Nat} {xs:List AV} {ok:Nat→Bool} {l:Fr}:∀ {l':Fr},Qbf i ver k xs ok l l'→∀ t,Ydc i ver k xs ok (look l t) (look l' t)
 | [],_,t=>.conv .junk
 | (s,u)::r,h,t=>by
  simp only [look]
  cases hb:Nat.beq s t with
  | true=>have:=Nat.eq_of_beq_eq_true hb; subst this; exact h.1
  | false=>exact Qbf.get h.2 t

theorem Ri.vfreeze {w0 w:World} {β0 β:H4} {L0:Loc} {a:Act} (hs:Ri N w0 β0 L0 a w β l L) (i:Nat) {t ver k:Nat} {xs:List AV} (hi:lk L i=some (.vec t k ver xs))
  (hi':lk L' i=none) (hl:H02 (fun j=>(lk L' j).isSome) L L') (hb:allIn L' N.base=true) (hf:Qbf i ver k xs (fun j=>(lk L' j).isSome) l l'):Ri N w0 β0 L0 a w β l' L':=by
 have hfit:Fits N.base l L [] L':=⟨trivial,hl,hb⟩
 have h1:=hs.fits hfit
 refine⟨h1.sat,h1.step,⟨fun t'=>?_⟩,h1.size,h1.base,h1.defers⟩
 have hv:=hs.frame.tmp t'
 generalize hu:look l t'=u at hv
 have hz:=hf.get t'
 rw [hu] at hz
 generalize look l' t'=u' at hz
 cases hz with
 | conv hc=>exact hv.conv hfit.drop hc
 | vec=>exact hv.vfreeze hs.sat hi hfit.drop hi'
end freeze

def AV.noRef:AV→Bool
 | .junk=>true
 | .sc _=>true
 | .agg cs=>noRefL cs
 | .tup cs=>noRefL cs
 | .list _ []=>true
 | _=>false
where noRefL:List AV→Bool
 | []=>true
 | x::r=>x.noRef&&noRefL r
theorem Gd1:∀ {cs:List AV},AV.noRef.noRefL cs=true→∀ u∈cs,u.noRef=true
 | [],_,u,hu=>by cases hu
 | x::r,h,u,hu=>by
  simp only [AV.noRef.noRefL,Bool.and_eq_true] at h
  rcases List.mem_cons.1 hu with rfl | hu
  ·exact h.1
  ·exact Gd1 h.2 u hu
theorem D.noRef {w w':World} {S S':Nat→Nat→Prop} {u:AV} {v:Value} (h:D w S u v):u.noRef=true→D w' S' u v:=by
 induction h with
 | junk=>exact fun _=>.junk
 | sc=>exact fun _=>.sc
 | agg hl _ ih=>exact fun hr=>.agg hl fun j u v hu hv=>ih j u v hu hv (Gd1 (by simpa [AV.noRef] using hr) u (List.mem_of_getElem? hu))
 | tup hl _ ih=>exact fun hr=>.tup hl fun j u v hu hv=>ih j u v hu hv (Gd1 (by simpa [AV.noRef] using hr) u (List.mem_of_getElem? hu))
 | nil h=>exact fun _=>.nil h
 | @list k b off cap xs vals hcap hm _ _ _ _=>
  intro hr
  cases xs with
  | nil=>exact .nil hm
  | cons x r=>simp [AV.noRef] at hr
 | lnil=>exact fun hr=>by simp [AV.noRef] at hr
 | lst=>exact fun hr=>by simp [AV.noRef] at hr
 | dptr=>exact fun hr=>by simp [AV.noRef] at hr
 | fn=>exact fun hr=>by simp [AV.noRef] at hr
 | bfn=>exact fun hr=>by simp [AV.noRef] at hr
 | opt=>exact fun hr=>by simp [AV.noRef] at hr
 | dmap=>exact fun hr=>by simp [AV.noRef] at hr
 | bag=>exact fun hr=>by simp [AV.noRef] at hr

section calls
variable {P:Program} {o:Oper} {l:Fr} {L:Loc} {u:AV}

inductive G82 (L:Loc):AV→AV→Prop
 | data {u u':AV} (h:u.plain=u') (hd:u'.isData=true):G82 L u u'
 | vec {i ver k n t:Nat} {xs:List AV} (hi:lk L i=some (.vec t k ver xs)):G82 L (.vec i ver k n) (.list k xs)
 | agg {cs ds:List AV} (hl:ds.length=cs.length) (h:∀ (j:Nat) u u',cs[j]? = some u→ds[j]? = some u'→G82 L u u'):G82 L (.agg cs) (.agg ds)
def H9b (L:Loc):List AV→List AV→Prop
 | [],[]=>True
 | u::r,u'::s=>G82 L u u'∧H9b L r s
 | _,_=>False
theorem H9b.len {L:Loc}:∀ {cs ds:List AV},H9b L cs ds→ds.length=cs.length
 | [],[],_=>rfl
 | _::_,_::_,h=>by simp [H9b.len h.2]
theorem H9b.get {L:Loc}:∀ {cs ds:List AV},H9b L cs ds→∀ (j:Nat) u u',cs[j]? = some u→ds[j]? = some u'→G82 L u u'
 | _::_,_::_,h,0,_,_,h1,h2=>by simp at h1 h2; subst h1 h2; exact h.1
 | _::_,_::_,h,j+1,u,u',h1,h2=>H9b.get h.2 j u u' (by simpa using h1) (by simpa using h2)
 | [],[],_,j,_,_,h1,_=>by simp at h1
def H9c (l:Fr) (L:Loc):List Operand→List AV→Prop
 | [],[]=>True
 | x::r,u::s=>G82 L (ev l x) u∧H9c l L r s
 | _,_=>False
theorem H9c.length {l:Fr} {L:Loc}:∀ {xs:List Operand} {us:List AV},H9c l L xs us→xs.length=us.length
 | [],[],_=>rfl
 | _::r,_::s,h=>by simp [H9c.length h.2]
theorem H9c.get {l:Fr} {L:Loc}:∀ {xs:List Operand} {us:List AV},H9c l L xs us→∀ {j:Nat} {x:Operand} {u:AV},xs[j]? = some x→us[j]? = some u→G82 L (ev l x) u
 | [],[],_,j,x,u,h,_=>by simp at h
 | x::r,u::s,h,0,_,_,hx,hu=>by simp at hx hu; subst hx hu; exact h.1
 | x::r,u::s,h,j+1,_,_,hx,hu=>by simp at hx hu; exact H9c.get h.2 hx hu

theorem G82.D {w:World} {β:H4} {u u':AV} (hsat:Sat w β L) (h:G82 L u u'):∀ {v:Value},V w β L u v→D w (fun b _=>b < w.heap.size) u' v:=by
 induction h with
 | agg hl _ ih=>
  intro v hv
  obtain⟨vs,rfl,hl2,hvs⟩:=hv.inv_agg
  refine .agg (hl2.trans hl.symm) fun j u' x hu' hx=>?_
  have hj:j < _:=(List.getElem?_eq_some_iff.1 hu').1
  exact ih j _ u' (List.getElem?_eq_getElem (hl ▸ hj)) hu' (hvs j _ x (List.getElem?_eq_getElem (hl ▸ hj)) hx)
 | data h hd=>
  intro v hv
  subst h
  exact(hv.plain.toD hd).mono fun b i hs=>⟨hs.lt,rfl⟩
 | @vec i ver k n t xs hi=>
  intro v hv
  have hd:J81 L (L.filter fun p=>!Nat.beq p.1 i):=by
   refine⟨fun id o' h=>?_⟩
   have:lk L id=some o':=by
    clear hsat hi hv
    induction L with
    | nil=>simp [lk] at h
    | cons p r ih=>
     obtain⟨q,ob⟩:=p
     rw [List.filter_cons] at h
     by_cases e:(!Nat.beq (q,ob).1 i)=true
     ·rw [if_pos e,Gh] at h
      rw [Gh]
      by_cases e2:q=id
      ·rw [if_pos e2] at h ⊢; exact h
      ·rw [if_neg e2] at h ⊢; exact ih h
     ·rw [if_neg e] at h
      rw [Gh]
      by_cases e2:q=id
      ·exfalso
       subst e2
       have hqi:q=i:=by
        cases hb:Nat.beq q i with
        | true=>exact Nat.eq_of_beq_eq_true hb
        | false=>exact absurd (by simp [hb]) e
       subst hqi
       have hno:∀ r:Loc,lk (r.filter fun p=>!Nat.beq p.1 q) q=none:=by
        intro r
        induction r with
        | nil=>rfl
        | cons p r ih2=>
         rw [List.filter_cons]
         by_cases e3:(!Nat.beq p.1 q)=true
         ·rw [if_pos e3,Gh,if_neg (fun e4=>by rw [e4] at e3; simp at e3)]; exact ih2
         ·rw [if_neg e3]; exact ih2
       rw [hno] at h; cases h
      ·rw [if_neg e2]; exact ih h
   exact⟨o',this,by cases o' <;> simp [Jh.like]⟩
  have hn:lk (L.filter fun p=>!Nat.beq p.1 i) i=none:=by
   clear hsat hi hv hd
   induction L with
   | nil=>rfl
   | cons p r ih2=>
    rw [List.filter_cons]
    by_cases e3:(!Nat.beq p.1 i)=true
    ·rw [if_pos e3,Gh,if_neg (fun e4=>by rw [e4] at e3; simp at e3)]; exact ih2
    ·rw [if_neg e3]; exact ih2
  exact((hv.vfreeze hsat hi hd hn).inv_list).mono fun b i hs=>⟨hs.lt,rfl⟩

theorem Jd7 {P:Program} {f:FuncId} {args:List AV} {R:AV→Prop} (hc:Pure P f args R) {w:World} {β:H4} (hsat:Sat w β L) {vs:Array Value} (hl:vs.size=args.length)
  (hv:∀ (j:Nat) u v,args[j]? = some u→vs[j]? = some v→D w (fun b _=>b < w.heap.size) u v) (hr:∀ r,R r→r.noRef=true) :
  Calls P f vs w fun e w'=>∃ v r,e=.returned v∧Sat w' β L∧Step w β L w' β L∧V w' β L r v∧R r:=by
 have hmono:∀ b i:Nat,b < w.heap.size→Jp w ⟨fun _=>none,fun _ _=>False⟩ [] b i:=fun b i hs=>⟨hs,fun h=>h,fun id o h=>by simp [lk] at h⟩
 refine(hc w ⟨fun _=>none,fun _ _=>False⟩ vs ⟨fun b i h=>h.elim,fun id b h=>by simp [lk] at h,fun id b j h=>by simp [lk] at h,fun id id' b h=>by simp [lk] at h,fun id o h=>by simp [lk] at h⟩ hl
  (fun j u v hu hv'=>.data ((hv j u v hu hv').mono fun b i hs=>⟨hmono b i hs,rfl⟩))).mono fun e w' h=>?_
 obtain⟨v,r,β',L',he,hsat',hst,hvr,rfl,hR⟩:=h
 have far:∀ b,b < w.heap.size→w'.heap[b]? = w.heap[b]? := fun b hb=>(hst.far b hb (fun id h=>by simp [lk] at h)).1
 have stab:∀ b i,Jp w β L b i→Jp w' β L b i:=fun b i hs=>⟨Nat.lt_of_lt_of_le hs.lt hst.size,hs.seen,hs.kept⟩
 have step:Step w β L w' β L:=⟨hst.os,hst.tape,hst.output,hst.size,fun _ _ _=>Iff.rfl,fun b i hs=>⟨stab b i hs,Q2 (w:=w) (far b hs.lt)⟩,fun b hb hf=>⟨far b hb,hf⟩,
  fun _ _ cs h=>⟨rfl,cs,h⟩,fun _ _ cs h=>⟨rfl,cs,h⟩,fun _ _ n cs h=>⟨rfl,n,cs,h⟩,fun id _ _ ver xs h=>⟨ver,xs,h,Nat.le_refl _,fun _=>⟨rfl,rfl,fun b hb=>G0f (far b (hsat.bnd id b (by rw [h]; rfl) hb))⟩⟩,fun id _ _ ver hw h=>⟨ver,hw,h,Nat.le_refl _,fun _=>⟨rfl,rfl,fun b hb=>far b (hsat.bnd id b (by rw [h]; rfl) hb)⟩⟩⟩
 exact⟨v,r,he,⟨fun b i h=>Nat.lt_of_lt_of_le (hsat.hid b i h) hst.size,fun id b h1 h2=>Nat.lt_of_lt_of_le (hsat.bnd id b h1 h2) hst.size,hsat.apart,hsat.inj,fun id o h=>(hsat.obj id o h).step step (fun b hb=>far b (hsat.bnd id b (by rw [h]; rfl) hb))⟩,step,.data (hvr.data_of_nil.noRef (hr r hR)),hR⟩

def Hff (l:Fr) (L0:Loc):List Operand→List AV→Prop
 | [],[]=>True
 | x::r,u::s=>(ev l x=u∨(ev l x).plain=u)∧u.refs (inL L0)=true∧Hff l L0 r s
 | _,_=>False
theorem Hff.length {l:Fr} {L0:Loc}:∀ {xs:List Operand} {us:List AV},Hff l L0 xs us→xs.length=us.length
 | [],[],_=>rfl
 | _::r,_::s,h=>by simp [Hff.length h.2.2]
theorem Hff.get {l:Fr} {L0:Loc}:∀ {xs:List Operand} {us:List AV},Hff l L0 xs us→∀ {j:Nat} {x:Operand} {u:AV},xs[j]? = some x→us[j]? = some u→(ev l x=u∨(ev l x).plain=u)∧u.refs (inL L0)=true
 | [],[],_,j,x,u,h,_=>by simp at h
 | x::r,u::s,h,0,_,_,hx,hu=>by simp at hx hu; subst hx hu; exact⟨h.1,h.2.1⟩
 | x::r,u::s,h,j+1,_,_,hx,hu=>by simp at hx hu; exact Hff.get h.2.2 hx hu

def Qd3 (L:Loc):Loc→Prop
 | []=>True
 | (i,ob)::r=>lk L i=some ob∧Qd3 L r
theorem Qd3.get {L:Loc}:∀ {L0:Loc},Qd3 L L0→∀ {id:Nat} {ob:Jh},lk L0 id=some ob→lk L id=some ob
 | [],_,id,ob,h=>by simp [lk] at h
 | (i,o')::r,hs,id,ob,h=>by
  rw [Gh] at h
  by_cases e:i=id
  ·subst e; rw [if_pos rfl] at h; cases h; exact hs.1
  ·rw [if_neg e] at h; exact Qd3.get hs.2 h
def closedIn (ok:Nat→Bool):Loc→Bool
 | []=>true
 | (_,ob)::r=>ob.refs ok&&closedIn ok r
theorem closedIn.get {ok:Nat→Bool}:∀ {L0:Loc},closedIn ok L0=true→∀ {id:Nat} {ob:Jh},lk L0 id=some ob→ob.refs ok=true
 | [],_,id,ob,h=>by simp [lk] at h
 | (i,o')::r,hs,id,ob,h=>by
  simp only [closedIn,Bool.and_eq_true] at hs
  rw [Gh] at h
  by_cases e:i=id
  ·subst e; rw [if_pos rfl] at h; cases h; exact hs.1
  ·rw [if_neg e] at h; exact closedIn.get hs.2 h
def H42 (L L0:Loc):Loc→Bool
 | []=>true
 | (i,_)::r=>(inL L0 i||!inL L i)&&H42 L L0 r
theorem H42.get {L L0:Loc}:∀ {Lr:Loc},H42 L L0 Lr=true→∀ {id:Nat},inL Lr id=true→inL L0 id=true∨lk L id=none
 | [],_,id,h=>by simp [inL,lk] at h
 | (i,_)::r,hs,id,h=>by
  simp only [H42,Bool.and_eq_true,Bool.or_eq_true,Bool.not_eq_true'] at hs
  rw [inL,Gh] at h
  by_cases e:i=id
  ·subst e
   exact hs.1.imp id (fun h=>by simpa [inL] using h)
  ·rw [if_neg e] at h; exact H42.get hs.2 h

theorem R04 {f:FuncId} {vs:Array Value} {args:List AV} {L0 Lr L'':Loc} {a:Act} {w:World} {β:H4} {K:Act→World→Prop} {Q:Exit→Act→World→Prop} (hc:Jg P f args L0 (fun r L'=>r=u∧L'=Lr)) (hsat:Sat w β L)
  (hsub:Qd3 L L0) (hcl:closedIn (inL L0) L0=true) (hnew:H42 L L0 Lr=true) (hL:Lr++Had L L0=L'') (hl:vs.size=args.length)
  (hv:∀ (j:Nat) u v,args[j]? = some u→vs[j]? = some v→V w β L u v∧u.refs (inL L0)=true)
  (hK:∀ u' L' v w' β',Is u L'' u' L'→Sat w' β' L'→Step w β L w' β' L'→V w' β' L' u' v→K (a.put o.dst v) w') :
  Calls P f vs w fun
   | .returned v,w''=>K (a.put o.dst v) w''
   | .panicked chain,w''=>Q (.panic chain) a w''
   | .outgrown,_=>LetsOut Q:=by
 refine(Q90 hc hsat (fun id ob h=>hsub.get h) (fun id ob h=>closedIn.get hcl h) hl hv (fun r L' hR id h=>by rw [hR.2] at h; exact H42.get hnew h)).mono fun e w' h=>?_
 obtain⟨v,r,β',L',rfl,⟨rfl,rfl⟩,h1,h2,h3⟩:=h
 unfold H3c at h1 h2 h3
 rw [hL] at h1 h2 h3
 exact hK _ _ v w' _ ⟨rfl,rfl⟩ h1 h2 h3

theorem Rt {f:FuncId} {xs:List Operand} {args:List AV} {ts:Array TypeId} {L0 Lr L'':Loc} (ho:o.op=.call { callee:=.value (.func f),args:=xs.toArray,argTypes:=ts }) (hc:Jg P f args L0 (fun r L'=>r=u∧L'=Lr)) (hB:H7 P f=true) (ha:Hff l L0 xs args)
  (hsub:Qd3 L L0) (hcl:closedIn (inL L0) L0=true) (hnew:H42 L L0 Lr=true) (hL:Lr++Had L L0=L''):H1 P o l L (Is u L''):=by
 intro a w β K Q hsat hf hK
 have hr:(execOp a.eval o).run P w=.ok (.enter f (xs.toArray.map a.eval)) w:=by
  simp [execOp,ho,resolve,Act.eval,Deferred.ofValue,invoke,H7.out hB]
 unfold Oper.wp
 rw [hr]
 refine R04 hc hsat hsub hcl hnew hL (by simp [ha.length]) (fun j u v hu hv=>?_) hK
 simp only [Array.getElem?_map,List.getElem?_toArray,Option.map_eq_some_iff] at hv
 obtain⟨x,hx,rfl⟩:=hv
 obtain⟨h1,h2⟩:=ha.get hx hu
 refine⟨?_,h2⟩
 rcases h1 with h1 | h1
 ·rw [← h1]; exact hf.ev x
 ·rw [← h1]; exact(hf.ev x).plain

end calls
end Go.Proofs.YtidpfkmbfgihlaaGreat
