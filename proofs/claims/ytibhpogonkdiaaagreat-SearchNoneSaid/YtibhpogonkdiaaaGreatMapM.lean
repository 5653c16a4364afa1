/-
 Slices of the call's own: Slices of typed elements that the call may write in place. Maps of typed keys and elements:
-/
import Derived.Test.YtibhpogonkdiaaaGreatVec
set_option linter.unusedVariables false
set_option linter.unusedSimpArgs false
set_option linter.unnecessarySimpa false
namespace Go.Proofs.YtibhpogonkdiaaaGreat
open Go.RowKit

section freeze
variable {P:Program} {N:Cfg} {Q:Post} {l l':Fr} {L L':Loc}

theorem V.vfreeze {w:World} {β:Gu} {i ver n t k:Nat} {xs:List AV} {v:Value} (h0:Sat w β L) (hi:lk L i=some (.vec t k ver xs)) (h6:Hc2 L L') (h8:lk L' i=none) (h:V w β L (.vec i ver k n) v):V w β L' (.list k xs) v:=by
 obtain⟨rfl,hk,h⟩:=G37 h0 hi h
 rcases h with ⟨rfl,rfl,_⟩ | ⟨b,cap,vs,rfl,hb,h1,h2,h3,h4,h5⟩
 ·exact .data (.nil (Nat.zero_le _))
 ·have h7:∀ j,j < (flat xs).length→j < vs.size:=fun j hj=>by
   rw [J0 hk] at hj
   have:=Nat.mul_le_mul_right k h1
   omega
  refine .data (.list (fun j=>vs.getD j undef) h1 h2 hk (fun j hj=>⟨⟨(Kk h3).1,h0.apart i b _ (by rw [hi]; rfl) hb,fun id o ho h9=>?_⟩,?_⟩) (fun j u hu=>?_))
  ·obtain⟨o0,a0,_⟩:=h6.like id o ho
   have:=h0.inj i id b (by rw [hi]; rfl) (by rw [a0]; rfl) hb h9
   subst this
   rw [h8] at ho; cases ho
  ·have:=h7 j hj
   simp [World.cell?,h3,this]
  ·have hj:=(Kw hu).1
   have:=h7 j hj
   refine(h5 j u _ hu ?_).mono fun b i hs=>⟨h6.stab hs,rfl⟩
   simp [this]

inductive Y25 (i ver k:Nat) (xs:List AV) (ok:Nat→Bool):AV→AV→Prop
 | conv {u u':AV} (h:Conv ok u u'):Y25 i ver k xs ok u u'
 | vec {n:Nat}:Y25 i ver k xs ok (.vec i ver k n) (.list k xs)
def Hd2 (i ver k:Nat) (xs:List AV) (ok:Nat→Bool) (l:Fr):Fr→Prop
 | []=>True
 | (t,u)::r=>Y25 i ver k xs ok (look l t) u∧Hd2 i ver k xs ok l r
theorem Hd2.get {i ver k:Nat} {xs:List AV} {ok:Nat→Bool} {l:Fr}:∀ {l':Fr},Hd2 i ver k xs ok l l'→∀ t,Y25 i ver k xs ok (look l t) (look l' t)
 | [],_,t=>.conv .junk
 | (s,u)::r,h,t=>by
  simp only [look]
  cases hb:Nat.beq s t with
  | true=>have:=Ko hb; subst this; exact h.1
  | false=>exact Hd2.get h.2 t

theorem R1.vfreeze {w0 w:World} {β0 β:Gu} {L0:Loc} {a:Act} (hs:R1 N w0 β0 L0 a w β l L) (i:Nat) {t ver k:Nat} {xs:List AV} (hi:lk L i=some (.vec t k ver xs))
  (h2:lk L' i=none) (hl:G53 (fun j=>(lk L' j).isSome) L L') (hb:allIn L' N.base=true) (hf:Hd2 i ver k xs (fun j=>(lk L' j).isSome) l l'):R1 N w0 β0 L0 a w β l' L':=by
 have h0:Fits N.base l L [] L':=⟨trivial,hl,hb⟩
 have h1:=hs.fits h0
 refine⟨h1.sat,h1.step,⟨fun t'=>?_⟩,h1.size,h1.base,h1.defers⟩
 have hv:=hs.frame.tmp t'
 generalize hu:look l t'=u at hv
 have hz:=hf.get t'
 rw [hu] at hz
 generalize look l' t'=u' at hz
 cases hz with
 | conv hc=>exact hv.conv h0.drop hc
 | vec=>exact hv.vfreeze hs.sat hi h0.drop h2
theorem H6d {c:Code} (l':Fr) (L':Loc) (i:Nat) {t ver k:Nat} {xs:List AV} (hi:lk L i=some (.vec t k ver xs)) (h0:lk L' i=none) (hl:G53 (fun j=>(lk L' j).isSome) L L') (hb:allIn L' N.base=true)
  (hf:Hd2 i ver k xs (fun j=>(lk L' j).isSome) l l') (hk:JC P N c Q l' L'):JC P N c Q l L:=fun n w0 β0 L0 a w β hs=>hk n w0 β0 L0 a w β (hs.vfreeze i hi h0 hl hb hf)
end freeze

def AV.noRef:AV→Bool
 | .junk=>true
 | .sc _=>true
 | .agg cs=>noRefL cs
 | .tup cs=>noRefL cs
 | .list _ []=>true
 | _=>false
where noRefL:List AV→Bool
 | []=>true
 | x::r=>x.noRef&&noRefL r
theorem H14:∀ {cs:List AV},AV.noRef.noRefL cs=true→∀ u∈cs,u.noRef=true
 | [],_,u,hu=>by cases hu
 | x::r,h,u,hu=>by
  simp only [AV.noRef.noRefL,Ma] at h
  rcases Mg.1 hu with rfl | hu
  ·exact h.1
  ·exact H14 h.2 u hu
theorem D.noRef {w w':World} {S S':Nat→Nat→Prop} {u:AV} {v:Value} (h:D w S u v):u.noRef=true→D w' S' u v:=by
 induction h with
 | junk=>exact fun _=>.junk
 | sc=>exact fun _=>.sc
 | agg hl _ ih=>exact fun hr=>.agg hl fun j u v hu hv=>ih j u v hu hv (H14 (by simpa [AV.noRef] using hr) u (Kz hu))
 | tup hl _ ih=>exact fun hr=>.tup hl fun j u v hu hv=>ih j u v hu hv (H14 (by simpa [AV.noRef] using hr) u (Kz hu))
 | nil h=>exact fun _=>.nil h
 | @list k b off cap xs vals h0 hm _ _ _ _=>
  intro hr
  cases xs with
  | nil=>exact .nil hm
  | cons x r=>simp [AV.noRef] at hr
 | lnil=>exact fun hr=>by simp [AV.noRef] at hr
 | lst=>exact fun hr=>by simp [AV.noRef] at hr
 | dptr=>exact fun hr=>by simp [AV.noRef] at hr
 | fn=>exact fun hr=>by simp [AV.noRef] at hr
 | bfn=>exact fun hr=>by simp [AV.noRef] at hr
 | opt=>exact fun hr=>by simp [AV.noRef] at hr
 | dmap=>exact fun hr=>by simp [AV.noRef] at hr
 | bag=>exact fun hr=>by simp [AV.noRef] at hr

section calls
variable {P:Program} {o:Oper} {l:Fr} {L:Loc} {u:AV}

inductive G83 (L:Loc):AV→AV→Prop
 | data {u u':AV} (h:u.plain=u') (hd:u'.isData=true):G83 L u u'
 | vec {i ver k n t:Nat} {xs:List AV} (hi:lk L i=some (.vec t k ver xs)):G83 L (.vec i ver k n) (.list k xs)
 | agg {cs ds:List AV} (hl:ds.length=cs.length) (h:∀ (j:Nat) u u',cs[j]? = some u→ds[j]? = some u'→G83 L u u'):G83 L (.agg cs) (.agg ds)
def H33 (L:Loc):List AV→List AV→Prop
 | [],[]=>True
 | u::r,u'::s=>G83 L u u'∧H33 L r s
 | _,_=>False
theorem H33.len {L:Loc}:∀ {cs ds:List AV},H33 L cs ds→ds.length=cs.length
 | [],[],_=>rfl
 | _::_,_::_,h=>by simp [H33.len h.2]
theorem H33.get {L:Loc}:∀ {cs ds:List AV},H33 L cs ds→∀ (j:Nat) u u',cs[j]? = some u→ds[j]? = some u'→G83 L u u'
 | _::_,_::_,h,0,_,_,h1,h2=>by simp at h1 h2; subst h1 h2; exact h.1
 | _::_,_::_,h,j+1,u,u',h1,h2=>H33.get h.2 j u u' (by simpa using h1) (by simpa using h2)
 | [],[],_,j,_,_,h1,_=>by simp at h1
def H34 (l:Fr) (L:Loc):List Operand→List AV→Prop
 | [],[]=>True
 | x::r,u::s=>G83 L (ev l x) u∧H34 l L r s
 | _,_=>False
theorem H34.length {l:Fr} {L:Loc}:∀ {xs:List Operand} {us:List AV},H34 l L xs us→xs.length=us.length
 | [],[],_=>rfl
 | _::r,_::s,h=>by simp [H34.length h.2]
theorem H34.get {l:Fr} {L:Loc}:∀ {xs:List Operand} {us:List AV},H34 l L xs us→∀ {j:Nat} {x:Operand} {u:AV},xs[j]? = some x→us[j]? = some u→G83 L (ev l x) u
 | [],[],_,j,x,u,h,_=>by simp at h
 | x::r,u::s,h,0,_,_,hx,hu=>by simp at hx hu; subst hx hu; exact h.1
 | x::r,u::s,h,j+1,_,_,hx,hu=>by simp at hx hu; exact H34.get h.2 hx hu

theorem G83.D {w:World} {β:Gu} {u u':AV} (h0:Sat w β L) (h:G83 L u u'):∀ {v:Value},V w β L u v→D w (fun b _=>b < w.heap.size) u' v:=by
 induction h with
 | agg hl _ ih=>
  intro v hv
  obtain⟨vs,rfl,h2,h3⟩:=hv.inv_agg
  refine .agg (h2.trans hl.symm) fun j u' x h1 hx=>?_
  have hj:j < _:=(Kw h1).1
  exact ih j _ u' (Kx (hl ▸ hj)) h1 (h3 j _ x (Kx (hl ▸ hj)) hx)
 | data h hd=>
  intro v hv
  subst h
  exact(hv.plain.toD hd).mono fun b i hs=>⟨hs.lt,rfl⟩
 | @vec i ver k n t xs hi=>
  intro v hv
  have hd:Hc2 L (L.filter fun p=>!Nat.beq p.1 i):=by
   refine⟨fun id o' h=>?_⟩
   have:lk L id=some o':=by
    clear h0 hi hv
    induction L with
    | nil=>simp [lk] at h
    | cons p r ih=>
     obtain⟨q,ob⟩:=p
     rw [List.filter_cons] at h
     by_cases e:(!Nat.beq (q,ob).1 i)=true
     ·rw [if_pos e,Gd] at h
      rw [Gd]
      by_cases e2:q=id
      ·rw [if_pos e2] at h ⊢; exact h
      ·rw [if_neg e2] at h ⊢; exact ih h
     ·rw [if_neg e] at h
      rw [Gd]
      by_cases e2:q=id
      ·exfalso
       subst e2
       have h4:q=i:=by
        cases hb:Nat.beq q i with
        | true=>exact Ko hb
        | false=>exact absurd (by simp [hb]) e
       subst h4
       have h5:∀ r:Loc,lk (r.filter fun p=>!Nat.beq p.1 q) q=none:=by
        intro r
        induction r with
        | nil=>rfl
        | cons p r ih2=>
         rw [List.filter_cons]
         by_cases e3:(!Nat.beq p.1 q)=true
         ·rw [if_pos e3,Gd,if_neg (fun e4=>by rw [e4] at e3; simp at e3)]; exact ih2
         ·rw [if_neg e3]; exact ih2
       rw [h5] at h; cases h
      ·rw [if_neg e2]; exact ih h
   exact⟨o',this,by cases o' <;> simp [Je.like]⟩
  have hn:lk (L.filter fun p=>!Nat.beq p.1 i) i=none:=by
   clear h0 hi hv hd
   induction L with
   | nil=>rfl
   | cons p r ih2=>
    rw [List.filter_cons]
    by_cases e3:(!Nat.beq p.1 i)=true
    ·rw [if_pos e3,Gd,if_neg (fun e4=>by rw [e4] at e3; simp at e3)]; exact ih2
    ·rw [if_neg e3]; exact ih2
  exact((hv.vfreeze h0 hi hd hn).inv_list).mono fun b i hs=>⟨hs.lt,rfl⟩

theorem Q33 {P:Program} {f:FuncId} {args:List AV} {R:AV→Prop} (hc:Pure P f args R) {w:World} {β:Gu} (h0:Sat w β L) {vs:Array Value} (hl:vs.size=args.length)
  (hv:∀ (j:Nat) u v,args[j]? = some u→vs[j]? = some v→D w (fun b _=>b < w.heap.size) u v) (hr:∀ r,R r→r.noRef=true) :
  Calls P f vs w fun e w'=>∃ v r,e=.returned v∧Sat w' β L∧Step w β L w' β L∧V w' β L r v∧R r:=by
 have h4:∀ b i:Nat,b < w.heap.size→Hv w ⟨fun _=>none,fun _ _=>False⟩ [] b i:=fun b i hs=>⟨hs,fun h=>h,fun id o h=>by simp [lk] at h⟩
 refine(hc w ⟨fun _=>none,fun _ _=>False⟩ vs ⟨fun b i h=>h.elim,fun id b h=>by simp [lk] at h,fun id b j h=>by simp [lk] at h,fun id id' b h=>by simp [lk] at h,fun id o h=>by simp [lk] at h⟩ hl
  (fun j u v hu h5=>.data ((hv j u v hu h5).mono fun b i hs=>⟨h4 b i hs,rfl⟩))).mono fun e w' h=>?_
 obtain⟨v,r,β',L',he,h7,h3,h6,rfl,hR⟩:=h
 have far:∀ b,b < w.heap.size→w'.heap[b]? = w.heap[b]? := fun b hb=>(h3.far b hb (fun id h=>by simp [lk] at h)).1
 have stab:∀ b i,Hv w β L b i→Hv w' β L b i:=fun b i hs=>⟨Km hs.lt h3.size,hs.seen,hs.kept⟩
 have step:Step w β L w' β L:=⟨h3.os,h3.tape,h3.output,h3.size,fun _ _ _=>Iff.rfl,fun b i hs=>⟨stab b i hs,Jh (w:=w) (far b hs.lt)⟩,fun b hb hf=>⟨far b hb,hf⟩,
  fun _ _ cs h=>⟨rfl,cs,h⟩,fun _ _ cs h=>⟨rfl,cs,h⟩,fun _ _ n cs h=>⟨rfl,n,cs,h⟩,fun id _ _ ver xs h=>⟨ver,xs,h,M1,fun _=>⟨rfl,rfl,fun b hb=>G03 (far b (h0.bnd id b (by rw [h]; rfl) hb))⟩⟩,fun id _ _ ver hw h=>⟨ver,hw,h,M1,fun _=>⟨rfl,rfl,fun b hb=>far b (h0.bnd id b (by rw [h]; rfl) hb)⟩⟩⟩
 exact⟨v,r,he,⟨fun b i h=>Km (h0.hid b i h) h3.size,fun id b h1 h2=>Km (h0.bnd id b h1 h2) h3.size,h0.apart,h0.inj,fun id o h=>(h0.obj id o h).step step (fun b hb=>far b (h0.bnd id b (by rw [h]; rfl) hb))⟩,step,.data (h6.data_of_nil.noRef (hr r hR)),hR⟩

theorem Jfa {f:FuncId} {xs:List Operand} {args:List AV} {ts:Array TypeId} (ho:o.op=.call { callee:=.value (.func f),args:=xs.toArray,argTypes:=ts }) (hc:Pure P f args (·=u)) (hB:Hh P f=true) (ha:H34 l L xs args) (hu:u.noRef=true):Gz P o l L (Is u L):=by
 intro a w β K Q h0 hf hK
 have hr:(execOp a.eval o).run P w=.ok (.enter f (xs.toArray.map a.eval)) w:=by
  simp [execOp,ho,resolve,Act.eval,Deferred.ofValue,invoke,Hh.out hB]
 unfold Oper.wp
 rw [hr]
 show Calls P f _ w _
 refine(Q33 hc h0 (vs:=xs.toArray.map a.eval) (by simp [ha.length]) (fun j u v hu hv=>?_) (fun r hr=>by rw [hr]; exact hu)).mono fun e w' h=>?_
 ·simp only [Array.getElem?_map,List.getElem?_toArray,Option.map_eq_some_iff] at hv
  obtain⟨x,hx,rfl⟩:=hv
  exact(ha.get hx hu).D h0 (hf.ev x)
 ·obtain⟨v,r,rfl,h1,h2,h3,rfl⟩:=h
  exact hK _ L v w' β ⟨rfl,rfl⟩ h1 h2 h3

def Ha8 (l:Fr) (L0:Loc):List Operand→List AV→Prop
 | [],[]=>True
 | x::r,u::s=>(ev l x=u∨(ev l x).plain=u)∧u.refs (inL L0)=true∧Ha8 l L0 r s
 | _,_=>False
theorem Ha8.length {l:Fr} {L0:Loc}:∀ {xs:List Operand} {us:List AV},Ha8 l L0 xs us→xs.length=us.length
 | [],[],_=>rfl
 | _::r,_::s,h=>by simp [Ha8.length h.2.2]
theorem Ha8.get {l:Fr} {L0:Loc}:∀ {xs:List Operand} {us:List AV},Ha8 l L0 xs us→∀ {j:Nat} {x:Operand} {u:AV},xs[j]? = some x→us[j]? = some u→(ev l x=u∨(ev l x).plain=u)∧u.refs (inL L0)=true
 | [],[],_,j,x,u,h,_=>by simp at h
 | x::r,u::s,h,0,_,_,hx,hu=>by simp at hx hu; subst hx hu; exact⟨h.1,h.2.1⟩
 | x::r,u::s,h,j+1,_,_,hx,hu=>by simp at hx hu; exact Ha8.get h.2.2 hx hu

def Q04 (L:Loc):Loc→Prop
 | []=>True
 | (i,ob)::r=>lk L i=some ob∧Q04 L r
theorem Q04.get {L:Loc}:∀ {L0:Loc},Q04 L L0→∀ {id:Nat} {ob:Je},lk L0 id=some ob→lk L id=some ob
 | [],_,id,ob,h=>by simp [lk] at h
 | (i,o')::r,hs,id,ob,h=>by
  rw [Gd] at h
  by_cases e:i=id
  ·subst e; rw [if_pos rfl] at h; cases h; exact hs.1
  ·rw [if_neg e] at h; exact Q04.get hs.2 h
def closedIn (ok:Nat→Bool):Loc→Bool
 | []=>true
 | (_,ob)::r=>ob.refs ok&&closedIn ok r
theorem closedIn.get {ok:Nat→Bool}:∀ {L0:Loc},closedIn ok L0=true→∀ {id:Nat} {ob:Je},lk L0 id=some ob→ob.refs ok=true
 | [],_,id,ob,h=>by simp [lk] at h
 | (i,o')::r,hs,id,ob,h=>by
  simp only [closedIn,Ma] at hs
  rw [Gd] at h
  by_cases e:i=id
  ·subst e; rw [if_pos rfl] at h; cases h; exact hs.1
  ·rw [if_neg e] at h; exact closedIn.get hs.2 h
def Gee (L L0:Loc):Loc→Bool
 | []=>true
 | (i,_)::r=>(inL L0 i||!inL L i)&&Gee L L0 r
theorem Gee.get {L L0:Loc}:∀ {Lr:Loc},Gee L L0 Lr=true→∀ {id:Nat},inL Lr id=true→inL L0 id=true∨lk L id=none
 | [],_,id,h=>by simp [inL,lk] at h
 | (i,_)::r,hs,id,h=>by
  simp only [Gee,Ma,Mi,Bool.not_eq_true'] at hs
  rw [inL,Gd] at h
  by_cases e:i=id
  ·subst e
   exact hs.1.imp id (fun h=>by simpa [inL] using h)
  ·rw [if_neg e] at h; exact Gee.get hs.2 h

theorem Q3a {f:FuncId} {vs:Array Value} {args:List AV} {L0 Lr L'':Loc} {a:Act} {w:World} {β:Gu} {K:Act→World→Prop} {Q:Exit→Act→World→Prop} (hc:Q2 P f args L0 (fun r L'=>r=u∧L'=Lr)) (h0:Sat w β L)
  (h4:Q04 L L0) (h6:closedIn (inL L0) L0=true) (h5:Gee L L0 Lr=true) (hL:Lr++H47 L L0=L'') (hl:vs.size=args.length)
  (hv:∀ (j:Nat) u v,args[j]? = some u→vs[j]? = some v→V w β L u v∧u.refs (inL L0)=true)
  (hK:∀ u' L' v w' β',Is u L'' u' L'→Sat w' β' L'→Step w β L w' β' L'→V w' β' L' u' v→K (a.put o.dst v) w') :
  Calls P f vs w fun
   | .returned v,w''=>K (a.put o.dst v) w''
   | .panicked chain,w''=>Q (.panic chain) a w''
   | .outgrown,_=>LetsOut Q:=by
 refine(Jcd hc h0 (fun id ob h=>h4.get h) (fun id ob h=>closedIn.get h6 h) hl hv (fun r L' hR id h=>by rw [hR.2] at h; exact Gee.get h5 h)).mono fun e w' h=>?_
 obtain⟨v,r,β',L',rfl,⟨rfl,rfl⟩,h1,h2,h3⟩:=h
 unfold Ge8 at h1 h2 h3
 rw [hL] at h1 h2 h3
 exact hK _ _ v w' _ ⟨rfl,rfl⟩ h1 h2 h3

theorem H37 {f:FuncId} {xs:List Operand} {args:List AV} {ts:Array TypeId} {L0 Lr L'':Loc} (ho:o.op=.call { callee:=.value (.func f),args:=xs.toArray,argTypes:=ts }) (hc:Q2 P f args L0 (fun r L'=>r=u∧L'=Lr)) (hB:Hh P f=true) (ha:Ha8 l L0 xs args)
  (h0:Q04 L L0) (h5:closedIn (inL L0) L0=true) (h3:Gee L L0 Lr=true) (hL:Lr++H47 L L0=L''):Gz P o l L (Is u L''):=by
 intro a w β K Q h4 hf hK
 have hr:(execOp a.eval o).run P w=.ok (.enter f (xs.toArray.map a.eval)) w:=by
  simp [execOp,ho,resolve,Act.eval,Deferred.ofValue,invoke,Hh.out hB]
 unfold Oper.wp
 rw [hr]
 refine Q3a hc h4 h0 h5 h3 hL (by simp [ha.length]) (fun j u v hu hv=>?_) hK
 simp only [Array.getElem?_map,List.getElem?_toArray,Option.map_eq_some_iff] at hv
 obtain⟨x,hx,rfl⟩:=hv
 obtain⟨h1,h2⟩:=ha.get hx hu
 refine⟨?_,h2⟩
 rcases h1 with h1 | h1
 ·rw [← h1]; exact hf.ev x
 ·rw [← h1]; exact(hf.ev x).plain

theorem Gb7 {f:FuncId} {x:Operand} {xs:List Operand} {args caps:List AV} {ts:Array TypeId} {L0 Lr L'':Loc} (ho:o.op=.call { callee:=.value x,args:=xs.toArray,argTypes:=ts }) (hx:ev l x=.fn f caps) (hc:Q2 P f (args++caps) L0 (fun r L'=>r=u∧L'=Lr)) (hB:Hh P f=true) (ha:Ha8 l L0 xs args)
  (h7:Qn (inL L0) caps=true) (h3:Q04 L L0) (h8:closedIn (inL L0) L0=true) (h4:Gee L L0 Lr=true) (hL:Lr++H47 L L0=L''):Gz P o l L (Is u L''):=by
 intro a w β K Q h5 hf hK
 have h0:=hf.ev x
 rw [hx] at h0
 obtain⟨cs,he,h6,h9⟩:=h0.inv_fn
 have hr:(execOp a.eval o).run P w=.ok (.enter f (xs.toArray.map a.eval++cs)) w:=by
  simp [execOp,ho,resolve,he,Deferred.ofValue,invoke,Hh.out hB]
 unfold Oper.wp
 rw [hr]
 refine Q3a hc h5 h3 h8 h4 hL (by simp [ha.length,h6]) (fun j u v hu hv=>?_) hK
 rcases Kq j args.length with hj | hj
 ·rw [M3 hj] at hu
  rw [Array.getElem?_append_left (by simp [ha.length]; exact hj)] at hv
  simp only [Array.getElem?_map,List.getElem?_toArray,Option.map_eq_some_iff] at hv
  obtain⟨y,hy,rfl⟩:=hv
  obtain⟨h1,h2⟩:=ha.get hy hu
  refine⟨?_,h2⟩
  rcases h1 with h1 | h1
  ·rw [← h1]; exact hf.ev y
  ·rw [← h1]; exact(hf.ev y).plain
 ·rw [M2 hj] at hu
  rw [Array.getElem?_append_right (by simp [ha.length]; exact hj)] at hv
  simp only [Array.size_map,List.size_toArray,ha.length] at hv
  exact⟨h9 _ u v hu hv,Yt h7 u (Kz hu)⟩
end calls

section ops
variable {P:Program} {N:Cfg} {Q:Post} {o:Oper} {ops:Array Oper} {rest:List Oper} {l:Fr} {L L':Loc} {u:AV} {α:Type}

theorem G8e {s x:Operand} {T E k by_ i ver ver1 n kx:Nat} {f:α→AV} {xs ys:List α} (ho:o.op=.call { callee:=.builtin .append,args:=#[s,x],argTypes:=#[T,T] }) (hs:ev l s=.vec i ver k n) (hi:lk L i=some (.vec E k ver (xs.map f))) (hx:Q0 (ev l x)=some (kx,ys.map f))
  (hT:sliceB P T E k=true) (hE:Rw P E k by_=true) (hb:decide ((xs.length+ys.length)*by_≤140737488355328∧xs.length+ys.length≤maxLen)=true) (h0:∀ y,(f y).flatOk=true) (hk:kx=k∨ys=[]) (hv:ver < ver1) :
  Gz P o l L (Is (.vec i ver1 k (xs++ys).length) ((i,.vec E k ver1 ((xs++ys).map f))::L)):=by
 have h1:=Ks hb
 have h:=Rb7 (xs:=xs.map f) (ys:=ys.map f) ho hs hi hx hT hE (by simpa using h1.1) (by simpa using h1.2) (fun y hy=>by
  obtain⟨z,_,rfl⟩:=Me.1 hy
  exact h0 z) (hk.imp id (fun e=>by rw [e]; rfl)) hv
 simpa only [List.map_append,M8,Mc] using h
theorem Hbb {x ix:Operand} {T E k i ver n m:Nat} {kd:IntKind} {z:Int} {f:α→AV} {xs:List α} {y:α} (ho:o.op=.indexAddr T x ix) (hx:ev l x=.vec i ver k n) (h0:ev l ix=.sc (.int kd z)) (hi:lk L i=some (.vec E k ver (xs.map f))) (hT:sliceB P T E k=true) (hy:xs[m]? = some y) (hz:z=(m:Int)) :
  Gz P o l L (Is (.vptr i ver m 0) L):=Y6f ho hx h0 hi hT (by rw [Mc]; exact(Kw hy).1) hz
theorem Jf4 {x:Operand} {T i ver m fo t k:Nat} {f:α→AV} {xs:List α} {y:α} (hT:R9 P T=true) (ho:o.op=.load T x) (hx:ev l x=.vptr i ver m fo) (hi:lk L i=some (.vec t k ver (xs.map f))) (hy:xs[m]? = some y) (hu:(f y).cells[fo]? = some u) (h0:Nat.blt fo k=true):Gz P o l L (Is u L):=
 Y2b hT ho hx hi (Y10 hy) hu (by simpa [Nat.blt_eq] using h0)
theorem R2d {us cs:List AV} (h:us.length=cs.length):Hbc 0 us cs=some us:=by
 have key:∀ (us cs:List AV),us.length=cs.length→Hbc 0 us cs=some us:=by
  intro us
  induction us with
  | nil=>intro cs h; cases cs with
   | nil=>rfl
   | cons c r=>simp at h
  | cons a r ih=>intro cs h; cases cs with
   | nil=>simp at h
   | cons c s=>simp [Hbc,ih s (by simpa using h)]
 exact key us cs h
theorem Q45 {x y:Operand} {T i ver m t k:Nat} {f:α→AV} {xs:List α} {z:α} (hT:Re P T k=true) (ho:o.op=.store T x y) (hu:ev l y=f z) (hx:ev l x=.vptr i ver m 0) (hi:lk L i=some (.vec t k ver (xs.map f))) (hm:m < xs.length)
  (hc:(f z).flatOk=true) (hd:(f z).isData=true) (hk:(f z).cells.length=k) (h1:Nat.blt 0 k=true) :
  Gz P o l L (Is .junk ((i,.vec t k ver ((xs.set m z).map f))::L)):=by
 intro a w β K Q h0 hf hK
 obtain⟨o1,_⟩:=h0.obj i _ hi
 have he:(xs.map f)[m]? = some (f xs[m]):=by simp [hm]
 have h2:(f xs[m]).cells.length=k:=o1 _ (Kz he)
 have h:=Qd6 (P:=P) (e:=f xs[m]) (z:=f z) (ds:=(f z).cells) hT ho hu hx hi he hc hd (R2d (hk.trans h2.symm)) rfl hk h1
 rw [← List.map_set] at h
 exact h a w β K Q h0 hf hK
def H70 (z:Int):Option Nat:=bif decide (0≤z) then some z.toNat else none
theorem Hb0 {z:Int} {n:Nat} (h:H70 z=some n):z=(n:Int):=by
 unfold H70 at h
 cases hb:decide (0≤z) with
 | true=>rw [hb] at h; cases h; have:=Ks hb; omega
 | false=>rw [hb] at h; cases h
end ops

structure Gt (κ ν:Type) where
 l:List (κ×ν)
 nd:(l.map (·.1)).Nodup
namespace Gt
variable {κ ν:Type} [DecidableEq κ]
def empty:Gt κ ν:=⟨[],List.nodup_nil⟩
def put (m:Gt κ ν) (a:κ) (v:ν):Gt κ ν:=⟨Ge7 m.l a v,Jc0 m.nd a v⟩
def get (m:Gt κ ν) (a:κ) (z:ν):ν:=(G67 m.l a).getD z
def has (m:Gt κ ν) (a:κ):Bool:=G99 m.l a
def size (m:Gt κ ν):Nat:=m.l.length
end Gt
def MP {κ ν:Type} (T:Nat) (kv:κ→Value) (av:ν→AV) (m:Gt κ ν):Je:=.map T (mapOf kv av m.l)
def MI {κ ν:Type} [DecidableEq κ] (T:Nat) (kv:κ→Value) (av:ν→AV) (m:Gt κ ν) (a:κ) (z:ν):Je:=.map T (mapOf kv av (Gd7 m.l a z))

section ops
variable {P:Program} {N:Cfg} {o:Oper} {l:Fr} {L L':Loc} {u:AV} {κ ν:Type} {kv:κ→Value} {av:ν→AV}

theorem G5f (i:Nat) {T:Nat} (kv:κ→Value) (av:ν→AV) (ho:o.op=.makeMap T none) (hi:lk L i=none) (h0:Nat.blt T 1000000=true:=by rfl):Gz P o l L (Is (.mp i) ((i,MP T kv av Gt.empty)::L)):=Rbd i ho hi h0
theorem Q46 [DecidableEq κ] {x y:Operand} {T K E i:Nat} {ok:Bool} {m:Gt κ ν} {a:κ} (z0:ν) (zv:Value) (ho:o.op=.lookup T x y ok) (hm:ev l x=.mp i) (hi:lk L i=some (MP T kv av m))
  (hx:ev l y=Za (kv a)) (hk:Ge3 P K kv) (hT:G14 P T K E=true) (hz:(P.info? E).bind (·.zero)=some zv) (h0:av z0=Za zv) :
  Gz P o l L (Is (bif ok then .tup [av (m.get a z0),BL (m.has a)] else av (m.get a z0)) L):=Jf7 z0 zv ho hm hi m.nd hx hk hT hz h0
theorem H1e [DecidableEq κ] {x y:Operand} {T K E i:Nat} {m:Gt κ ν} {a:κ} (z0:ν) (zv:Value) (ho:o.op=.lookup T x y false) (hm:ev l x=.mp i) (hi:lk L i=some (MP T kv av m))
  (hx:ev l y=Za (kv a)) (hk:Ge3 P K kv) (hT:G14 P T K E=true) (hz:(P.info? E).bind (·.zero)=some zv) (h0:av z0=Za zv) :
  Gz P o l L (Is (av (m.get a z0)) L):=Q46 (ok:=false) z0 zv ho hm hi hx hk hT hz h0
theorem Hf7 [DecidableEq κ] {x y:Operand} {T K E i:Nat} {m:Gt κ ν} {a:κ} (z0:ν) (zv:Value) (ho:o.op=.lookup T x y true) (hm:ev l x=.mp i) (hi:lk L i=some (MP T kv av m))
  (hx:ev l y=Za (kv a)) (hk:Ge3 P K kv) (hT:G14 P T K E=true) (hz:(P.info? E).bind (·.zero)=some zv) (h0:av z0=Za zv) :
  Gz P o l L (Is (.tup [av (m.get a z0),BL (m.has a)]) L):=Q46 (ok:=true) z0 zv ho hm hi hx hk hT hz h0
theorem Jf6 [DecidableEq κ] {x y:Operand} {T K E i:Nat} {m:Gt κ ν} {a:κ} (z0:ν) (zv:Value) (ho:o.op=.lookup T x y false) (hm:ev l x=.mp i) (hi:lk L i=some (MI T kv av m a z0))
  (hx:ev l y=Za (kv a)) (hk:Ge3 P K kv) (hT:G14 P T K E=true) (hz:(P.info? E).bind (·.zero)=some zv) (h0:av z0=Za zv) :
  Gz P o l L (Is (av (m.get a z0)) L):=Qdc z0 zv ho hm hi m.nd hx hk hT hz h0
theorem G6b [DecidableEq κ] {x y z:Operand} {T K E i:Nat} {m:Gt κ ν} {a:κ} {v:ν} (ho:o.op=.mapUpdate T x y z) (hm:ev l x=.mp i) (hi:lk L i=some (MP T kv av m))
  (hx:ev l y=Za (kv a)) (hy:(ev l z).plain=av v) (h0:(av v).isData=true) (hk:Ge3 P K kv) (hT:G14 P T K E=true) :
  Gz P o l L (Is .junk ((i,MP T kv av (m.put a v))::L)):=Qda ho hm hi m.nd hx hy h0 hk hT
theorem J76 [DecidableEq κ] {x y:Operand} {T K E i:Nat} {m:Gt κ ν} {a:κ} (z0:ν) (zv:Value) (ho:o.op=.mapEntry T x y) (hm:ev l x=.mp i) (hi:lk L i=some (MP T kv av m))
  (hx:ev l y=Za (kv a)) (hk:Ge3 P K kv) (hT:G14 P T K E=true) (hz:(P.info? E).bind (·.zero)=some zv) (h0:av z0=Za zv) :
  Gz P o l L (Is (.tup [.junk,I64 (G13 m.l a)]) ((i,MI T kv av m a z0)::L)):=R4c z0 zv ho hm hi m.nd hx hk hT hz h0
theorem Hd4 [DecidableEq κ] {x s y:Operand} {T i:Nat} {m:Gt κ ν} {a:κ} {v:ν} (z0:ν) (ho:o.op=.entryStore T x s y) (hm:ev l x=.mp i) (hi:lk L i=some (MI T kv av m a z0))
  (hs:ev l s=I64 (G13 m.l a)) (hy:(ev l y).plain=av v) (h0:(av v).isData=true) (h1:Nat.blt T 1000000=true:=by rfl) :
  Gz P o l L (Is .junk ((i,MP T kv av (m.put a v))::L)):=Q7a z0 ho hm hi m.nd hs hy h0 h1
theorem Jf5 (i:Nat) {x:Operand} {T K E j:Nat} {m:Gt κ ν} (ho:o.op=.range T x) (hx:ev l x=.mp j) (hm:lk L j=some (MP T kv av m)) (hi:lk L i=none) (hT:G14 P T K E=true) :
  Gz P o l L (Is (.it i) ((i,.iter (.mp j) m.size [])::L)):=by
 have h:=Y2f (P:=P) i ho hx hm hi hT (G14.both hT).2
 simpa only [mapOf,Mc,Gt.size] using h
end ops

section ops
variable {P:Program} {N:Cfg} {Q:Post} {o:Oper} {l:Fr} {L L':Loc} {u:AV} {κ ν:Type} {kv:κ→Value} {av:ν→AV}
def Y8e (i j:Nat) (L:Loc) (kv:κ→Value) (av:ν→AV) (m:Gt κ ν) (seen:List Nat):AV→Loc→Prop:=fun u L'=>
 (∃ q e,m.l[q]? = some e∧q ∉ seen∧u=.tup [BL true,Za (kv e.1),av e.2]∧L'=(i,.iter (.mp j) m.size (seen++[q]))::L)∨((∀ q,q < m.l.length→q∈seen)∧u=.tup [BL false]∧L'=L)
theorem Gz.weaken {R R':AV→Loc→Prop} (h:Gz P o l L R) (hR:∀ u L',R u L'→R' u L'):Gz P o l L R':=fun a w β K Q h1 h2 h3=>h a w β K Q h1 h2 (fun u L' v w' β' hr=>h3 u L' v w' β' (hR u L' hr))
theorem Rd6 {m:Gt κ ν} {q:Nat} {k:Value} {v:AV} (h:(mapOf kv av m.l)[q]? = some (k,v)):∃ e:κ×ν,m.l[q]? = some e∧k=kv e.1∧v=av e.2:=by
 rw [mapOf,M5] at h
 cases hl:m.l[q]? with
 | none=>rw [hl] at h; cases h
 | some e=>rw [hl] at h; cases h; exact⟨e,rfl,rfl,rfl⟩
theorem Q79 {x:Operand} {i j T:Nat} {m:Gt κ ν} {seen:List Nat} (ho:o.op=.next x false) (hx:ev l x=.it i) (hi:lk L i=some (.iter (.mp j) m.size seen)) (hm:lk L j=some (MP T kv av m)) (h0:Nat.blt T 1000000=true:=by rfl):Gz P o l L (Y8e i j L kv av m seen):=by
 have h5:lk L i=some (.iter (.mp j) (mapOf kv av m.l).length seen):=by rw [hi]; simp [mapOf,Gt.size]
 refine(Y73 ho hx h5 hm h0).weaken (fun u L' h=>?_)
 rcases h with ⟨q,k,v,h1,h2,h3,h4⟩ | ⟨h1,h2,h3⟩
 ·obtain⟨e,he,rfl,rfl⟩:=Rd6 h1
  exact .inl ⟨q,e,he,h2,h3,by rw [h4]; simp [mapOf,Gt.size]⟩
 ·exact .inr ⟨fun q hq=>h1 q (by simpa [mapOf] using hq),h2,h3⟩
theorem Jf9 {x:Operand} {i j T q:Nat} {m:Gt κ ν} {seen:List Nat} {e:κ×ν} (ho:o.op=.entry x) (hx:ev l x=.it i) (hi:lk L i=some (.iter (.mp j) m.size (seen++[q]))) (hm:lk L j=some (MP T kv av m)) (he:m.l[q]? = some e) (h0:Nat.blt T 1000000=true:=by rfl) :
  Gz P o l L (Is (.tup [Za (kv e.1),av e.2]) L):=by
 have h1:lk L i=some (.iter (.mp j) (mapOf kv av m.l).length (seen++[q])):=by rw [hi]; simp [mapOf,Gt.size]
 exact Y33 ho hx h1 hm (by rw [mapOf,M5,he]; rfl) h0
theorem Jee {body:Code} {σ:Type} (n:Nat) (I:List Nat→σ→Prop) (F:List Nat→σ→Fr) (M:List Nat→σ→Loc) (s0:σ) (h0:I [] s0) (hf:Fits N.base l L (F [] s0) (M [] s0))
  (hr:∀ i s,I i s→∀ K:Fr→Loc→Prop,(∀ l L i' s',I i' s'→unseen n i' < unseen n i→Fits N.base l L (F i' s') (M i' s')→K l L)→JC P N body (Q.seq K) (F i s) (M i s)):JC P N (.loop body) Q l L:=
 R6c (fun x:List Nat×σ=>I x.1 x.2) (fun x=>F x.1 x.2) (fun x=>M x.1 x.2) (fun x=>unseen n x.1) ([],s0) h0 hf
  (fun x hi K hK=>hr x.1 x.2 hi K (fun l L i' s' h1 h2 h3=>hK l L (i',s') h1 h2 h3))
end ops

/-! ### Ranging over a map: every order of its entries -/
section range
variable {α β σ:Type}
def J07 (b:α→σ→(σ→Option (σ ⊕ β))→Option (σ ⊕ β)) (kx:σ→Option β):List α→σ→Option β
 | [],s=>kx s
 | x::xs,s=>match b x s (fun s'=>some (.inl s')) with
  | some (.inl s')=>J07 b kx xs s'
  | some (.inr r)=>some r
  | none=>none
def lft (x:Option β):Option (σ ⊕ β):=x.map .inr
def Q39 (b:α→σ→(σ→Option (σ ⊕ Prop))→Option (σ ⊕ Prop)) (kx:σ→Option Prop) (l:List α) (s:σ):Option Prop:=
 some (∀ q:List α,q.Perm l→∃ p,J07 b kx q s=some p∧p)
theorem Y11 {x:Option β} {r:σ ⊕ β} (h:lft x=some r):∃ y,r=.inr y∧x=some y:=by
 cases x with
 | none=>cases h
 | some y=>cases h; exact⟨y,rfl,rfl⟩
theorem Q27 {b:α→σ→(σ→Option (σ ⊕ Prop))→Option (σ ⊕ Prop)} {kx:σ→Option Prop} {x:α} {xs:List α} {s:σ} (h:∃ p,J07 b kx (x::xs) s=some p∧p) :
  ∃ o,b x s (fun s'=>some (.inl s'))=some o∧(∀ r,o=.inr r→r)∧∀ s',o=.inl s'→∃ p,J07 b kx xs s'=some p∧p:=by
 obtain⟨p,h,hp⟩:=h
 rw [J07] at h
 cases hb:b x s (fun s'=>some (.inl s')) with
 | none=>rw [hb] at h; cases h
 | some o=>
  rw [hb] at h
  cases o with
  | inl s'=>exact⟨_,rfl,(fun r e=>by cases e),(fun s2 e=>by cases e; exact⟨p,h,hp⟩)⟩
  | inr r=>cases h; exact⟨_,rfl,(fun r2 e=>by cases e; exact hp),(fun s2 e=>by cases e)⟩
def MInv (b:α→σ→(σ→Option (σ ⊕ Prop))→Option (σ ⊕ Prop)) (kx:σ→Option Prop) (l:List α) (seen:List Nat) (s:σ):Prop:=
 (seen.Nodup∧∀ j∈seen,j < l.length)∧∀ q:List α,(seen.filterMap (fun j=>l[j]?)++q).Perm l→∃ p,J07 b kx q s=some p∧p
theorem MInv.start {b:α→σ→(σ→Option (σ ⊕ Prop))→Option (σ ⊕ Prop)} {kx:σ→Option Prop} {l:List α} {s:σ} {p:Prop} (h:Q39 b kx l s=some p) (hp:p):MInv b kx l [] s:=by
 cases h
 exact⟨⟨List.nodup_nil,by simp⟩,by simpa using hp⟩
theorem Jd6 {b:α→σ→(σ→Option (σ ⊕ Prop))→Option (σ ⊕ Prop)} {kx:σ→Option Prop} {l:List α} {s:σ} {r:Option Prop} (h:Q39 b kx l s=r):∃ b' kx',b=b'∧kx=kx'∧Q39 b' kx' l s=r:=⟨b,kx,rfl,rfl,h⟩
theorem Jbe {l:List α} {seen:List Nat} (hn:seen.Nodup) (hb:∀ j∈seen,j < l.length):∃ q,(seen.filterMap (fun j=>l[j]?)++q).Perm l:=by
 have h1:∃ r,(seen++r).Perm (List.range l.length):=by
  refine⟨(List.range l.length).filter (fun j=>!seen.contains j),?_⟩
  refine(List.perm_ext_iff_of_nodup ?_ List.nodup_range).2 (fun j=>?_)
  ·refine List.nodup_append.2 ⟨hn,List.nodup_range.filter _,fun a ha b h0=>?_⟩
   have:=(Mh.1 h0).2
   intro e; subst e; simp [ha] at this
  ·simp only [Md,Mh,List.mem_range,Bool.not_eq_true',List.contains_eq_mem,decide_eq_false_iff_not]
   constructor
   ·rintro(h | h)
    ·exact hb j h
    ·exact h.1
   ·intro h
    by_cases hs:j∈seen
    ·exact .inl hs
    ·exact .inr ⟨h,hs⟩
 obtain⟨r,hr⟩:=h1
 have h2:=hr.filterMap (fun j=>l[j]?)
 have h3:(List.range l.length).filterMap (fun j=>l[j]?)=l:=by
  have key:∀ (l m:List α),(List.range' m.length l.length).filterMap (fun j=>(m++l)[j]?)=l:=by
   intro l
   induction l with
   | nil=>intro m; rfl
   | cons a r ih=>
    intro m
    have h1:=ih (m++[a])
    rw [M4,List.range'_succ,List.filterMap_cons_some (b:=a) (by simp)]
    congr 1
    simpa using h1
  have:=key l []
  simpa [List.range_eq_range'] using this
 rw [List.filterMap_append,h3] at h2
 exact⟨_,h2⟩
theorem MInv.step {b:α→σ→(σ→Option (σ ⊕ Prop))→Option (σ ⊕ Prop)} {kx:σ→Option Prop} {l:List α} {seen:List Nat} {s:σ} {j:Nat} {e:α} (h:MInv b kx l seen s) (hj:l[j]? = some e) (hs:j ∉ seen) :
  ∃ o,b e s (fun s'=>some (.inl s'))=some o∧(∀ r,o=.inr r→r)∧∀ s',o=.inl s'→MInv b kx l (seen++[j]) s':=by
 obtain⟨⟨h1,h2⟩,h3⟩:=h
 have hn:(seen++[j]).Nodup:=List.nodup_append.2 ⟨h1,by simp,fun a ha b hb=>by simp at hb; subst hb; intro e; subst e; exact hs ha⟩
 have hb:∀ i∈seen++[j],i < l.length:=fun i hi=>by
  rcases Md.1 hi with hi | hi
  ·exact h2 i hi
  ·simp at hi; subst hi; exact(Kw hj).1
 have h0:(seen++[j]).filterMap (fun j=>l[j]?)=seen.filterMap (fun j=>l[j]?)++[e]:=by
  rw [List.filterMap_append]; simp [hj]
 obtain⟨q,hq⟩:=Jbe (l:=l) hn hb
 rw [h0,List.append_assoc] at hq
 obtain⟨o,o1,o2,_⟩:=Q27 (h3 (e::q) hq)
 refine⟨o,o1,o2,fun s' ho=>⟨⟨hn,hb⟩,fun q' h4=>?_⟩⟩
 rw [h0,List.append_assoc] at h4
 obtain⟨o',p1,_,p3⟩:=Q27 (h3 (e::q') h4)
 rw [o1] at p1; cases p1
 exact p3 s' ho
theorem MInv.done {b:α→σ→(σ→Option (σ ⊕ Prop))→Option (σ ⊕ Prop)} {kx:σ→Option Prop} {l:List α} {seen:List Nat} {s:σ} (h:MInv b kx l seen s) (ha:∀ j,j < l.length→j∈seen):∃ p,kx s=some p∧p:=by
 obtain⟨⟨h1,h2⟩,h3⟩:=h
 obtain⟨q,hq⟩:=Jbe (l:=l) h1 h2
 have hl:(seen.filterMap (fun j=>l[j]?)).length=l.length:=by
  have hp:seen.Perm (List.range l.length):=(List.perm_ext_iff_of_nodup h1 List.nodup_range).2 (fun j=>by
   rw [List.mem_range]; exact⟨h2 j,ha j⟩)
  have h5:(seen.filterMap (fun j=>l[j]?)).length=seen.length:=by
   have:∀ s:List Nat,(∀ j∈s,j < l.length)→(s.filterMap (fun j=>l[j]?)).length=s.length:=by
    intro s
    induction s with
    | nil=>intro _; rfl
    | cons a r ih=>
     intro hs
     have ha:=hs a (by simp)
     rw [List.filterMap_cons_some (by simp [ha]; rfl),M4,ih (fun j hj=>hs j (by simp [hj])),M4]
   exact this seen h2
  rw [h5,hp.length_eq,List.length_range]
 have h0:q=[]:=by
  have:=hq.length_eq
  rw [M8,hl] at this
  exact Kn (by omega)
 subst h0
 exact h3 [] hq
end range
end Go.Proofs.YtibhpogonkdiaaaGreat
