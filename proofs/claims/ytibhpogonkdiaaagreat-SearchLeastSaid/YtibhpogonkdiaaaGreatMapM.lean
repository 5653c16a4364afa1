/-
 Slices of the call's own: Slices of typed elements that the call may write in place. Maps of typed keys and elements:
-/
import Derived.Test.YtibhpogonkdiaaaGreatVec
namespace Go.Proofs.YtibhpogonkdiaaaGreat
open Go.RowKit

section freeze
variable {P:Program} {N:Cfg} {Q:Post} {l l':Fr} {L L':Loc}

variable {xs:AG} {k t ver:Nat}
theorem V.vfreeze {w:World} {β:H2} {i n:Nat} {v:Value} (h0:Sat w β L) (hi:lk L i=some (.vec t k ver xs)) (h6:zA L L') (h8:lk L' i=none) (h:V w β L (.vec i ver k n) v):V w β L' (.list k xs) v:=by
 obtain⟨rfl,hk,h⟩:=fF h0 hi h;rcases h with ⟨rfl,rfl,_⟩ | ⟨b,cap,vs,rfl,hb,h1,h2,h3,h4,h5⟩
 ·exact .data (.nil (Nat.zero_le _))
 ·have h7:∀ j,j < (flat xs).length->j < vs.size:=fun j hj=>by
   rw [Jd hk] at hj;have:=Nat.mul_le_mul_right k h1;omega
  refine .data (.list (fun j=>vs.getD j undef) h1 h2 hk (fun j hj=>⟨⟨(Pz h3).1,h0.apart i b _ (by rw [hi]; rfl) hb,fun id o ho h9=>?_⟩,?_⟩) (fun j u hu=>?_))
  ·obtain⟨o0,a0,_⟩:=h6.like id o ho;have:=h0.inj i id b (by rw [hi]; rfl) (by rw [a0]; rfl) hb h9;grind
  ·have:=h7 j hj;simp [World.cell?,h3,this]
  ·have hj:=(Sa hu).1;have:=h7 j hj;refine(h5 j u _ hu ?_).mono fun b i hs=>⟨h6.AX hs,rfl⟩;simp [this]

inductive Q14 (i ver k:Nat) (xs:AG) (ok:Nat->Bool):AV->AV->Prop
 | conv {u u':AV} (h:Conv ok u u'):Q14 i ver k xs ok u u'
 | vec {n:Nat}:Q14 i ver k xs ok (.vec i ver k n) (.list k xs)
def zR (i ver k:Nat) (xs:AG) (ok:Nat->Bool) (l:Fr):Fr->Prop
 | []=>True
 | (t,u)::r=>Q14 i ver k xs ok (look l t) u∧zR i ver k xs ok l r
theorem zR.get {i ver k:Nat} {xs:AG} {ok:Nat->Bool} {l:Fr}:∀ {l':Fr},zR i ver k xs ok l l'->∀ t,Q14 i ver k xs ok (look l t) (look l' t)
 | [],_,t=>.conv .AP
 | (s,u)::r,h,t=>by
  simp only [look];cases hb:Nat.beq s t with
  | true=>have:=S2 hb; subst this; exact h.1
  | false=>exact zR.get h.2 t

theorem Rr.vfreeze {w0 w:World} {β0 β:H2} {L0:Loc} {a:Act} (hs:Rr N w0 β0 L0 a w β l L) (i:Nat) (hi:lk L i=some (.vec t k ver xs))
  (h2:lk L' i=none) (hl:gO (fun j=>(lk L' j).isSome) L L') (hb:allIn L' N.base=true) (hf:zR i ver k xs (fun j=>(lk L' j).isSome) l l'):Rr N w0 β0 L0 a w β l' L':=by
 have h0:Fits N.base l L [] L':=⟨trivial,hl,hb⟩;have h1:=hs.fits h0;refine⟨h1.sat,h1.step,⟨fun t'=>?_⟩,h1.size,h1.base,h1.defers⟩;have hv:=hs.frame.tmp t';generalize hu:look l t'=u at hv;have hz:=hf.get t';rw [hu] at hz;generalize look l' t'=u' at hz;cases hz with
 | conv hc=>exact hv.conv h0.drop hc
 | vec=>exact hv.vfreeze hs.sat hi h0.drop h2
theorem vI {c:Code} (l':Fr) (L':Loc) (i:Nat) (hi:lk L i=some (.vec t k ver xs)) (h0:lk L' i=none) (hl:gO (fun j=>(lk L' j).isSome) L L') (hb:allIn L' N.base=true)
  (hf:zR i ver k xs (fun j=>(lk L' j).isSome) l l') (hk:JC P N c Q l' L'):JC P N c Q l L:=fun n w0 β0 L0 a w β hs=>hk n w0 β0 L0 a w β (hs.vfreeze i hi h0 hl hb hf)
theorem J26 {ops:Array Oper} {rest:AN} (l':Fr) (L':Loc) (i:Nat) (hi:lk L i=some (.vec t k ver xs)) (h0:lk L' i=none) (hl:gO (fun j=>(lk L' j).isSome) L L') (hb:allIn L' N.base=true)
  (hf:zR i ver k xs (fun j=>(lk L' j).isSome) l l') (hk:JL P N ops rest Q l' L'):JL P N ops rest Q l L:=fun n w0 β0 L0 a w β hs=>hk n w0 β0 L0 a w β (hs.vfreeze i hi h0 hl hb hf)
end freeze

def AV.BV:AV->Bool
 | .AP=>true
 | .sc _=>true
 | .agg cs=>noRefL cs
 | .tup cs=>noRefL cs
 | .list _ []=>true
 | _=>false
where noRefL:AG->Bool
 | []=>true
 | x::r=>x.BV&&noRefL r
theorem qI:∀ {cs:AG},AV.BV.noRefL cs=true->∀ u∈cs,u.BV=true
 | [],_,u,hu=>by cases hu
 | x::r,h,u,hu=>by
  simp only [AV.BV.noRefL,Sq] at h;rcases Sw.1 hu with rfl | hu
  ·exact h.1
  ·exact qI h.2 u hu
theorem D.BV {w w':World} {S S':Nat->Nat->Prop} {u:AV} {v:Value} (h:D w S u v):u.BV=true->D w' S' u v:=by
 induction h with
 | AP=>exact fun _=>.AP
 | sc=>exact fun _=>.sc
 | agg hl _ ih=>exact fun hr=>.agg hl fun j u v hu hv=>ih j u v hu hv (qI (by simpa [AV.BV] using hr) u (Sd hu))
 | tup hl _ ih=>exact fun hr=>.tup hl fun j u v hu hv=>ih j u v hu hv (qI (by simpa [AV.BV] using hr) u (Sd hu))
 | nil h=>exact fun _=>.nil h
 | @list k b off cap xs vals h0 hm _ _ _ _=>
  intro hr;cases xs with
  | nil=>exact .nil hm
  | cons x r=>simp [AV.BV] at hr
 | lnil=>exact fun hr=>by simp [AV.BV] at hr
 | lst=>exact fun hr=>by simp [AV.BV] at hr
 | AC=>exact fun hr=>by simp [AV.BV] at hr
 | fn=>exact fun hr=>by simp [AV.BV] at hr
 | bfn=>exact fun hr=>by simp [AV.BV] at hr
 | opt=>exact fun hr=>by simp [AV.BV] at hr
 | dmap=>exact fun hr=>by simp [AV.BV] at hr
 | bag=>exact fun hr=>by simp [AV.BV] at hr

section AJ
variable {P:Program} {o:Oper} {l:Fr} {L:Loc} {u:AV}

inductive jW (L:Loc):AV->AV->Prop
 | data {u u':AV} (h:u.plain=u') (hd:u'.BD=true):jW L u u'
 | vec {i ver k n t:Nat} {xs:AG} (hi:lk L i=some (.vec t k ver xs)):jW L (.vec i ver k n) (.list k xs)
 | agg {cs ds:AG} (hl:ds.length=cs.length) (h:∀ (j:Nat) u u',cs[j]? = some u->ds[j]? = some u'->jW L u u'):jW L (.agg cs) (.agg ds)
def sC (L:Loc):AG->AG->Prop
 | [],[]=>True
 | u::r,u'::s=>jW L u u'∧sC L r s
 | _,_=>False
theorem sC.len {L:Loc}:∀ {cs ds:AG},sC L cs ds->ds.length=cs.length
 | [],[],_=>rfl
 | _::_,_::_,h=>by simp [sC.len h.2]
theorem sC.get {L:Loc}:∀ {cs ds:AG},sC L cs ds->∀ (j:Nat) u u',cs[j]? = some u->ds[j]? = some u'->jW L u u'
 | _::_,_::_,h,0,_,_,h1,h2=>by simp at h1 h2; subst h1 h2; exact h.1
 | _::_,_::_,h,j+1,u,u',h1,h2=>sC.get h.2 j u u' (by simpa using h1) (by simpa using h2)
 | [],[],_,j,_,_,h1,_=>by simp at h1
theorem jW.aggL {L:Loc} {cs ds:AG} (h:sC L cs ds):jW L (.agg cs) (.agg ds):=.agg h.len h.get
def sD (l:Fr) (L:Loc):List Operand->AG->Prop
 | [],[]=>True
 | x::r,u::s=>jW L (ev l x) u∧sD l L r s
 | _,_=>False
theorem sD.length {l:Fr} {L:Loc}:∀ {xs:List Operand} {us:AG},sD l L xs us->xs.length=us.length
 | [],[],_=>rfl
 | _::r,_::s,h=>by simp [sD.length h.2]
theorem sD.get {l:Fr} {L:Loc}:∀ {xs:List Operand} {us:AG},sD l L xs us->∀ {j:Nat} {x:Operand} {u:AV},xs[j]? = some x->us[j]? = some u->jW L (ev l x) u
 | [],[],_,j,x,u,h,_=>by simp at h
 | x::r,u::s,h,0,_,_,hx,hu=>by simp at hx hu; subst hx hu; exact h.1
 | x::r,u::s,h,j+1,_,_,hx,hu=>by simp at hx hu; exact sD.get h.2 hx hu

variable {β:H2} {w:World}
theorem jW.D {u u':AV} (h0:Sat w β L) (h:jW L u u'):∀ {v:Value},V w β L u v->D w (fun b _=>b < w.heap.size) u' v:=by
 induction h with
 | agg hl _ ih=>
  intro v hv;obtain⟨vs,rfl,h2,h3⟩:=hv.inv_agg;refine .agg (h2.trans hl.symm) fun j u' x h1 hx=>?_;have hj:j < _:=(Sa h1).1;exact ih j _ u' (Sb (hl ▸ hj)) h1 (h3 j _ x (Sb (hl ▸ hj)) hx)
 | data h hd=>
  intro v hv;subst h;exact(hv.plain.toD hd).mono fun b i hs=>⟨hs.lt,rfl⟩
 | @vec i ver k n t xs hi=>
  intro v hv;have hd:zA L (L.filter fun p=>!Nat.beq p.1 i):=by
   refine⟨fun id o' h=>?_⟩;have:lk L id=some o':=by
    clear h0 hi hv
    induction L with
    | nil=>simp [lk] at h
    | cons p r ih=>
     obtain⟨q,ob⟩:=p;rw [List.filter_cons] at h;by_cases e:(!Nat.beq (q,ob).1 i)=true
     ·rw [if_pos e,Gm] at h;rw [Gm];by_cases e2:q=id
      ·rw [if_pos e2] at h ⊢; exact h
      ·rw [if_neg e2] at h ⊢; exact ih h
     ·rw [if_neg e] at h;rw [Gm];by_cases e2:q=id
      ·exfalso;subst e2;have h4:q=i:=by
        cases hb:Nat.beq q i with
        | true=>exact S2 hb
        | false=>exact absurd (by simp [hb]) e
       subst h4;have h5:∀ r:Loc,lk (r.filter fun p=>!Nat.beq p.1 q) q=none:=by
        intro r
        induction r with
        | nil=>rfl
        | cons p r ih2=>
         rw [List.filter_cons];by_cases e3:(!Nat.beq p.1 q)=true
         ·rw [if_pos e3,Gm,if_neg (fun e4=>by rw [e4] at e3; simp at e3)]; exact ih2
         ·rw [if_neg e3]; exact ih2
       rw [h5] at h; cases h
      ·rw [if_neg e2]; exact ih h
   exact⟨o',this,by cases o' <;> simp [Jn.like]⟩
  have hn:lk (L.filter fun p=>!Nat.beq p.1 i) i=none:=by
   clear h0 hi hv hd
   induction L with
   | nil=>rfl
   | cons p r ih2=>
    rw [List.filter_cons];by_cases e3:(!Nat.beq p.1 i)=true
    ·rw [if_pos e3,Gm,if_neg (fun e4=>by rw [e4] at e3; simp at e3)]; exact ih2
    ·rw [if_neg e3]; exact ih2
  exact((hv.vfreeze h0 hi hd hn).inv_list).mono fun b i hs=>⟨hs.lt,rfl⟩

variable {f:FuncId} {args:AG}
theorem Gd7 {P:Program} {R:AV->Prop} (hc:Pure P f args R) (h0:Sat w β L) {vs:Array Value} (hl:vs.size=args.length)
  (hv:∀ (j:Nat) u v,args[j]? = some u->vs[j]? = some v->D w (fun b _=>b < w.heap.size) u v) (hr:∀ r,R r->r.BV=true) :
  Calls P f vs w fun e w'=>∃ v r,e=.returned v∧Sat w' β L∧Step w β L w' β L∧V w' β L r v∧R r:=by
 have h4:∀ b i:Nat,b < w.heap.size->J6 w ⟨fun _=>none,fun _ _=>False⟩ [] b i:=fun b i hs=>⟨hs,fun h=>h,fun id o h=>by simp [lk] at h⟩;refine(hc w ⟨fun _=>none,fun _ _=>False⟩ vs ⟨fun b i h=>h.elim,fun id b h=>by simp [lk] at h,fun id b j h=>by simp [lk] at h,fun id id' b h=>by simp [lk] at h,fun id o h=>by simp [lk] at h⟩ hl
  (fun j u v hu h5=>.data ((hv j u v hu h5).mono fun b i hs=>⟨h4 b i hs,rfl⟩))).mono fun e w' h=>?_
 obtain⟨v,r,β',L',he,h7,h3,h6,rfl,hR⟩:=h;have far:∀ b,b < w.heap.size->w'.heap[b]? = w.heap[b]? := fun b hb=>(h3.far b hb (fun id h=>by simp [lk] at h)).1;have AX:∀ b i,J6 w β L b i->J6 w' β L b i:=fun b i hs=>⟨S0 hs.lt h3.size,hs.seen,hs.kept⟩;have step:Step w β L w' β L:=⟨h3.os,h3.tape,h3.output,h3.size,fun _ _ _=>Iff.rfl,fun b i hs=>⟨AX b i hs,Jt (w:=w) (far b hs.lt)⟩,fun b hb hf=>⟨far b hb,hf⟩,
  fun _ _ cs h=>⟨rfl,cs,h⟩,fun _ _ cs h=>⟨rfl,cs,h⟩,fun _ _ n cs h=>⟨rfl,n,cs,h⟩,fun id _ _ ver xs h=>⟨ver,xs,h,Sf,fun _=>⟨rfl,rfl,fun b hb=>cR (far b (h0.bnd id b (by rw [h]; rfl) hb))⟩⟩,fun id _ _ ver hw h=>⟨ver,hw,h,Sf,fun _=>⟨rfl,rfl,fun b hb=>far b (h0.bnd id b (by rw [h]; rfl) hb)⟩⟩⟩
 exact⟨v,r,he,⟨fun b i h=>S0 (h0.hid b i h) h3.size,fun id b h1 h2=>S0 (h0.bnd id b h1 h2) h3.size,h0.apart,h0.inj,fun id o h=>(h0.obj id o h).step step (fun b hb=>far b (h0.bnd id b (by rw [h]; rfl) hb))⟩,step,.data (h6.data_of_nil.BV (hr r hR)),hR⟩

variable {ts:Array TypeId} {xs:List Operand}
theorem vK (ho:o.op=.call { callee:=.value (.func f),args:=xs.toArray,argTypes:=ts }) (hc:Pure P f args (·=u)) (hB:Hh P f=true) (ha:sD l L xs args) (hu:u.BV=true):H7 P o l L (Is u L):=by
 intro a w β K Q h0 hf hK;have hr:(execOp a.eval o).run P w=.ok (.enter f (xs.toArray.map a.eval)) w:=by
  simp [execOp,ho,resolve,Act.eval,Deferred.ofValue,invoke,Hh.out hB]
 unfold Oper.wp;rw [hr];show Calls P f _ w _
 refine(Gd7 hc h0 (vs:=xs.toArray.map a.eval) (by simp [ha.length]) (fun j u v hu hv=>?_) (fun r hr=>by rw [hr]; exact hu)).mono fun e w' h=>?_
 ·simp only [Array.getElem?_map,List.getElem?_toArray,Option.map_eq_some_iff] at hv;obtain⟨x,hx,rfl⟩:=hv;exact(ha.get hx hu).D h0 (hf.ev x)
 ·obtain⟨v,r,rfl,h1,h2,h3,rfl⟩:=h;exact hK _ L v w' β ⟨rfl,rfl⟩ h1 h2 h3

def xT (l:Fr) (L0:Loc):List Operand->AG->Prop
 | [],[]=>True
 | x::r,u::s=>(ev l x=u∨(ev l x).plain=u)∧u.refs (inL L0)=true∧xT l L0 r s
 | _,_=>False
theorem xT.length {l:Fr} {L0:Loc}:∀ {xs:List Operand} {us:AG},xT l L0 xs us->xs.length=us.length
 | [],[],_=>rfl
 | _::r,_::s,h=>by simp [xT.length h.2.2]
theorem xT.get {l:Fr} {L0:Loc}:∀ {xs:List Operand} {us:AG},xT l L0 xs us->∀ {j:Nat} {x:Operand} {u:AV},xs[j]? = some x->us[j]? = some u->(ev l x=u∨(ev l x).plain=u)∧u.refs (inL L0)=true
 | [],[],_,j,x,u,h,_=>by simp at h
 | x::r,u::s,h,0,_,_,hx,hu=>by simp at hx hu; subst hx hu; exact⟨h.1,h.2.1⟩
 | x::r,u::s,h,j+1,_,_,hx,hu=>by simp at hx hu; exact xT.get h.2.2 hx hu

def Ga6 (L:Loc):Loc->Prop
 | []=>True
 | (i,ob)::r=>lk L i=some ob∧Ga6 L r
theorem Ga6.get {L:Loc}:∀ {L0:Loc},Ga6 L L0->∀ {id:Nat} {ob:Jn},lk L0 id=some ob->lk L id=some ob
 | [],_,id,ob,h=>by simp [lk] at h
 | (i,o')::r,hs,id,ob,h=>by
  rw [Gm] at h;by_cases e:i=id
  ·subst e; rw [if_pos rfl] at h; cases h; exact hs.1
  ·rw [if_neg e] at h; exact Ga6.get hs.2 h
def closedIn (ok:Nat->Bool):Loc->Bool
 | []=>true
 | (_,ob)::r=>ob.refs ok&&closedIn ok r
theorem closedIn.get {ok:Nat->Bool}:∀ {L0:Loc},closedIn ok L0=true->∀ {id:Nat} {ob:Jn},lk L0 id=some ob->ob.refs ok=true
 | [],_,id,ob,h=>by simp [lk] at h
 | (i,o')::r,hs,id,ob,h=>by
  simp only [closedIn,Sq] at hs;rw [Gm] at h;by_cases e:i=id
  ·subst e; rw [if_pos rfl] at h; cases h; exact hs.1
  ·rw [if_neg e] at h; exact closedIn.get hs.2 h
def oS (L L0:Loc):Loc->Bool
 | []=>true
 | (i,_)::r=>(inL L0 i||!inL L i)&&oS L L0 r
theorem oS.get {L L0:Loc}:∀ {Lr:Loc},oS L L0 Lr=true->∀ {id:Nat},inL Lr id=true->inL L0 id=true∨lk L id=none
 | [],_,id,h=>by simp [inL,lk] at h
 | (i,_)::r,hs,id,h=>by
  simp only [oS,Sq,Sy,Bool.not_eq_true'] at hs;rw [inL,Gm] at h;by_cases e:i=id
  ·subst e;exact hs.1.imp id (fun h=>by simpa [inL] using h)
  ·rw [if_neg e] at h; exact oS.get hs.2 h

variable {L'' L0 Lr:Loc}
theorem Ge3 {vs:Array Value} {a:Act} {K:Act->World->Prop} {Q:Exit->Act->World->Prop} (hc:Q4 P f args L0 (fun r L'=>r=u∧L'=Lr)) (h0:Sat w β L)
  (h4:Ga6 L L0) (h6:closedIn (inL L0) L0=true) (h5:oS L L0 Lr=true) (hL:Lr++sY L L0=L'') (hl:vs.size=args.length)
  (hv:∀ (j:Nat) u v,args[j]? = some u->vs[j]? = some v->V w β L u v∧u.refs (inL L0)=true)
  (hK:∀ u' L' v w' β',Is u L'' u' L'->Sat w' β' L'->Step w β L w' β' L'->V w' β' L' u' v->K (a.put o.dst v) w') :
  Calls P f vs w fun
   | .returned v,w''=>K (a.put o.dst v) w''
   | .panicked chain,w''=>Q (.panic chain) a w''
   | .outgrown,_=>LetsOut Q:=by
 refine(G65 hc h0 (fun id ob h=>h4.get h) (fun id ob h=>closedIn.get h6 h) hl hv (fun r L' hR id h=>by rw [hR.2] at h; exact oS.get h5 h)).mono fun e w' h=>?_;obtain⟨v,r,β',L',rfl,⟨rfl,rfl⟩,h1,h2,h3⟩:=h;unfold oL at h1 h2 h3;rw [hL] at h1 h2 h3;exact hK _ _ v w' _ ⟨rfl,rfl⟩ h1 h2 h3

theorem mG (ho:o.op=.call { callee:=.value (.func f),args:=xs.toArray,argTypes:=ts }) (hc:Q4 P f args L0 (fun r L'=>r=u∧L'=Lr)) (hB:Hh P f=true) (ha:xT l L0 xs args)
  (h0:Ga6 L L0) (h5:closedIn (inL L0) L0=true:=by rfl) (h3:oS L L0 Lr=true:=by rfl) (hL:Lr++sY L L0=L'':=by rfl):H7 P o l L (Is u L''):=by
 intro a w β K Q h4 hf hK;have hr:(execOp a.eval o).run P w=.ok (.enter f (xs.toArray.map a.eval)) w:=by
  simp [execOp,ho,resolve,Act.eval,Deferred.ofValue,invoke,Hh.out hB]
 unfold Oper.wp;rw [hr];refine Ge3 hc h4 h0 h5 h3 hL (by simp [ha.length]) (fun j u v hu hv=>?_) hK;simp only [Array.getElem?_map,List.getElem?_toArray,Option.map_eq_some_iff] at hv;obtain⟨x,hx,rfl⟩:=hv;obtain⟨h1,h2⟩:=ha.get hx hu;refine⟨?_,h2⟩;rcases h1 with h1 | h1
 ·rw [<- h1]; exact hf.ev x
 ·rw [<- h1]; exact(hf.ev x).plain

theorem jR {x:Operand} {BA:AG} (ho:o.op=.call { callee:=.value x,args:=xs.toArray,argTypes:=ts }) (hx:ev l x=.fn f BA) (hc:Q4 P f (args++BA) L0 (fun r L'=>r=u∧L'=Lr)) (hB:Hh P f=true) (ha:xT l L0 xs args)
  (h7:Qw (inL L0) BA=true) (h3:Ga6 L L0) (h8:closedIn (inL L0) L0=true:=by rfl) (h4:oS L L0 Lr=true:=by rfl) (hL:Lr++sY L L0=L'':=by rfl):H7 P o l L (Is u L''):=by
 intro a w β K Q h5 hf hK;have h0:=hf.ev x;rw [hx] at h0;obtain⟨cs,he,h6,h9⟩:=h0.inv_fn;have hr:(execOp a.eval o).run P w=.ok (.enter f (xs.toArray.map a.eval++cs)) w:=by
  simp [execOp,ho,resolve,he,Deferred.ofValue,invoke,Hh.out hB]
 unfold Oper.wp;rw [hr];refine Ge3 hc h5 h3 h8 h4 hL (by simp [ha.length,h6]) (fun j u v hu hv=>?_) hK;rcases S4 j args.length with hj | hj
 ·rw [Sh hj] at hu;rw [Array.getElem?_append_left (by simp [ha.length]; exact hj)] at hv;simp only [Array.getElem?_map,List.getElem?_toArray,Option.map_eq_some_iff] at hv;obtain⟨y,hy,rfl⟩:=hv;obtain⟨h1,h2⟩:=ha.get hy hu;refine⟨?_,h2⟩;rcases h1 with h1 | h1
  ·rw [<- h1]; exact hf.ev y
  ·rw [<- h1]; exact(hf.ev y).plain
 ·rw [Sg hj] at hu;rw [Array.getElem?_append_right (by simp [ha.length]; exact hj)] at hv;simp only [Array.size_map,List.size_toArray,ha.length] at hv;exact⟨h9 _ u v hu hv,aD h7 u (Sd hu)⟩
end AJ

section ops
variable {P:Program} {N:Cfg} {Q:Post} {o:Oper} {ops:Array Oper} {rest:AN} {l:Fr} {L L':Loc} {u:AV} {α:Type}

variable {xs:List α} {E T i k n ver:Nat} {x:Operand} {f:α->AV}
theorem kM {s:Operand} {by_ AZ kx:Nat} {ys:List α} (ho:o.op=.call { callee:=.builtin .append,args:=#[s,x],argTypes:=#[T,T] }) (hs:ev l s=.vec i ver k n) (hi:lk L i=some (.vec E k ver (xs.map f))) (hx:Qi (ev l x)=some (kx,ys.map f))
  (hT:sliceB P T E k=true) (hE:Y9 P E k by_=true) (hb:decide ((xs.length+ys.length)*by_<=140737488355328∧xs.length+ys.length<=maxLen)=true) (h0:∀ y,(f y).BJ=true) (hk:kx=k∨ys=[]) (hv:ver < AZ) :
  H7 P o l L (Is (.vec i AZ k (xs++ys).length) ((i,.vec E k AZ ((xs++ys).map f))::L)):=by
 have h1:=S6 hb;have h:=J9d (xs:=xs.map f) (ys:=ys.map f) ho hs hi hx hT hE (by simpa using h1.1) (by simpa using h1.2) (fun y hy=>by
  obtain⟨z,_,rfl⟩:=Su.1 hy;exact h0 z) (hk.imp id (fun e=>by rw [e]; rfl)) hv
 grind
variable {m:Nat} {y:α}
theorem R7 {ix:Operand} {kd:IntKind} {z:Int} (ho:o.op=.indexAddr T x ix) (hx:ev l x=.vec i ver k n) (h0:ev l ix=.sc (.int kd z)) (hi:lk L i=some (.vec E k ver (xs.map f))) (hT:sliceB P T E k=true) (hy:xs[m]? = some y) (hz:z=(m:Int)) :
  H7 P o l L (Is (.BH i ver m 0) L):=Q5a ho hx h0 hi hT (by rw [Ss]; exact(Sa hy).1) hz
variable {t:Nat}
theorem Zf {fo:Nat} (hT:Rj P T=true) (ho:o.op=.load T x) (hx:ev l x=.BH i ver m fo) (hi:lk L i=some (.vec t k ver (xs.map f))) (hy:xs[m]? = some y) (hu:(f y).cells[fo]? = some u:=by rfl) (h0:Nat.blt fo k=true:=by rfl):H7 P o l L (Is u L):=
 Q1a hT ho hx hi (Jff hy) hu (by simpa [Nat.blt_eq] using h0)
theorem G04 {fo kk:Nat} {ds:AG} (hT:mH P T kk=true) (ho:o.op=.load T x) (hx:ev l x=.BH i ver m fo) (hi:lk L i=some (.vec t k ver (xs.map f))) (hy:xs[m]? = some y) (h0:takeN kk ((f y).cells.drop fo)=some ds) (h1:Nat.ble (fo+kk) k=true):H7 P o l L (Is (.agg ds) L):=
 J2d hT ho hx hi (Jff hy) h0 (by simpa [Nat.ble_eq] using h1)
theorem J05 {us cs:AG} (h:us.length=cs.length):yR 0 us cs=some us:=by
 have key:∀ (us cs:AG),us.length=cs.length->yR 0 us cs=some us:=by
  intro us
  induction us with
  | nil=>intro cs h; cases cs with
   | nil=>rfl
   | cons c r=>simp at h
  | cons a r ih=>intro cs h; cases cs with
   | nil=>simp at h
   | cons c s=>simp [yR,ih s (by simpa using h)]
 grind
theorem cN {y:Operand} {z:α} (hT:Y0 P T k=true) (ho:o.op=.store T x y) (hu:ev l y=f z) (hx:ev l x=.BH i ver m 0) (hi:lk L i=some (.vec t k ver (xs.map f))) (hm:m < xs.length)
  (hc:(f z).BJ=true:=by rfl) (hd:(f z).BD=true:=by rfl) (hk:(f z).cells.length=k:=by rfl) (h1:Nat.blt 0 k=true:=by rfl) :
  H7 P o l L (Is .AP ((i,.vec t k ver ((xs.set m z).map f))::L)):=by
 intro a w β K Q h0 hf hK;obtain⟨o1,_⟩:=h0.obj i _ hi;have he:(xs.map f)[m]? = some (f xs[m]):=by simp [hm]
 have h2:(f xs[m]).cells.length=k:=o1 _ (Sd he);have h:=H9e (P:=P) (e:=f xs[m]) (z:=f z) (ds:=(f z).cells) hT ho hu hx hi he hc hd (J05 (hk.trans h2.symm)) rfl hk h1;rw [<- List.map_set] at h;exact h a w β K Q h0 hf hK
theorem jQ (i:Nat) {y:Operand} {by_:Nat} {kd kd':IntKind} {nx ny:Int} (z:α) (zs:AM) (ho:o.op=.makeSlice T x y) (hx:ev l x=.sc (.int kd nx)) (hy:ev l y=.sc (.int kd' ny)) (hi:lk L i=none)
  (hT:sliceB P T E k=true) (hE:Y9 P E k by_=true) (hz:(P.info? E).bind (fun i=>i.zero.map Value.cells)=some zs.toArray) (hn:nx=(n:Int)) (hm:ny=(n:Int)) (hb:decide (by_*n<=281474976710656∧n<=maxLen∧n*k<=16777216)=true)
  (h0:ZOk (f z).cells zs) (h1:(f z).cells.length=k:=by rfl) :
  H7 P o l L (Is (.vec i 0 k (List.replicate n z).length) ((i,.vec E k 0 ((List.replicate n z).map f))::L)):=by
 have h:=Q19 (P:=P) (T:=T) (E:=E) i zs ho hx hy hi hT hE hz hn hm hb (f z) (fun w S j a b ha h2=>by
  have:=ZOk.get (w:=w) (β:=⟨fun _=>none,fun b i=>¬ S b i⟩) (L:=[]) h0 j a b ha h2;refine(this.data_of_nil).mono fun b i hs=>⟨Classical.byContradiction fun hn=>hs.seen hn,rfl⟩) h1
 simpa only [List.map_replicate,List.length_replicate] using h
def lM (z:Int):Option Nat:=bif decide (0<=z) then some z.toNat else none
theorem R0 {z:Int} (h:lM z=some n):z=(n:Int):=by
 unfold lM at h;grind
end ops

structure Gw (κ ν:Type) where
 l:List (κ×ν)
 nd:(l.map (·.1)).Nodup
namespace Gw
variable {κ ν:Type} [DecidableEq κ]
def empty:Gw κ ν:=⟨[],List.nodup_nil⟩
def put (m:Gw κ ν) (a:κ) (v:ν):Gw κ ν:=⟨iW m.l a v,G57 m.nd a v⟩
def get (m:Gw κ ν) (a:κ) (z:ν):ν:=(fL m.l a).getD z
def has (m:Gw κ ν) (a:κ):Bool:=gX m.l a
def size (m:Gw κ ν):Nat:=m.l.length
end Gw
def MP {κ ν:Type} (T:Nat) (kv:κ->Value) (av:ν->AV) (m:Gw κ ν):Jn:=.map T (mapOf kv av m.l)
def MI {κ ν:Type} [DecidableEq κ] (T:Nat) (kv:κ->Value) (av:ν->AV) (m:Gw κ ν) (a:κ) (z:ν):Jn:=.map T (mapOf kv av (nT m.l a z))

section ops
variable {P:Program} {N:Cfg} {o:Oper} {l:Fr} {L L':Loc} {u:AV} {κ ν:Type} {kv:κ->Value} {av:ν->AV}

variable {T:Nat}
theorem iJ (i:Nat) (kv:κ->Value) (av:ν->AV) (ho:o.op=.makeMap T none:=by rfl) (hi:lk L i=none:=by rfl) (h0:Nat.blt T 1000000=true:=by rfl):H7 P o l L (Is (.mp i) ((i,MP T kv av Gw.empty)::L)):=Ja3 i ho hi h0
variable {m:Gw κ ν} {E K i:Nat} {x y:Operand} {a:κ}
theorem Gef [DecidableEq κ] {ok:Bool} (z0:ν) (zv:Value) (ho:o.op=.lookup T x y ok) (hm:ev l x=.mp i) (hi:lk L i=some (MP T kv av m))
  (hx:ev l y=aX (kv a)) (hk:oI P K kv) (hT:dK P T K E=true) (hz:(P.info? E).bind (·.zero)=some zv) (h0:av z0=aX zv) :
  H7 P o l L (Is (bif ok then .tup [av (m.get a z0),BL (m.has a)] else av (m.get a z0)) L):=G97 z0 zv ho hm hi m.nd hx hk hT hz h0
theorem qV [DecidableEq κ] (z0:ν) (zv:Value) (ho:o.op=.lookup T x y false) (hm:ev l x=.mp i) (hi:lk L i=some (MP T kv av m))
  (hx:ev l y=aX (kv a)) (hk:oI P K kv) (hT:dK P T K E=true) (hz:(P.info? E).bind (·.zero)=some zv) (h0:av z0=aX zv) :
  H7 P o l L (Is (av (m.get a z0)) L):=Gef (ok:=false) z0 zv ho hm hi hx hk hT hz h0
theorem HJ [DecidableEq κ] (z0:ν) (zv:Value) (ho:o.op=.lookup T x y true) (hm:ev l x=.mp i) (hi:lk L i=some (MP T kv av m))
  (hx:ev l y=aX (kv a)) (hk:oI P K kv) (hT:dK P T K E=true) (hz:(P.info? E).bind (·.zero)=some zv) (h0:av z0=aX zv) :
  H7 P o l L (Is (.tup [av (m.get a z0),BL (m.has a)]) L):=Gef (ok:=true) z0 zv ho hm hi hx hk hT hz h0
theorem G96 [DecidableEq κ] (z0:ν) (zv:Value) (ho:o.op=.lookup T x y false) (hm:ev l x=.mp i) (hi:lk L i=some (MI T kv av m a z0))
  (hx:ev l y=aX (kv a)) (hk:oI P K kv) (hT:dK P T K E=true) (hz:(P.info? E).bind (·.zero)=some zv) (h0:av z0=aX zv) :
  H7 P o l L (Is (av (m.get a z0)) L):=Ha2 z0 zv ho hm hi m.nd hx hk hT hz h0
theorem iU [DecidableEq κ] {z:Operand} {v:ν} (ho:o.op=.mapUpdate T x y z) (hm:ev l x=.mp i) (hi:lk L i=some (MP T kv av m))
  (hx:ev l y=aX (kv a)) (hy:(ev l z).plain=av v) (h0:(av v).BD=true) (hk:oI P K kv) (hT:dK P T K E=true) :
  H7 P o l L (Is .AP ((i,MP T kv av (m.put a v))::L)):=Ha1 ho hm hi m.nd hx hy h0 hk hT
theorem G05 [DecidableEq κ] (z0:ν) (zv:Value) (ho:o.op=.mapEntry T x y) (hm:ev l x=.mp i) (hi:lk L i=some (MP T kv av m))
  (hx:ev l y=aX (kv a)) (hk:oI P K kv) (hT:dK P T K E=true) (hz:(P.info? E).bind (·.zero)=some zv) (h0:av z0=aX zv) :
  H7 P o l L (Is (.tup [.AP,I64 (dJ m.l a)]) ((i,MI T kv av m a z0)::L)):=J2f z0 zv ho hm hi m.nd hx hk hT hz h0
theorem zT [DecidableEq κ] {s:Operand} {v:ν} (z0:ν) (ho:o.op=.entryStore T x s y) (hm:ev l x=.mp i) (hi:lk L i=some (MI T kv av m a z0))
  (hs:ev l s=I64 (dJ m.l a)) (hy:(ev l y).plain=av v) (h0:(av v).BD=true) (h1:Nat.blt T 1000000=true:=by rfl) :
  H7 P o l L (Is .AP ((i,MP T kv av (m.put a v))::L)):=H2c z0 ho hm hi m.nd hs hy h0 h1
theorem G94 (i:Nat) {j:Nat} (ho:o.op=.range T x) (hx:ev l x=.mp j) (hm:lk L j=some (MP T kv av m)) (hi:lk L i=none) (hT:dK P T K E=true) :
  H7 P o l L (Is (.it i) ((i,.iter (.mp j) m.size [])::L)):=by
 have h:=Q1e (P:=P) i ho hx hm hi hT (dK.both hT).2;simpa only [mapOf,Ss,Gw.size] using h
end ops

section ops
variable {P:Program} {N:Cfg} {Q:Post} {o:Oper} {l:Fr} {L L':Loc} {u:AV} {κ ν:Type} {kv:κ->Value} {av:ν->AV}
def Q7b (i j:Nat) (L:Loc) (kv:κ->Value) (av:ν->AV) (m:Gw κ ν) (seen:AK):AV->Loc->Prop:=fun u L'=>
 (∃ q e,m.l[q]? = some e∧q ∉ seen∧u=.tup [BL true,aX (kv e.1),av e.2]∧L'=(i,.iter (.mp j) m.size (seen++[q]))::L)∨((∀ q,q < m.l.length->q∈seen)∧u=.tup [BL false]∧L'=L)
theorem H7.weaken {R R':AV->Loc->Prop} (h:H7 P o l L R) (hR:∀ u L',R u L'->R' u L'):H7 P o l L R':=fun a w β K Q h1 h2 h3=>h a w β K Q h1 h2 (fun u L' v w' β' hr=>h3 u L' v w' β' (hR u L' hr))
variable {m:Gw κ ν}
theorem Jc1 {q:Nat} {k:Value} {v:AV} (h:(mapOf kv av m.l)[q]? = some (k,v)):∃ e:κ×ν,m.l[q]? = some e∧k=kv e.1∧v=av e.2:=by
 rw [mapOf,Sj] at h;grind
theorem H2a {x:Operand} {i j T:Nat} {seen:AK} (ho:o.op=.next x false) (hx:ev l x=.it i) (hi:lk L i=some (.iter (.mp j) m.size seen)) (hm:lk L j=some (MP T kv av m)) (h0:Nat.blt T 1000000=true:=by rfl):H7 P o l L (Q7b i j L kv av m seen):=by
 have h5:lk L i=some (.iter (.mp j) (mapOf kv av m.l).length seen):=by rw [hi]; simp [mapOf,Gw.size]
 refine(Q5e ho hx h5 hm h0).weaken (fun u L' h=>?_);rcases h with ⟨q,k,v,h1,h2,h3,h4⟩ | ⟨h1,h2,h3⟩
 ·obtain⟨e,he,rfl,rfl⟩:=Jc1 h1;exact .inl ⟨q,e,he,h2,h3,by rw [h4]; simp [mapOf,Gw.size]⟩
 ·exact .inr ⟨fun q hq=>h1 q (by simpa [mapOf] using hq),h2,h3⟩
theorem G99 {x:Operand} {i j T q:Nat} {seen:AK} {e:κ×ν} (ho:o.op=.entry x) (hx:ev l x=.it i) (hi:lk L i=some (.iter (.mp j) m.size (seen++[q]))) (hm:lk L j=some (MP T kv av m)) (he:m.l[q]? = some e) (h0:Nat.blt T 1000000=true:=by rfl) :
  H7 P o l L (Is (.tup [aX (kv e.1),av e.2]) L):=by
 have h1:lk L i=some (.iter (.mp j) (mapOf kv av m.l).length (seen++[q])):=by rw [hi]; simp [mapOf,Gw.size]
 exact Q22 ho hx h1 hm (by rw [mapOf,Sj,he]; rfl) h0
theorem G8e {body:Code} {σ:Type} (n:Nat) (I:AK->σ->Prop) (F:AK->σ->Fr) (M:AK->σ->Loc) (s0:σ) (h0:I [] s0) (hf:Fits N.base l L (F [] s0) (M [] s0))
  (hr:∀ i s,I i s->∀ K:Fr->Loc->Prop,(∀ l L i' s',I i' s'->unseen n i' < unseen n i->Fits N.base l L (F i' s') (M i' s')->K l L)->JC P N body (Q.seq K) (F i s) (M i s)):JC P N (.loop body) Q l L:=
 J50 (fun x:AK×σ=>I x.1 x.2) (fun x=>F x.1 x.2) (fun x=>M x.1 x.2) (fun x=>unseen n x.1) ([],s0) h0 hf
  (fun x hi K hK=>hr x.1 x.2 hi K (fun l L i' s' h1 h2 h3=>hK l L (i',s') h1 h2 h3))
end ops

/-! ### Ranging over a map: every order of its entries -/
section range
variable {α β σ:Type}
def JA (b:α->σ->(σ->Option (σ ⊕ β))->Option (σ ⊕ β)) (kx:σ->Option β):List α->σ->Option β
 | [],s=>kx s
 | x::xs,s=>match b x s (fun s'=>some (.inl s')) with
  | some (.inl s')=>JA b kx xs s'
  | some (.inr r)=>some r
  | none=>none
def lft (x:Option β):Option (σ ⊕ β):=x.map .inr
def Gdf (b:α->σ->(σ->Option (σ ⊕ Prop))->Option (σ ⊕ Prop)) (kx:σ->Option Prop) (l:List α) (s:σ):Option Prop:=
 some (∀ q:List α,q.Perm l->∃ p,JA b kx q s=some p∧p)
theorem Q00 {x:Option β} {r:σ ⊕ β} (h:lft x=some r):∃ y,r=.inr y∧x=some y:=by
 cases x with
 | none=>cases h
 | some y=>cases h; exact⟨y,rfl,rfl⟩
variable {b:α->σ->(σ->Option (σ ⊕ Prop))->Option (σ ⊕ Prop)} {s:σ} {kx:σ->Option Prop}
theorem Gca {x:α} {xs:List α} (h:∃ p,JA b kx (x::xs) s=some p∧p) :
  ∃ o,b x s (fun s'=>some (.inl s'))=some o∧(∀ r,o=.inr r->r)∧∀ s',o=.inl s'->∃ p,JA b kx xs s'=some p∧p:=by
 obtain⟨p,h,hp⟩:=h;rw [JA] at h;grind
def MInv (b:α->σ->(σ->Option (σ ⊕ Prop))->Option (σ ⊕ Prop)) (kx:σ->Option Prop) (l:List α) (seen:AK) (s:σ):Prop:=
 (seen.Nodup∧∀ j∈seen,j < l.length)∧∀ q:List α,(seen.filterMap (fun j=>l[j]?)++q).Perm l->∃ p,JA b kx q s=some p∧p
variable {l:List α}
theorem MInv.start {p:Prop} (h:Gdf b kx l s=some p) (hp:p):MInv b kx l [] s:=by
 cases h;exact⟨⟨List.nodup_nil,by simp⟩,by simpa using hp⟩
theorem G6f {r:Option Prop} (h:Gdf b kx l s=r):∃ b' kx',b=b'∧kx=kx'∧Gdf b' kx' l s=r:=⟨b,kx,rfl,rfl,h⟩
variable {seen:AK}
theorem G55 (hn:seen.Nodup) (hb:∀ j∈seen,j < l.length):∃ q,(seen.filterMap (fun j=>l[j]?)++q).Perm l:=by
 have h1:∃ r,(seen++r).Perm (List.range l.length):=by
  refine⟨(List.range l.length).filter (fun j=>!seen.contains j),?_⟩;refine(List.perm_ext_iff_of_nodup ?_ List.nodup_range).2 (fun j=>?_)
  ·refine List.nodup_append.2 ⟨hn,List.nodup_range.filter _,fun a ha b h0=>?_⟩;have:=(Sx.1 h0).2;intro e; subst e; simp [ha] at this
  ·grind
 obtain⟨r,hr⟩:=h1;have h2:=hr.filterMap (fun j=>l[j]?);have h3:(List.range l.length).filterMap (fun j=>l[j]?)=l:=by
  have key:∀ (l m:List α),(List.range' m.length l.length).filterMap (fun j=>(m++l)[j]?)=l:=by
   intro l
   induction l with
   | nil=>intro m; rfl
   | cons a r ih=>
    intro m;have h1:=ih (m++[a]);rw [Si,List.range'_succ,List.filterMap_cons_some (b:=a) (by simp)];congr 1;simpa using h1
  have:=key l [];simpa [List.range_eq_range'] using this
 rw [List.filterMap_append,h3] at h2;exact⟨_,h2⟩
theorem MInv.step {j:Nat} {e:α} (h:MInv b kx l seen s) (hj:l[j]? = some e) (hs:j ∉ seen) :
  ∃ o,b e s (fun s'=>some (.inl s'))=some o∧(∀ r,o=.inr r->r)∧∀ s',o=.inl s'->MInv b kx l (seen++[j]) s':=by
 obtain⟨⟨h1,h2⟩,h3⟩:=h;have hn:(seen++[j]).Nodup:=List.nodup_append.2 ⟨h1,by simp,fun a ha b hb=>by simp at hb; subst hb; intro e; subst e; exact hs ha⟩;have hb:∀ i∈seen++[j],i < l.length:=fun i hi=>by
  grind
 have h0:(seen++[j]).filterMap (fun j=>l[j]?)=seen.filterMap (fun j=>l[j]?)++[e]:=by
  grind
 obtain⟨q,hq⟩:=G55 (l:=l) hn hb;rw [h0,List.append_assoc] at hq;obtain⟨o,o1,o2,_⟩:=Gca (h3 (e::q) hq);refine⟨o,o1,o2,fun s' ho=>⟨⟨hn,hb⟩,fun q' h4=>?_⟩⟩;rw [h0,List.append_assoc] at h4;obtain⟨o',p1,_,p3⟩:=Gca (h3 (e::q') h4);grind
theorem MInv.done (h:MInv b kx l seen s) (ha:∀ j,j < l.length->j∈seen):∃ p,kx s=some p∧p:=by
 obtain⟨⟨h1,h2⟩,h3⟩:=h;obtain⟨q,hq⟩:=G55 (l:=l) h1 h2;have hl:(seen.filterMap (fun j=>l[j]?)).length=l.length:=by
  have hp:seen.Perm (List.range l.length):=(List.perm_ext_iff_of_nodup h1 List.nodup_range).2 (fun j=>by
   rw [List.mem_range]; exact⟨h2 j,ha j⟩)
  have h5:(seen.filterMap (fun j=>l[j]?)).length=seen.length:=by
   have:∀ s:AK,(∀ j∈s,j < l.length)->(s.filterMap (fun j=>l[j]?)).length=s.length:=by
    intro s
    induction s with
    | nil=>intro _; rfl
    | cons a r ih=>
     grind
   exact this seen h2
  rw [h5,hp.length_eq,List.length_range]
 have h0:q=[]:=by
  have:=hq.length_eq;rw [Sn,hl] at this;exact S1 (by omega)
 subst h0;exact h3 [] hq
end range
end Go.Proofs.YtibhpogonkdiaaaGreat
