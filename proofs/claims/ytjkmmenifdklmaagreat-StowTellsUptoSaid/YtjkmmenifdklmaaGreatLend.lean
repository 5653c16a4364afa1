/-
 Slices of the call's own: frozen,described anew,lent to calls that only read; calls on local objects.
-/
import Derived.Test.YtjkmmenifdklmaaGreatVec
set_option linter.unusedVariables false
set_option linter.unusedSimpArgs false
namespace Go.Proofs.YtjkmmenifdklmaaGreat
open Go.RowKit

section freeze
variable {P:Program} {N:G33} {Q:Post} {l l':Fr} {L L':Loc}

theorem V.vfreeze {w:World} {β:H6} {i ver n t k:Nat} {xs:List AV} {v:Value} (hsat:Sat w β L) (hi:lk L i=some (.vec t k ver xs)) (hdr:Hf7 L L') (hi':lk L' i=none) (h:V w β L (.vec i ver k n) v):V w β L' (.list k xs) v:=by
 obtain⟨rfl,hk,h⟩:=Ga2 hsat hi h
 rcases h with ⟨rfl,rfl,_⟩ | ⟨b,cap,vs,rfl,hb,h1,h2,h3,h4,h5⟩
 ·exact .data (.nil (Nat.zero_le _))
 ·have hlt:∀ j,j < (flat xs).length→j < vs.size:=fun j hj=>by
   rw [J9 hk] at hj
   have:=Nat.mul_le_mul_right k h1
   omega
  refine .data (.list (fun j=>vs.getD j undef) h1 h2 hk (fun j hj=>⟨⟨(Array.getElem?_eq_some_iff.1 h3).1,hsat.apart i b _ (by rw [hi]; rfl) hb,fun id o ho hb'=>?_⟩,?_⟩) (fun j u hu=>?_))
  ·obtain⟨o0,ho0,_⟩:=hdr.like id o ho
   have:=hsat.inj i id b (by rw [hi]; rfl) (by rw [ho0]; rfl) hb hb'
   subst this
   rw [hi'] at ho; cases ho
  ·have:=hlt j hj
   simp [World.cell?,h3,this]
  ·have hj:=(List.getElem?_eq_some_iff.1 hu).1
   have:=hlt j hj
   refine(h5 j u _ hu ?_).mono fun b i hs=>⟨hdr.stab hs,rfl⟩
   simp [this]

inductive FrzV (i ver k:Nat) (xs:List AV) (ok:Nat→Bool):AV→AV→Prop
 | conv {u u':AV} (h:Conv ok u u'):FrzV i ver k xs ok u u'
 | vec {n:Nat}:FrzV i ver k xs ok (.vec i ver k n) (.list k xs)
def Jca (i ver k:Nat) (xs:List AV) (ok:Nat→Bool) (l:Fr):Fr→Prop
 | []=>True
 | (t,u)::r=>FrzV i ver k xs ok (look l t) u∧Jca i ver k xs ok l r
theorem Jca.get {i ver k:Nat} {xs:List AV} {ok:Nat→Bool} {l:Fr}:∀ {l':Fr},Jca i ver k xs ok l l'→∀ t,FrzV i ver k xs ok (look l t) (look l' t)
 | [],_,t=>.conv .junk
 | (s,u)::r,h,t=>by
  simp only [look]
  cases hb:Nat.beq s t with
  | true=>have:=Nat.eq_of_beq_eq_true hb; subst this; exact h.1
  | false=>exact Jca.get h.2 t

theorem Y9.vfreeze {w0 w:World} {β0 β:H6} {L0:Loc} {a:Act} (hs:Y9 N w0 β0 L0 a w β l L) (i:Nat) {t ver k:Nat} {xs:List AV} (hi:lk L i=some (.vec t k ver xs))
  (hi':lk L' i=none) (hl:Gb7 (fun j=>(lk L' j).isSome) L L') (hb:allIn L' N.base=true) (hf:Jca i ver k xs (fun j=>(lk L' j).isSome) l l'):Y9 N w0 β0 L0 a w β l' L':=by
 have hfit:Fits N.base l L [] L':=⟨trivial,hl,hb⟩
 have h1:=hs.fits hfit
 refine⟨h1.sat,h1.step,⟨fun t'=>?_⟩,h1.size,h1.base,h1.defers⟩
 have hv:=hs.frame.tmp t'
 generalize hu:look l t'=u at hv
 have hz:=hf.get t'
 rw [hu] at hz
 generalize look l' t'=u' at hz
 cases hz with
 | conv hc=>exact hv.conv hfit.drop hc
 | vec=>exact hv.vfreeze hs.sat hi hfit.drop hi'
theorem Q5f {c:Code} (l':Fr) (L':Loc) (i:Nat) {t ver k:Nat} {xs:List AV} (hi:lk L i=some (.vec t k ver xs)) (hi':lk L' i=none) (hl:Gb7 (fun j=>(lk L' j).isSome) L L') (hb:allIn L' N.base=true)
  (hf:Jca i ver k xs (fun j=>(lk L' j).isSome) l l') (hk:JC P N c Q l' L'):JC P N c Q l L:=fun n w0 β0 L0 a w β hs=>hk n w0 β0 L0 a w β (hs.vfreeze i hi hi' hl hb hf)
end freeze

section calls
variable {P:Program} {o:Oper} {l:Fr} {L:Loc} {u:AV}

inductive Hc2 (L:Loc):AV→AV→Prop
 | data {u u':AV} (h:u.plain=u') (hd:u'.isData=true):Hc2 L u u'
 | vec {i ver k n t:Nat} {xs:List AV} (hi:lk L i=some (.vec t k ver xs)):Hc2 L (.vec i ver k n) (.list k xs)
def H37 (l:Fr) (L:Loc):List Operand→List AV→Prop
 | [],[]=>True
 | x::r,u::s=>Hc2 L (ev l x) u∧H37 l L r s
 | _,_=>False
theorem H37.length {l:Fr} {L:Loc}:∀ {xs:List Operand} {us:List AV},H37 l L xs us→xs.length=us.length
 | [],[],_=>rfl
 | _::r,_::s,h=>by simp [H37.length h.2]
theorem H37.get {l:Fr} {L:Loc}:∀ {xs:List Operand} {us:List AV},H37 l L xs us→∀ {j:Nat} {x:Operand} {u:AV},xs[j]? = some x→us[j]? = some u→Hc2 L (ev l x) u
 | [],[],_,j,x,u,h,_=>by simp at h
 | x::r,u::s,h,0,_,_,hx,hu=>by simp at hx hu; subst hx hu; exact h.1
 | x::r,u::s,h,j+1,_,_,hx,hu=>by simp at hx hu; exact H37.get h.2 hx hu

theorem Hc2.D {w:World} {β:H6} {u u':AV} {v:Value} (hsat:Sat w β L) (h:Hc2 L u u') (hv:V w β L u v):D w (fun b _=>b < w.heap.size) u' v:=by
 cases h with
 | data h hd=>
  subst h
  exact(hv.plain.toD hd).mono fun b i hs=>⟨hs.lt,rfl⟩
 | @vec i ver k n t xs hi=>
  have hd:Hf7 L (L.filter fun p=>!Nat.beq p.1 i):=by
   refine⟨fun id o' h=>?_⟩
   have:lk L id=some o':=by
    clear hsat hi hv
    induction L with
    | nil=>simp [lk] at h
    | cons p r ih=>
     obtain⟨q,ob⟩:=p
     rw [List.filter_cons] at h
     by_cases e:(!Nat.beq (q,ob).1 i)=true
     ·rw [if_pos e,Gm] at h
      rw [Gm]
      by_cases e2:q=id
      ·rw [if_pos e2] at h ⊢; exact h
      ·rw [if_neg e2] at h ⊢; exact ih h
     ·rw [if_neg e] at h
      rw [Gm]
      by_cases e2:q=id
      ·exfalso
       subst e2
       have hqi:q=i:=by
        cases hb:Nat.beq q i with
        | true=>exact Nat.eq_of_beq_eq_true hb
        | false=>exact absurd (by simp [hb]) e
       subst hqi
       have hno:∀ r:Loc,lk (r.filter fun p=>!Nat.beq p.1 q) q=none:=by
        intro r
        induction r with
        | nil=>rfl
        | cons p r ih2=>
         rw [List.filter_cons]
         by_cases e3:(!Nat.beq p.1 q)=true
         ·rw [if_pos e3,Gm,if_neg (fun e4=>by rw [e4] at e3; simp at e3)]; exact ih2
         ·rw [if_neg e3]; exact ih2
       rw [hno] at h; cases h
      ·rw [if_neg e2]; exact ih h
   exact⟨o',this,by cases o' <;> simp [Jd.like]⟩
  have hn:lk (L.filter fun p=>!Nat.beq p.1 i) i=none:=by
   clear hsat hi hv hd
   induction L with
   | nil=>rfl
   | cons p r ih2=>
    rw [List.filter_cons]
    by_cases e3:(!Nat.beq p.1 i)=true
    ·rw [if_pos e3,Gm,if_neg (fun e4=>by rw [e4] at e3; simp at e3)]; exact ih2
    ·rw [if_neg e3]; exact ih2
  exact((hv.vfreeze hsat hi hd hn).inv_list).mono fun b i hs=>⟨hs.lt,rfl⟩

def Hb2 (l:Fr) (L0:Loc):List Operand→List AV→Prop
 | [],[]=>True
 | x::r,u::s=>(ev l x=u∨(ev l x).plain=u)∧u.refs (Zw L0)=true∧Hb2 l L0 r s
 | _,_=>False
theorem Hb2.length {l:Fr} {L0:Loc}:∀ {xs:List Operand} {us:List AV},Hb2 l L0 xs us→xs.length=us.length
 | [],[],_=>rfl
 | _::r,_::s,h=>by simp [Hb2.length h.2.2]
theorem Hb2.get {l:Fr} {L0:Loc}:∀ {xs:List Operand} {us:List AV},Hb2 l L0 xs us→∀ {j:Nat} {x:Operand} {u:AV},xs[j]? = some x→us[j]? = some u→(ev l x=u∨(ev l x).plain=u)∧u.refs (Zw L0)=true
 | [],[],_,j,x,u,h,_=>by simp at h
 | x::r,u::s,h,0,_,_,hx,hu=>by simp at hx hu; subst hx hu; exact⟨h.1,h.2.1⟩
 | x::r,u::s,h,j+1,_,_,hx,hu=>by simp at hx hu; exact Hb2.get h.2.2 hx hu

def subL (L:Loc):Loc→Prop
 | []=>True
 | (i,ob)::r=>lk L i=some ob∧subL L r
theorem subL.get {L:Loc}:∀ {L0:Loc},subL L L0→∀ {id:Nat} {ob:Jd},lk L0 id=some ob→lk L id=some ob
 | [],_,id,ob,h=>by simp [lk] at h
 | (i,o')::r,hs,id,ob,h=>by
  rw [Gm] at h
  by_cases e:i=id
  ·subst e; rw [if_pos rfl] at h; cases h; exact hs.1
  ·rw [if_neg e] at h; exact subL.get hs.2 h
def closedIn (ok:Nat→Bool):Loc→Bool
 | []=>true
 | (_,ob)::r=>ob.refs ok&&closedIn ok r
theorem closedIn.get {ok:Nat→Bool}:∀ {L0:Loc},closedIn ok L0=true→∀ {id:Nat} {ob:Jd},lk L0 id=some ob→ob.refs ok=true
 | [],_,id,ob,h=>by simp [lk] at h
 | (i,o')::r,hs,id,ob,h=>by
  simp only [closedIn,Bool.and_eq_true] at hs
  rw [Gm] at h
  by_cases e:i=id
  ·subst e; rw [if_pos rfl] at h; cases h; exact hs.1
  ·rw [if_neg e] at h; exact closedIn.get hs.2 h
def H03 (L L0:Loc):Loc→Bool
 | []=>true
 | (i,_)::r=>(Zw L0 i||!Zw L i)&&H03 L L0 r
theorem H03.get {L L0:Loc}:∀ {Lr:Loc},H03 L L0 Lr=true→∀ {id:Nat},Zw Lr id=true→Zw L0 id=true∨lk L id=none
 | [],_,id,h=>by simp [Zw,lk] at h
 | (i,_)::r,hs,id,h=>by
  simp only [H03,Bool.and_eq_true,Bool.or_eq_true,Bool.not_eq_true'] at hs
  rw [Zw,Gm] at h
  by_cases e:i=id
  ·subst e
   exact hs.1.imp id (fun h=>by simpa [Zw] using h)
  ·rw [if_neg e] at h; exact H03.get hs.2 h

theorem call_core {f:FuncId} {vs:Array Value} {args:List AV} {L0 Lr L'':Loc} {a:Act} {w:World} {β:H6} {K:Act→World→Prop} {Q:Exit→Act→World→Prop} (hc:Re P f args L0 (fun r L'=>r=u∧L'=Lr)) (hsat:Sat w β L)
  (hsub:subL L L0) (hcl:closedIn (Zw L0) L0=true) (hnew:H03 L L0 Lr=true) (hL:Lr++H7c L L0=L'') (hl:vs.size=args.length)
  (hv:∀ (j:Nat) u v,args[j]? = some u→vs[j]? = some v→V w β L u v∧u.refs (Zw L0)=true)
  (hK:∀ u' L' v w' β',Is u L'' u' L'→Sat w' β' L'→Step w β L w' β' L'→V w' β' L' u' v→K (a.put o.dst v) w') :
  Calls P f vs w fun
   | .returned v,w''=>K (a.put o.dst v) w''
   | .panicked chain,w''=>Q (.panic chain) a w''
   | .outgrown,_=>LetsOut Q:=by
 refine(Jb0 hc hsat (fun id ob h=>hsub.get h) (fun id ob h=>closedIn.get hcl h) hl hv (fun r L' hR id h=>by rw [hR.2] at h; exact H03.get hnew h)).mono fun e w' h=>?_
 obtain⟨v,r,β',L',rfl,⟨rfl,rfl⟩,h1,h2,h3⟩:=h
 unfold Gdb at h1 h2 h3
 rw [hL] at h1 h2 h3
 exact hK _ _ v w' _ ⟨rfl,rfl⟩ h1 h2 h3

theorem Gcb {f:FuncId} {xs:List Operand} {args:List AV} {ts:Array TypeId} {L0 Lr L'':Loc} (ho:o.op=.call { callee:=.value (.func f),args:=xs.toArray,argTypes:=ts }) (hc:Re P f args L0 (fun r L'=>r=u∧L'=Lr)) (hB:H8 P f=true) (ha:Hb2 l L0 xs args)
  (hsub:subL L L0) (hcl:closedIn (Zw L0) L0=true) (hnew:H03 L L0 Lr=true) (hL:Lr++H7c L L0=L''):H1 P o l L (Is u L''):=by
 intro a w β K Q hsat hf hK
 have hr:(execOp a.eval o).run P w=.ok (.enter f (xs.toArray.map a.eval)) w:=by
  simp [execOp,ho,resolve,Act.eval,Deferred.ofValue,invoke,H8.out hB]
 unfold Oper.wp
 rw [hr]
 refine call_core hc hsat hsub hcl hnew hL (by simp [ha.length]) (fun j u v hu hv=>?_) hK
 simp only [Array.getElem?_map,List.getElem?_toArray,Option.map_eq_some_iff] at hv
 obtain⟨x,hx,rfl⟩:=hv
 obtain⟨h1,h2⟩:=ha.get hx hu
 refine⟨?_,h2⟩
 rcases h1 with h1 | h1
 ·rw [← h1]; exact hf.ev x
 ·rw [← h1]; exact(hf.ev x).plain

theorem Jd4 {f:FuncId} {x:Operand} {xs:List Operand} {args caps:List AV} {ts:Array TypeId} {L0 Lr L'':Loc} (ho:o.op=.call { callee:=.value x,args:=xs.toArray,argTypes:=ts }) (hx:ev l x=.fn f caps) (hc:Re P f (args++caps) L0 (fun r L'=>r=u∧L'=Lr)) (hB:H8 P f=true) (ha:Hb2 l L0 xs args)
  (hcd:Zz (Zw L0) caps=true) (hsub:subL L L0) (hcl:closedIn (Zw L0) L0=true) (hnew:H03 L L0 Lr=true) (hL:Lr++H7c L L0=L''):H1 P o l L (Is u L''):=by
 intro a w β K Q hsat hf hK
 have hvx:=hf.ev x
 rw [hx] at hvx
 obtain⟨cs,he,hcl',hcv⟩:=hvx.inv_fn
 have hr:(execOp a.eval o).run P w=.ok (.enter f (xs.toArray.map a.eval++cs)) w:=by
  simp [execOp,ho,resolve,he,Deferred.ofValue,invoke,H8.out hB]
 unfold Oper.wp
 rw [hr]
 refine call_core hc hsat hsub hcl hnew hL (by simp [ha.length,hcl']) (fun j u v hu hv=>?_) hK
 rcases Nat.lt_or_ge j args.length with hj | hj
 ·rw [List.getElem?_append_left hj] at hu
  rw [Array.getElem?_append_left (by simp [ha.length]; exact hj)] at hv
  simp only [Array.getElem?_map,List.getElem?_toArray,Option.map_eq_some_iff] at hv
  obtain⟨y,hy,rfl⟩:=hv
  obtain⟨h1,h2⟩:=ha.get hy hu
  refine⟨?_,h2⟩
  rcases h1 with h1 | h1
  ·rw [← h1]; exact hf.ev y
  ·rw [← h1]; exact(hf.ev y).plain
 ·rw [List.getElem?_append_right hj] at hu
  rw [Array.getElem?_append_right (by simp [ha.length]; exact hj)] at hv
  simp only [Array.size_map,List.size_toArray,ha.length] at hv
  exact⟨hcv _ u v hu hv,G06 hcd u (List.mem_of_getElem? hu)⟩
end calls
end Go.Proofs.YtjkmmenifdklmaaGreat
