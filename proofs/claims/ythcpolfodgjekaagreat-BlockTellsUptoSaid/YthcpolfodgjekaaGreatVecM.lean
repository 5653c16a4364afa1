/-
 Slices of the call's own: frozen,described anew,lent to calls that only read; calls on local objects. Slices of typed elements that the call may write in place.
-/
import Derived.Test.YthcpolfodgjekaaGreatVec
namespace Go.Proofs.YthcpolfodgjekaaGreat
open Go.RowKit

section freeze
variable {P:Program} {N:G4f} {Q:Post} {l l':Fr} {L L':Loc}

theorem V.vfreeze {w:World} {β:H7} {i ver n t k:Nat} {xs:List AV} {v:Value} (hsat:Sat w β L) (hi:lk L i=some (.vec t k ver xs)) (hdr:J2f L L') (hi':lk L' i=none) (h:V w β L (.vec i ver k n) v):V w β L' (.list k xs) v:=by
 obtain⟨rfl,hk,h⟩:=Gc3 hsat hi h
 rcases h with ⟨rfl,rfl,_⟩ | ⟨b,cap,vs,rfl,hb,h1,h2,h3,h4,h5⟩
 ·exact .data (.nil (Nat.zero_le _))
 ·have hlt:∀ j,j < (flat xs).length→j < vs.size:=fun j hj=>by
   rw [Jh hk] at hj
   have:=Nat.mul_le_mul_right k h1
   omega
  refine .data (.list (fun j=>vs.getD j undef) h1 h2 hk (fun j hj=>⟨⟨(Array.getElem?_eq_some_iff.1 h3).1,hsat.apart i b _ (by rw [hi]; rfl) hb,fun id o ho hb'=>?_⟩,?_⟩) (fun j u hu=>?_))
  ·obtain⟨o0,ho0,_⟩:=hdr.like id o ho
   have:=hsat.inj i id b (by rw [hi]; rfl) (by rw [ho0]; rfl) hb hb'
   subst this
   rw [hi'] at ho; cases ho
  ·have:=hlt j hj
   simp [World.cell?,h3,this]
  ·have hj:=(List.getElem?_eq_some_iff.1 hu).1
   have:=hlt j hj
   refine(h5 j u _ hu ?_).mono fun b i hs=>⟨hdr.stab hs,rfl⟩
   simp [this]

inductive FrzV (i ver k:Nat) (xs:List AV) (ok:Nat→Bool):AV→AV→Prop
 | conv {u u':AV} (h:Conv ok u u'):FrzV i ver k xs ok u u'
 | vec {n:Nat}:FrzV i ver k xs ok (.vec i ver k n) (.list k xs)
def Q20 (i ver k:Nat) (xs:List AV) (ok:Nat→Bool) (l:Fr):Fr→Prop
 | []=>True
 | (t,u)::r=>FrzV i ver k xs ok (look l t) u∧Q20 i ver k xs ok l r
theorem Q20.get {i ver k:Nat} {xs:List AV} {ok:Nat→Bool} {l:Fr}:∀ {l':Fr},Q20 i ver k xs ok l l'→∀ t,FrzV i ver k xs ok (look l t) (look l' t)
 | [],_,t=>.conv .junk
 | (s,u)::r,h,t=>by
  simp only [look]
  cases hb:Nat.beq s t with
  | true=>have:=Nat.eq_of_beq_eq_true hb; subst this; exact h.1
  | false=>exact Q20.get h.2 t

theorem Y6.vfreeze {w0 w:World} {β0 β:H7} {L0:Loc} {a:Act} (hs:Y6 N w0 β0 L0 a w β l L) (i:Nat) {t ver k:Nat} {xs:List AV} (hi:lk L i=some (.vec t k ver xs))
  (hi':lk L' i=none) (hl:Gd9 (fun j=>(lk L' j).isSome) L L') (hb:allIn L' N.base=true) (hf:Q20 i ver k xs (fun j=>(lk L' j).isSome) l l'):Y6 N w0 β0 L0 a w β l' L':=by
 have hfit:Fits N.base l L [] L':=⟨trivial,hl,hb⟩
 have h1:=hs.fits hfit
 refine⟨h1.sat,h1.step,⟨fun t'=>?_⟩,h1.size,h1.base,h1.defers⟩
 have hv:=hs.frame.tmp t'
 generalize hu:look l t'=u at hv
 have hz:=hf.get t'
 rw [hu] at hz
 generalize look l' t'=u' at hz
 cases hz with
 | conv hc=>exact hv.conv hfit.drop hc
 | vec=>exact hv.vfreeze hs.sat hi hfit.drop hi'
theorem Q1c {c:Code} (l':Fr) (L':Loc) (i:Nat) {t ver k:Nat} {xs:List AV} (hi:lk L i=some (.vec t k ver xs)) (hi':lk L' i=none) (hl:Gd9 (fun j=>(lk L' j).isSome) L L') (hb:allIn L' N.base=true)
  (hf:Q20 i ver k xs (fun j=>(lk L' j).isSome) l l') (hk:JC P N c Q l' L'):JC P N c Q l L:=fun n w0 β0 L0 a w β hs=>hk n w0 β0 L0 a w β (hs.vfreeze i hi hi' hl hb hf)
end freeze

section calls
variable {P:Program} {o:Oper} {l:Fr} {L:Loc} {u:AV}

inductive Gb1 (L:Loc):AV→AV→Prop
 | data {u u':AV} (h:u.plain=u') (hd:u'.isData=true):Gb1 L u u'
 | vec {i ver k n t:Nat} {xs:List AV} (hi:lk L i=some (.vec t k ver xs)):Gb1 L (.vec i ver k n) (.list k xs)
 | agg {cs ds:List AV} (hl:ds.length=cs.length) (h:∀ (j:Nat) u u',cs[j]? = some u→ds[j]? = some u'→Gb1 L u u'):Gb1 L (.agg cs) (.agg ds)
def H60 (L:Loc):List AV→List AV→Prop
 | [],[]=>True
 | u::r,u'::s=>Gb1 L u u'∧H60 L r s
 | _,_=>False
theorem H60.len {L:Loc}:∀ {cs ds:List AV},H60 L cs ds→ds.length=cs.length
 | [],[],_=>rfl
 | _::_,_::_,h=>by simp [H60.len h.2]
theorem H60.get {L:Loc}:∀ {cs ds:List AV},H60 L cs ds→∀ (j:Nat) u u',cs[j]? = some u→ds[j]? = some u'→Gb1 L u u'
 | _::_,_::_,h,0,_,_,h1,h2=>by simp at h1 h2; subst h1 h2; exact h.1
 | _::_,_::_,h,j+1,u,u',h1,h2=>H60.get h.2 j u u' (by simpa using h1) (by simpa using h2)
 | [],[],_,j,_,_,h1,_=>by simp at h1
theorem Gb1.aggL {L:Loc} {cs ds:List AV} (h:H60 L cs ds):Gb1 L (.agg cs) (.agg ds):=.agg h.len h.get
def H63 (l:Fr) (L:Loc):List Operand→List AV→Prop
 | [],[]=>True
 | x::r,u::s=>Gb1 L (ev l x) u∧H63 l L r s
 | _,_=>False
theorem H63.length {l:Fr} {L:Loc}:∀ {xs:List Operand} {us:List AV},H63 l L xs us→xs.length=us.length
 | [],[],_=>rfl
 | _::r,_::s,h=>by simp [H63.length h.2]
theorem H63.get {l:Fr} {L:Loc}:∀ {xs:List Operand} {us:List AV},H63 l L xs us→∀ {j:Nat} {x:Operand} {u:AV},xs[j]? = some x→us[j]? = some u→Gb1 L (ev l x) u
 | [],[],_,j,x,u,h,_=>by simp at h
 | x::r,u::s,h,0,_,_,hx,hu=>by simp at hx hu; subst hx hu; exact h.1
 | x::r,u::s,h,j+1,_,_,hx,hu=>by simp at hx hu; exact H63.get h.2 hx hu

theorem Gb1.D {w:World} {β:H7} {u u':AV} (hsat:Sat w β L) (h:Gb1 L u u'):∀ {v:Value},V w β L u v→D w (fun b _=>b < w.heap.size) u' v:=by
 induction h with
 | agg hl _ ih=>
  intro v hv
  obtain⟨vs,rfl,hl2,hvs⟩:=hv.inv_agg
  refine .agg (hl2.trans hl.symm) fun j u' x hu' hx=>?_
  have hj:j < _:=(List.getElem?_eq_some_iff.1 hu').1
  exact ih j _ u' (List.getElem?_eq_getElem (hl ▸ hj)) hu' (hvs j _ x (List.getElem?_eq_getElem (hl ▸ hj)) hx)
 | data h hd=>
  intro v hv
  subst h
  exact(hv.plain.toD hd).mono fun b i hs=>⟨hs.lt,rfl⟩
 | @vec i ver k n t xs hi=>
  intro v hv
  have hd:J2f L (L.filter fun p=>!Nat.beq p.1 i):=by
   refine⟨fun id o' h=>?_⟩
   have:lk L id=some o':=by
    clear hsat hi hv
    induction L with
    | nil=>simp [lk] at h
    | cons p r ih=>
     obtain⟨q,ob⟩:=p
     rw [List.filter_cons] at h
     by_cases e:(!Nat.beq (q,ob).1 i)=true
     ·rw [if_pos e,Gs] at h
      rw [Gs]
      by_cases e2:q=id
      ·rw [if_pos e2] at h ⊢; exact h
      ·rw [if_neg e2] at h ⊢; exact ih h
     ·rw [if_neg e] at h
      rw [Gs]
      by_cases e2:q=id
      ·exfalso
       subst e2
       have hqi:q=i:=by
        cases hb:Nat.beq q i with
        | true=>exact Nat.eq_of_beq_eq_true hb
        | false=>exact absurd (by simp [hb]) e
       subst hqi
       have hno:∀ r:Loc,lk (r.filter fun p=>!Nat.beq p.1 q) q=none:=by
        intro r
        induction r with
        | nil=>rfl
        | cons p r ih2=>
         rw [List.filter_cons]
         by_cases e3:(!Nat.beq p.1 q)=true
         ·rw [if_pos e3,Gs,if_neg (fun e4=>by rw [e4] at e3; simp at e3)]; exact ih2
         ·rw [if_neg e3]; exact ih2
       rw [hno] at h; cases h
      ·rw [if_neg e2]; exact ih h
   exact⟨o',this,by cases o' <;> simp [Jn.like]⟩
  have hn:lk (L.filter fun p=>!Nat.beq p.1 i) i=none:=by
   clear hsat hi hv hd
   induction L with
   | nil=>rfl
   | cons p r ih2=>
    rw [List.filter_cons]
    by_cases e3:(!Nat.beq p.1 i)=true
    ·rw [if_pos e3,Gs,if_neg (fun e4=>by rw [e4] at e3; simp at e3)]; exact ih2
    ·rw [if_neg e3]; exact ih2
  exact((hv.vfreeze hsat hi hd hn).inv_list).mono fun b i hs=>⟨hs.lt,rfl⟩

def He5 (l:Fr) (L0:Loc):List Operand→List AV→Prop
 | [],[]=>True
 | x::r,u::s=>(ev l x=u∨(ev l x).plain=u)∧u.refs (G0a L0)=true∧He5 l L0 r s
 | _,_=>False
theorem He5.length {l:Fr} {L0:Loc}:∀ {xs:List Operand} {us:List AV},He5 l L0 xs us→xs.length=us.length
 | [],[],_=>rfl
 | _::r,_::s,h=>by simp [He5.length h.2.2]
theorem He5.get {l:Fr} {L0:Loc}:∀ {xs:List Operand} {us:List AV},He5 l L0 xs us→∀ {j:Nat} {x:Operand} {u:AV},xs[j]? = some x→us[j]? = some u→(ev l x=u∨(ev l x).plain=u)∧u.refs (G0a L0)=true
 | [],[],_,j,x,u,h,_=>by simp at h
 | x::r,u::s,h,0,_,_,hx,hu=>by simp at hx hu; subst hx hu; exact⟨h.1,h.2.1⟩
 | x::r,u::s,h,j+1,_,_,hx,hu=>by simp at hx hu; exact He5.get h.2.2 hx hu

def subL (L:Loc):Loc→Prop
 | []=>True
 | (i,ob)::r=>lk L i=some ob∧subL L r
theorem subL.get {L:Loc}:∀ {L0:Loc},subL L L0→∀ {id:Nat} {ob:Jn},lk L0 id=some ob→lk L id=some ob
 | [],_,id,ob,h=>by simp [lk] at h
 | (i,o')::r,hs,id,ob,h=>by
  rw [Gs] at h
  by_cases e:i=id
  ·subst e; rw [if_pos rfl] at h; cases h; exact hs.1
  ·rw [if_neg e] at h; exact subL.get hs.2 h
def closedIn (ok:Nat→Bool):Loc→Bool
 | []=>true
 | (_,ob)::r=>ob.refs ok&&closedIn ok r
theorem closedIn.get {ok:Nat→Bool}:∀ {L0:Loc},closedIn ok L0=true→∀ {id:Nat} {ob:Jn},lk L0 id=some ob→ob.refs ok=true
 | [],_,id,ob,h=>by simp [lk] at h
 | (i,o')::r,hs,id,ob,h=>by
  simp only [closedIn,Bool.and_eq_true] at hs
  rw [Gs] at h
  by_cases e:i=id
  ·subst e; rw [if_pos rfl] at h; cases h; exact hs.1
  ·rw [if_neg e] at h; exact closedIn.get hs.2 h
def H2b (L L0:Loc):Loc→Bool
 | []=>true
 | (i,_)::r=>(G0a L0 i||!G0a L i)&&H2b L L0 r
theorem H2b.get {L L0:Loc}:∀ {Lr:Loc},H2b L L0 Lr=true→∀ {id:Nat},G0a Lr id=true→G0a L0 id=true∨lk L id=none
 | [],_,id,h=>by simp [G0a,lk] at h
 | (i,_)::r,hs,id,h=>by
  simp only [H2b,Bool.and_eq_true,Bool.or_eq_true,Bool.not_eq_true'] at hs
  rw [G0a,Gs] at h
  by_cases e:i=id
  ·subst e
   exact hs.1.imp id (fun h=>by simpa [G0a] using h)
  ·rw [if_neg e] at h; exact H2b.get hs.2 h

theorem call_core {f:FuncId} {vs:Array Value} {args:List AV} {L0 Lr L'':Loc} {a:Act} {w:World} {β:H7} {K:Act→World→Prop} {Q:Exit→Act→World→Prop} (hc:Y1 P f args L0 (fun r L'=>r=u∧L'=Lr)) (hsat:Sat w β L)
  (hsub:subL L L0) (hcl:closedIn (G0a L0) L0=true) (hnew:H2b L L0 Lr=true) (hL:Lr++Hab L L0=L'') (hl:vs.size=args.length)
  (hv:∀ (j:Nat) u v,args[j]? = some u→vs[j]? = some v→V w β L u v∧u.refs (G0a L0)=true)
  (hK:∀ u' L' v w' β',Is u L'' u' L'→Sat w' β' L'→Step w β L w' β' L'→V w' β' L' u' v→K (a.put o.dst v) w') :
  Calls P f vs w fun
   | .returned v,w''=>K (a.put o.dst v) w''
   | .panicked chain,w''=>Q (.panic chain) a w''
   | .outgrown,_=>LetsOut Q:=by
 refine(Jf8 hc hsat (fun id ob h=>hsub.get h) (fun id ob h=>closedIn.get hcl h) hl hv (fun r L' hR id h=>by rw [hR.2] at h; exact H2b.get hnew h)).mono fun e w' h=>?_
 obtain⟨v,r,β',L',rfl,⟨rfl,rfl⟩,h1,h2,h3⟩:=h
 unfold H00 at h1 h2 h3
 rw [hL] at h1 h2 h3
 exact hK _ _ v w' _ ⟨rfl,rfl⟩ h1 h2 h3

theorem Hfa {f:FuncId} {xs:List Operand} {args:List AV} {ts:Array TypeId} {L0 Lr L'':Loc} (ho:o.op=.call { callee:=.value (.func f),args:=xs.toArray,argTypes:=ts }) (hc:Y1 P f args L0 (fun r L'=>r=u∧L'=Lr)) (hB:Ha P f=true) (ha:He5 l L0 xs args)
  (hsub:subL L L0) (hcl:closedIn (G0a L0) L0=true) (hnew:H2b L L0 Lr=true) (hL:Lr++Hab L L0=L''):H4 P o l L (Is u L''):=by
 intro a w β K Q hsat hf hK
 have hr:(execOp a.eval o).run P w=.ok (.enter f (xs.toArray.map a.eval)) w:=by
  simp [execOp,ho,resolve,Act.eval,Deferred.ofValue,invoke,Ha.out hB]
 unfold Oper.wp
 rw [hr]
 refine call_core hc hsat hsub hcl hnew hL (by simp [ha.length]) (fun j u v hu hv=>?_) hK
 simp only [Array.getElem?_map,List.getElem?_toArray,Option.map_eq_some_iff] at hv
 obtain⟨x,hx,rfl⟩:=hv
 obtain⟨h1,h2⟩:=ha.get hx hu
 refine⟨?_,h2⟩
 rcases h1 with h1 | h1
 ·rw [← h1]; exact hf.ev x
 ·rw [← h1]; exact(hf.ev x).plain

theorem Q2b {f:FuncId} {x:Operand} {xs:List Operand} {args caps:List AV} {ts:Array TypeId} {L0 Lr L'':Loc} (ho:o.op=.call { callee:=.value x,args:=xs.toArray,argTypes:=ts }) (hx:ev l x=.fn f caps) (hc:Y1 P f (args++caps) L0 (fun r L'=>r=u∧L'=Lr)) (hB:Ha P f=true) (ha:He5 l L0 xs args)
  (hcd:G15 (G0a L0) caps=true) (hsub:subL L L0) (hcl:closedIn (G0a L0) L0=true) (hnew:H2b L L0 Lr=true) (hL:Lr++Hab L L0=L''):H4 P o l L (Is u L''):=by
 intro a w β K Q hsat hf hK
 have hvx:=hf.ev x
 rw [hx] at hvx
 obtain⟨cs,he,hcl',hcv⟩:=hvx.inv_fn
 have hr:(execOp a.eval o).run P w=.ok (.enter f (xs.toArray.map a.eval++cs)) w:=by
  simp [execOp,ho,resolve,he,Deferred.ofValue,invoke,Ha.out hB]
 unfold Oper.wp
 rw [hr]
 refine call_core hc hsat hsub hcl hnew hL (by simp [ha.length,hcl']) (fun j u v hu hv=>?_) hK
 rcases Nat.lt_or_ge j args.length with hj | hj
 ·rw [List.getElem?_append_left hj] at hu
  rw [Array.getElem?_append_left (by simp [ha.length]; exact hj)] at hv
  simp only [Array.getElem?_map,List.getElem?_toArray,Option.map_eq_some_iff] at hv
  obtain⟨y,hy,rfl⟩:=hv
  obtain⟨h1,h2⟩:=ha.get hy hu
  refine⟨?_,h2⟩
  rcases h1 with h1 | h1
  ·rw [← h1]; exact hf.ev y
  ·rw [← h1]; exact(hf.ev y).plain
 ·rw [List.getElem?_append_right hj] at hu
  rw [Array.getElem?_append_right (by simp [ha.length]; exact hj)] at hv
  simp only [Array.size_map,List.size_toArray,ha.length] at hv
  exact⟨hcv _ u v hu hv,G1f hcd u (List.mem_of_getElem? hu)⟩
end calls
end Go.Proofs.YthcpolfodgjekaaGreat
namespace Go.Proofs.YthcpolfodgjekaaGreat
open Go.RowKit

section ops
variable {P:Program} {N:G4f} {Q:Post} {o:Oper} {ops:Array Oper} {rest:List Oper} {l:Fr} {L L':Loc} {u:AV} {α:Type}

theorem Ge6 {s x:Operand} {T E k by_ i ver ver1 n kx:Nat} {f:α→AV} {xs ys:List α} (ho:o.op=.call { callee:=.builtin .append,args:=#[s,x],argTypes:=#[T,T] }) (hs:ev l s=.vec i ver k n) (hi:lk L i=some (.vec E k ver (xs.map f))) (hx:Qe (ev l x)=some (kx,ys.map f))
  (hT:sliceB P T E k=true) (hE:Z5 P E k by_=true) (hb:decide ((xs.length+ys.length)*by_≤140737488355328∧xs.length+ys.length≤maxLen)=true) (hcell:∀ y,(f y).flatOk=true) (hk:kx=k∨ys=[]) (hv:ver < ver1) :
  H4 P o l L (Is (.vec i ver1 k (xs++ys).length) ((i,.vec E k ver1 ((xs++ys).map f))::L)):=by
 have hb':=of_decide_eq_true hb
 have h:=A_vappend (xs:=xs.map f) (ys:=ys.map f) ho hs hi hx hT hE (by simpa using hb'.1) (by simpa using hb'.2) (fun y hy=>by
  obtain⟨z,_,rfl⟩:=List.mem_map.1 hy
  exact hcell z) (hk.imp id (fun e=>by rw [e]; rfl)) hv
 simpa only [List.map_append,List.length_append,List.length_map] using h
theorem J59 {x ix:Operand} {T E k i ver n m:Nat} {kd:IntKind} {z:Int} {f:α→AV} {xs:List α} {y:α} (ho:o.op=.indexAddr T x ix) (hx:ev l x=.vec i ver k n) (hix:ev l ix=.sc (.int kd z)) (hi:lk L i=some (.vec E k ver (xs.map f))) (hT:sliceB P T E k=true) (hy:xs[m]? = some y) (hz:z=(m:Int)) :
  H4 P o l L (Is (.vptr i ver m 0) L):=A_vidx ho hx hix hi hT (by rw [List.length_map]; exact(List.getElem?_eq_some_iff.1 hy).1) hz
theorem Q23 {x:Operand} {T i ver m fo t k:Nat} {f:α→AV} {xs:List α} {y:α} (hT:Yf P T=true) (ho:o.op=.load T x) (hx:ev l x=.vptr i ver m fo) (hi:lk L i=some (.vec t k ver (xs.map f))) (hy:xs[m]? = some y) (hu:(f y).cells[fo]? = some u) (hfk:Nat.blt fo k=true):H4 P o l L (Is u L):=
 A_vload hT ho hx hi (mapq hy) hu (by simpa [Nat.blt_eq] using hfk)
theorem putN_whole {us cs:List AV} (h:us.length=cs.length):Hfb 0 us cs=some us:=by
 have key:∀ (us cs:List AV),us.length=cs.length→Hfb 0 us cs=some us:=by
  intro us
  induction us with
  | nil=>intro cs h; cases cs with
   | nil=>rfl
   | cons c r=>simp at h
  | cons a r ih=>intro cs h; cases cs with
   | nil=>simp at h
   | cons c s=>simp [Hfb,ih s (by simpa using h)]
 exact key us cs h
theorem Q39 {x y:Operand} {T i ver m t k:Nat} {f:α→AV} {xs:List α} {z:α} (hT:Ys P T k=true) (ho:o.op=.store T x y) (hu:ev l y=f z) (hx:ev l x=.vptr i ver m 0) (hi:lk L i=some (.vec t k ver (xs.map f))) (hm:m < xs.length)
  (hc:(f z).flatOk=true) (hd:(f z).isData=true) (hk:(f z).cells.length=k) (hpos:Nat.blt 0 k=true) :
  H4 P o l L (Is .junk ((i,.vec t k ver ((xs.set m z).map f))::L)):=by
 intro a w β K Q hsat hf hK
 obtain⟨o1,_⟩:=hsat.obj i _ hi
 have he:(xs.map f)[m]? = some (f xs[m]):=by simp [hm]
 have hel:(f xs[m]).cells.length=k:=o1 _ (List.mem_of_getElem? he)
 have h:=Q7a (P:=P) (e:=f xs[m]) (z:=f z) (ds:=(f z).cells) hT ho hu hx hi he hc hd (putN_whole (hk.trans hel.symm)) rfl hk hpos
 rw [← List.map_set] at h
 exact h a w β K Q hsat hf hK
theorem A_vmakeM (i:Nat) {x y:Operand} {T E k by_ n:Nat} {kd kd':IntKind} {nx ny:Int} {f:α→AV} (z:α) (zs:List Value) (ho:o.op=.makeSlice T x y) (hx:ev l x=.sc (.int kd nx)) (hy:ev l y=.sc (.int kd' ny)) (hi:lk L i=none)
  (hT:sliceB P T E k=true) (hE:Z5 P E k by_=true) (hz:(P.info? E).bind (fun i=>i.zero.map Value.cells)=some zs.toArray) (hn:nx=(n:Int)) (hm:ny=(n:Int)) (hb:decide (by_*n≤281474976710656∧n≤maxLen∧n*k≤16777216)=true)
  (hzz:ZOk (f z).cells zs) (hzk:(f z).cells.length=k) :
  H4 P o l L (Is (.vec i 0 k (List.replicate n z).length) ((i,.vec E k 0 ((List.replicate n z).map f))::L)):=by
 have h:=A_vmake (P:=P) (T:=T) (E:=E) i zs ho hx hy hi hT hE hz hn hm hb (f z) (fun w S j a b ha hb'=>by
  have:=ZOk.get (w:=w) (β:=⟨fun _=>none,fun b i=>¬ S b i⟩) (L:=[]) hzz j a b ha hb'
  refine(this.data_of_nil).mono fun b i hs=>⟨Classical.byContradiction fun hn=>hs.seen hn,rfl⟩) hzk
 simpa only [List.map_replicate,List.length_replicate] using h
def Gf1 (z:Int):Option Nat:=bif decide (0≤z) then some z.toNat else none
theorem G71 {z:Int} {n:Nat} (h:Gf1 z=some n):z=(n:Int):=by
 unfold Gf1 at h
 cases hb:decide (0≤z) with
 | true=>rw [hb] at h; cases h; have:=of_decide_eq_true hb; omega
 | false=>rw [hb] at h; cases h
end ops
end Go.Proofs.YthcpolfodgjekaaGreat
