/-
 Slices of the call's own: Slices of typed elements that the call may write in place. Maps of typed keys and elements: A statement whose order is open,in which more than one opera Slices of the call's own,sorted in place by the library. slices.SortFunc in a model. Slices of whole numbers of the call's own,sorted in place by
-/
import Derived.Test.YtmfhaflabpnaoaaGreatVec
import Derived.Shelf.SlSortCmp.WholeK
namespace Go.Proofs.YtmfhaflabpnaoaaGreat
open Go.RowKit

section freeze
variable {P:Program} {N:Cfg} {Q:Post} {l l':Fr} {L L':Loc}

theorem V.vfreeze {w:World} {β:H5} {i ver n t k:Nat} {xs:List AV} {v:Value} (h0:Sat w β L) (hi:lk L i=some (.vec t k ver xs)) (h6:J32 L L') (h8:lk L' i=none) (h:V w β L (.vec i ver k n) v):V w β L' (.list k xs) v:=by
 obtain⟨rfl,hk,h⟩:=G58 h0 hi h
 rcases h with ⟨rfl,rfl,_⟩ | ⟨b,cap,vs,rfl,hb,h1,h2,h3,h4,h5⟩
 ·exact .data (.nil (Nat.zero_le _))
 ·have h7:∀ j,j < (flat xs).length→j < vs.size:=fun j hj=>by
   rw [J3 hk] at hj
   have:=Nat.mul_le_mul_right k h1
   omega
  refine .data (.list (fun j=>vs.getD j undef) h1 h2 hk (fun j hj=>⟨⟨(Kp h3).1,h0.apart i b _ (by rw [hi]; rfl) hb,fun id o ho h9=>?_⟩,?_⟩) (fun j u hu=>?_))
  ·obtain⟨o0,a0,_⟩:=h6.like id o ho
   have:=h0.inj i id b (by rw [hi]; rfl) (by rw [a0]; rfl) hb h9
   subst this
   rw [h8] at ho; cases ho
  ·have:=h7 j hj
   simp [World.cell?,h3,this]
  ·have hj:=(M0 hu).1
   have:=h7 j hj
   refine(h5 j u _ hu ?_).mono fun b i hs=>⟨h6.stab hs,rfl⟩
   simp [this]

inductive Y6e (i ver k:Nat) (xs:List AV) (ok:Nat→Bool):AV→AV→Prop
 | conv {u u':AV} (h:Conv ok u u'):Y6e i ver k xs ok u u'
 | vec {n:Nat}:Y6e i ver k xs ok (.vec i ver k n) (.list k xs)
def Q54 (i ver k:Nat) (xs:List AV) (ok:Nat→Bool) (l:Fr):Fr→Prop
 | []=>True
 | (t,u)::r=>Y6e i ver k xs ok (look l t) u∧Q54 i ver k xs ok l r
theorem Q54.get {i ver k:Nat} {xs:List AV} {ok:Nat→Bool} {l:Fr}:∀ {l':Fr},Q54 i ver k xs ok l l'→∀ t,Y6e i ver k xs ok (look l t) (look l' t)
 | [],_,t=>.conv .junk
 | (s,u)::r,h,t=>by
  simp only [look]
  cases hb:Nat.beq s t with
  | true=>have:=Ks hb; subst this; exact h.1
  | false=>exact Q54.get h.2 t

theorem Rf.vfreeze {w0 w:World} {β0 β:H5} {L0:Loc} {a:Act} (hs:Rf N w0 β0 L0 a w β l L) (i:Nat) {t ver k:Nat} {xs:List AV} (hi:lk L i=some (.vec t k ver xs))
  (h2:lk L' i=none) (hl:Ge4 (fun j=>(lk L' j).isSome) L L') (hb:allIn L' N.base=true) (hf:Q54 i ver k xs (fun j=>(lk L' j).isSome) l l'):Rf N w0 β0 L0 a w β l' L':=by
 have h0:Fits N.base l L [] L':=⟨trivial,hl,hb⟩
 have h1:=hs.fits h0
 refine⟨h1.sat,h1.step,⟨fun t'=>?_⟩,h1.size,h1.base,h1.defers⟩
 have hv:=hs.frame.tmp t'
 generalize hu:look l t'=u at hv
 have hz:=hf.get t'
 rw [hu] at hz
 generalize look l' t'=u' at hz
 cases hz with
 | conv hc=>exact hv.conv h0.drop hc
 | vec=>exact hv.vfreeze hs.sat hi h0.drop h2
theorem Q53 {c:Code} (l':Fr) (L':Loc) (i:Nat) {t ver k:Nat} {xs:List AV} (hi:lk L i=some (.vec t k ver xs)) (h0:lk L' i=none) (hl:Ge4 (fun j=>(lk L' j).isSome) L L') (hb:allIn L' N.base=true)
  (hf:Q54 i ver k xs (fun j=>(lk L' j).isSome) l l') (hk:JC P N c Q l' L'):JC P N c Q l L:=fun n w0 β0 L0 a w β hs=>hk n w0 β0 L0 a w β (hs.vfreeze i hi h0 hl hb hf)
end freeze

def AV.noRef:AV→Bool
 | .junk=>true
 | .sc _=>true
 | .agg cs=>noRefL cs
 | .tup cs=>noRefL cs
 | .list _ []=>true
 | _=>false
where noRefL:List AV→Bool
 | []=>true
 | x::r=>x.noRef&&noRefL r
theorem Gbf:∀ {cs:List AV},AV.noRef.noRefL cs=true→∀ u∈cs,u.noRef=true
 | [],_,u,hu=>by cases hu
 | x::r,h,u,hu=>by
  simp only [AV.noRef.noRefL,Me] at h
  rcases Mk.1 hu with rfl | hu
  ·exact h.1
  ·exact Gbf h.2 u hu
theorem D.noRef {w w':World} {S S':Nat→Nat→Prop} {u:AV} {v:Value} (h:D w S u v):u.noRef=true→D w' S' u v:=by
 induction h with
 | junk=>exact fun _=>.junk
 | sc=>exact fun _=>.sc
 | agg hl _ ih=>exact fun hr=>.agg hl fun j u v hu hv=>ih j u v hu hv (Gbf (by simpa [AV.noRef] using hr) u (M3 hu))
 | tup hl _ ih=>exact fun hr=>.tup hl fun j u v hu hv=>ih j u v hu hv (Gbf (by simpa [AV.noRef] using hr) u (M3 hu))
 | nil h=>exact fun _=>.nil h
 | @list k b off cap xs vals h0 hm _ _ _ _=>
  intro hr
  cases xs with
  | nil=>exact .nil hm
  | cons x r=>simp [AV.noRef] at hr
 | lnil=>exact fun hr=>by simp [AV.noRef] at hr
 | lst=>exact fun hr=>by simp [AV.noRef] at hr
 | dptr=>exact fun hr=>by simp [AV.noRef] at hr
 | fn=>exact fun hr=>by simp [AV.noRef] at hr
 | bfn=>exact fun hr=>by simp [AV.noRef] at hr
 | opt=>exact fun hr=>by simp [AV.noRef] at hr
 | dmap=>exact fun hr=>by simp [AV.noRef] at hr
 | bag=>exact fun hr=>by simp [AV.noRef] at hr

section calls
variable {P:Program} {o:Oper} {l:Fr} {L:Loc} {u:AV}

inductive G78 (L:Loc):AV→AV→Prop
 | data {u u':AV} (h:u.plain=u') (hd:u'.isData=true):G78 L u u'
 | vec {i ver k n t:Nat} {xs:List AV} (hi:lk L i=some (.vec t k ver xs)):G78 L (.vec i ver k n) (.list k xs)
 | agg {cs ds:List AV} (hl:ds.length=cs.length) (h:∀ (j:Nat) u u',cs[j]? = some u→ds[j]? = some u'→G78 L u u'):G78 L (.agg cs) (.agg ds)
def H5f (L:Loc):List AV→List AV→Prop
 | [],[]=>True
 | u::r,u'::s=>G78 L u u'∧H5f L r s
 | _,_=>False
theorem H5f.len {L:Loc}:∀ {cs ds:List AV},H5f L cs ds→ds.length=cs.length
 | [],[],_=>rfl
 | _::_,_::_,h=>by simp [H5f.len h.2]
def H60 (l:Fr) (L:Loc):List Operand→List AV→Prop
 | [],[]=>True
 | x::r,u::s=>G78 L (ev l x) u∧H60 l L r s
 | _,_=>False
theorem H60.length {l:Fr} {L:Loc}:∀ {xs:List Operand} {us:List AV},H60 l L xs us→xs.length=us.length
 | [],[],_=>rfl
 | _::r,_::s,h=>by simp [H60.length h.2]
theorem G78.D {w:World} {β:H5} {u u':AV} (h0:Sat w β L) (h:G78 L u u'):∀ {v:Value},V w β L u v→D w (fun b _=>b < w.heap.size) u' v:=by
 induction h with
 | agg hl _ ih=>
  intro v hv
  obtain⟨vs,rfl,h2,h3⟩:=hv.inv_agg
  refine .agg (h2.trans hl.symm) fun j u' x h1 hx=>?_
  have hj:j < _:=(M0 h1).1
  exact ih j _ u' (M1 (hl ▸ hj)) h1 (h3 j _ x (M1 (hl ▸ hj)) hx)
 | data h hd=>
  intro v hv
  subst h
  exact(hv.plain.toD hd).mono fun b i hs=>⟨hs.lt,rfl⟩
 | @vec i ver k n t xs hi=>
  intro v hv
  have hd:J32 L (L.filter fun p=>!Nat.beq p.1 i):=by
   refine⟨fun id o' h=>?_⟩
   have:lk L id=some o':=by
    clear h0 hi hv
    induction L with
    | nil=>simp [lk] at h
    | cons p r ih=>
     obtain⟨q,ob⟩:=p
     rw [List.filter_cons] at h
     by_cases e:(!Nat.beq (q,ob).1 i)=true
     ·rw [if_pos e,Gm] at h
      rw [Gm]
      by_cases e2:q=id
      ·rw [if_pos e2] at h ⊢; exact h
      ·rw [if_neg e2] at h ⊢; exact ih h
     ·rw [if_neg e] at h
      rw [Gm]
      by_cases e2:q=id
      ·exfalso
       subst e2
       have h4:q=i:=by
        cases hb:Nat.beq q i with
        | true=>exact Ks hb
        | false=>exact absurd (by simp [hb]) e
       subst h4
       have h5:∀ r:Loc,lk (r.filter fun p=>!Nat.beq p.1 q) q=none:=by
        intro r
        induction r with
        | nil=>rfl
        | cons p r ih2=>
         rw [List.filter_cons]
         by_cases e3:(!Nat.beq p.1 q)=true
         ·rw [if_pos e3,Gm,if_neg (fun e4=>by rw [e4] at e3; simp at e3)]; exact ih2
         ·rw [if_neg e3]; exact ih2
       rw [h5] at h; cases h
      ·rw [if_neg e2]; exact ih h
   exact⟨o',this,by cases o' <;> simp [Jh.like]⟩
  have hn:lk (L.filter fun p=>!Nat.beq p.1 i) i=none:=by
   clear h0 hi hv hd
   induction L with
   | nil=>rfl
   | cons p r ih2=>
    rw [List.filter_cons]
    by_cases e3:(!Nat.beq p.1 i)=true
    ·rw [if_pos e3,Gm,if_neg (fun e4=>by rw [e4] at e3; simp at e3)]; exact ih2
    ·rw [if_neg e3]; exact ih2
  exact((hv.vfreeze h0 hi hd hn).inv_list).mono fun b i hs=>⟨hs.lt,rfl⟩

theorem J77 {P:Program} {f:FuncId} {args:List AV} {R:AV→Prop} (hc:Pure P f args R) {w:World} {β:H5} (h0:Sat w β L) {vs:Array Value} (hl:vs.size=args.length)
  (hv:∀ (j:Nat) u v,args[j]? = some u→vs[j]? = some v→D w (fun b _=>b < w.heap.size) u v) (hr:∀ r,R r→r.noRef=true) :
  Calls P f vs w fun e w'=>∃ v r,e=.returned v∧Sat w' β L∧Step w β L w' β L∧V w' β L r v∧R r:=by
 have h4:∀ b i:Nat,b < w.heap.size→Jj w ⟨fun _=>none,fun _ _=>False⟩ [] b i:=fun b i hs=>⟨hs,fun h=>h,fun id o h=>by simp [lk] at h⟩
 refine(hc w ⟨fun _=>none,fun _ _=>False⟩ vs ⟨fun b i h=>h.elim,fun id b h=>by simp [lk] at h,fun id b j h=>by simp [lk] at h,fun id id' b h=>by simp [lk] at h,fun id o h=>by simp [lk] at h⟩ hl
  (fun j u v hu h5=>.data ((hv j u v hu h5).mono fun b i hs=>⟨h4 b i hs,rfl⟩))).mono fun e w' h=>?_
 obtain⟨v,r,β',L',he,h7,h3,h6,rfl,hR⟩:=h
 have far:∀ b,b < w.heap.size→w'.heap[b]? = w.heap[b]? := fun b hb=>(h3.far b hb (fun id h=>by simp [lk] at h)).1
 have stab:∀ b i,Jj w β L b i→Jj w' β L b i:=fun b i hs=>⟨Kq hs.lt h3.size,hs.seen,hs.kept⟩
 have step:Step w β L w' β L:=⟨h3.os,h3.tape,h3.output,h3.size,fun _ _ _=>Iff.rfl,fun b i hs=>⟨stab b i hs,Jw (w:=w) (far b hs.lt)⟩,fun b hb hf=>⟨far b hb,hf⟩,
  fun _ _ cs h=>⟨rfl,cs,h⟩,fun _ _ cs h=>⟨rfl,cs,h⟩,fun _ _ n cs h=>⟨rfl,n,cs,h⟩,fun id _ _ ver xs h=>⟨ver,xs,h,M5,fun _=>⟨rfl,rfl,fun b hb=>G11 (far b (h0.bnd id b (by rw [h]; rfl) hb))⟩⟩,fun id _ _ ver hw h=>⟨ver,hw,h,M5,fun _=>⟨rfl,rfl,fun b hb=>far b (h0.bnd id b (by rw [h]; rfl) hb)⟩⟩⟩
 exact⟨v,r,he,⟨fun b i h=>Kq (h0.hid b i h) h3.size,fun id b h1 h2=>Kq (h0.bnd id b h1 h2) h3.size,h0.apart,h0.inj,fun id o h=>(h0.obj id o h).step step (fun b hb=>far b (h0.bnd id b (by rw [h]; rfl) hb))⟩,step,.data (h6.data_of_nil.noRef (hr r hR)),hR⟩

def Hc4 (l:Fr) (L0:Loc):List Operand→List AV→Prop
 | [],[]=>True
 | x::r,u::s=>(ev l x=u∨(ev l x).plain=u)∧u.refs (inL L0)=true∧Hc4 l L0 r s
 | _,_=>False
theorem Hc4.length {l:Fr} {L0:Loc}:∀ {xs:List Operand} {us:List AV},Hc4 l L0 xs us→xs.length=us.length
 | [],[],_=>rfl
 | _::r,_::s,h=>by simp [Hc4.length h.2.2]
theorem Hc4.get {l:Fr} {L0:Loc}:∀ {xs:List Operand} {us:List AV},Hc4 l L0 xs us→∀ {j:Nat} {x:Operand} {u:AV},xs[j]? = some x→us[j]? = some u→(ev l x=u∨(ev l x).plain=u)∧u.refs (inL L0)=true
 | [],[],_,j,x,u,h,_=>by simp at h
 | x::r,u::s,h,0,_,_,hx,hu=>by simp at hx hu; subst hx hu; exact⟨h.1,h.2.1⟩
 | x::r,u::s,h,j+1,_,_,hx,hu=>by simp at hx hu; exact Hc4.get h.2.2 hx hu

def Q64 (L:Loc):Loc→Prop
 | []=>True
 | (i,ob)::r=>lk L i=some ob∧Q64 L r
theorem Q64.get {L:Loc}:∀ {L0:Loc},Q64 L L0→∀ {id:Nat} {ob:Jh},lk L0 id=some ob→lk L id=some ob
 | [],_,id,ob,h=>by simp [lk] at h
 | (i,o')::r,hs,id,ob,h=>by
  rw [Gm] at h
  by_cases e:i=id
  ·subst e; rw [if_pos rfl] at h; cases h; exact hs.1
  ·rw [if_neg e] at h; exact Q64.get hs.2 h
def closedIn (ok:Nat→Bool):Loc→Bool
 | []=>true
 | (_,ob)::r=>ob.refs ok&&closedIn ok r
theorem closedIn.get {ok:Nat→Bool}:∀ {L0:Loc},closedIn ok L0=true→∀ {id:Nat} {ob:Jh},lk L0 id=some ob→ob.refs ok=true
 | [],_,id,ob,h=>by simp [lk] at h
 | (i,o')::r,hs,id,ob,h=>by
  simp only [closedIn,Me] at hs
  rw [Gm] at h
  by_cases e:i=id
  ·subst e; rw [if_pos rfl] at h; cases h; exact hs.1
  ·rw [if_neg e] at h; exact closedIn.get hs.2 h
def H17 (L L0:Loc):Loc→Bool
 | []=>true
 | (i,_)::r=>(inL L0 i||!inL L i)&&H17 L L0 r
theorem H17.get {L L0:Loc}:∀ {Lr:Loc},H17 L L0 Lr=true→∀ {id:Nat},inL Lr id=true→inL L0 id=true∨lk L id=none
 | [],_,id,h=>by simp [inL,lk] at h
 | (i,_)::r,hs,id,h=>by
  simp only [H17,Me,Mn,Bool.not_eq_true'] at hs
  rw [inL,Gm] at h
  by_cases e:i=id
  ·subst e
   exact hs.1.imp id (fun h=>by simpa [inL] using h)
  ·rw [if_neg e] at h; exact H17.get hs.2 h

theorem Q99 {f:FuncId} {vs:Array Value} {args:List AV} {L0 Lr L'':Loc} {a:Act} {w:World} {β:H5} {K:Act→World→Prop} {Q:Exit→Act→World→Prop} (hc:Jx P f args L0 (fun r L'=>r=u∧L'=Lr)) (h0:Sat w β L)
  (h4:Q64 L L0) (h6:closedIn (inL L0) L0=true) (h5:H17 L L0 Lr=true) (hL:Lr++H76 L L0=L'') (hl:vs.size=args.length)
  (hv:∀ (j:Nat) u v,args[j]? = some u→vs[j]? = some v→V w β L u v∧u.refs (inL L0)=true)
  (hK:∀ u' L' v w' β',Is u L'' u' L'→Sat w' β' L'→Step w β L w' β' L'→V w' β' L' u' v→K (a.put o.dst v) w') :
  Calls P f vs w fun
   | .returned v,w''=>K (a.put o.dst v) w''
   | .panicked chain,w''=>Q (.panic chain) a w''
   | .outgrown,_=>LetsOut Q:=by
 refine(Q2f hc h0 (fun id ob h=>h4.get h) (fun id ob h=>closedIn.get h6 h) hl hv (fun r L' hR id h=>by rw [hR.2] at h; exact H17.get h5 h)).mono fun e w' h=>?_
 obtain⟨v,r,β',L',rfl,⟨rfl,rfl⟩,h1,h2,h3⟩:=h
 unfold H11 at h1 h2 h3
 rw [hL] at h1 h2 h3
 exact hK _ _ v w' _ ⟨rfl,rfl⟩ h1 h2 h3

theorem Gbc {f:FuncId} {xs:List Operand} {args:List AV} {ts:Array TypeId} {L0 Lr L'':Loc} (ho:o.op=.call { callee:=.value (.func f),args:=xs.toArray,argTypes:=ts }) (hc:Jx P f args L0 (fun r L'=>r=u∧L'=Lr)) (hB:H9 P f=true) (ha:Hc4 l L0 xs args)
  (h0:Q64 L L0) (h5:closedIn (inL L0) L0=true) (h3:H17 L L0 Lr=true) (hL:Lr++H76 L L0=L''):H2 P o l L (Is u L''):=by
 intro a w β K Q h4 hf hK
 have hr:(execOp a.eval o).run P w=.ok (.enter f (xs.toArray.map a.eval)) w:=by
  simp [execOp,ho,resolve,Act.eval,Deferred.ofValue,invoke,H9.out hB]
 unfold Oper.wp
 rw [hr]
 refine Q99 hc h4 h0 h5 h3 hL (by simp [ha.length]) (fun j u v hu hv=>?_) hK
 simp only [Array.getElem?_map,List.getElem?_toArray,Option.map_eq_some_iff] at hv
 obtain⟨x,hx,rfl⟩:=hv
 obtain⟨h1,h2⟩:=ha.get hx hu
 refine⟨?_,h2⟩
 rcases h1 with h1 | h1
 ·rw [← h1]; exact hf.ev x
 ·rw [← h1]; exact(hf.ev x).plain

end calls

section ops
variable {P:Program} {N:Cfg} {Q:Post} {o:Oper} {ops:Array Oper} {rest:List Oper} {l:Fr} {L L':Loc} {u:AV} {α:Type}

theorem Gf3 {s x:Operand} {T E k by_ i ver ver1 n kx:Nat} {f:α→AV} {xs ys:List α} (ho:o.op=.call { callee:=.builtin .append,args:=#[s,x],argTypes:=#[T,T] }) (hs:ev l s=.vec i ver k n) (hi:lk L i=some (.vec E k ver (xs.map f))) (hx:Qb (ev l x)=some (kx,ys.map f))
  (hT:sliceB P T E k=true) (hE:Zd P E k by_=true) (hb:decide ((xs.length+ys.length)*by_≤140737488355328∧xs.length+ys.length≤maxLen)=true) (h0:∀ y,(f y).flatOk=true) (hk:kx=k∨ys=[]) (hv:ver < ver1) :
  H2 P o l L (Is (.vec i ver1 k (xs++ys).length) ((i,.vec E k ver1 ((xs++ys).map f))::L)):=by
 have h1:=Kw hb
 have h:=Rf2 (xs:=xs.map f) (ys:=ys.map f) ho hs hi hx hT hE (by simpa using h1.1) (by simpa using h1.2) (fun y hy=>by
  obtain⟨z,_,rfl⟩:=Mi.1 hy
  exact h0 z) (hk.imp id (fun e=>by rw [e]; rfl)) hv
 simpa only [List.map_append,Mc,Mg] using h
theorem Rbb {x ix:Operand} {T E k i ver n m:Nat} {kd:IntKind} {z:Int} {f:α→AV} {xs:List α} {y:α} (ho:o.op=.indexAddr T x ix) (hx:ev l x=.vec i ver k n) (h0:ev l ix=.sc (.int kd z)) (hi:lk L i=some (.vec E k ver (xs.map f))) (hT:sliceB P T E k=true) (hy:xs[m]? = some y) (hz:z=(m:Int)) :
  H2 P o l L (Is (.vptr i ver m 0) L):=Yb2 ho hx h0 hi hT (by rw [Mg]; exact(M0 hy).1) hz
def Q22 (z:Int):Option Nat:=bif decide (0≤z) then some z.toNat else none
theorem Rdf {z:Int} {n:Nat} (h:Q22 z=some n):z=(n:Int):=by
 unfold Q22 at h
 cases hb:decide (0≤z) with
 | true=>rw [hb] at h; cases h; have:=Kw hb; omega
 | false=>rw [hb] at h; cases h
end ops

structure Q0 (κ ν:Type) where
 l:List (κ×ν)
 nd:(l.map (·.1)).Nodup
namespace Q0
variable {κ ν:Type} [DecidableEq κ]
def empty:Q0 κ ν:=⟨[],List.nodup_nil⟩
def put (m:Q0 κ ν) (a:κ) (v:ν):Q0 κ ν:=⟨H01 m.l a v,Ha7 m.nd a v⟩
def get (m:Q0 κ ν) (a:κ) (z:ν):ν:=(G38 m.l a).getD z
def has (m:Q0 κ ν) (a:κ):Bool:=G37 m.l a
def size (m:Q0 κ ν):Nat:=m.l.length
end Q0
def MP {κ ν:Type} (T:Nat) (kv:κ→Value) (av:ν→AV) (m:Q0 κ ν):Jh:=.map T (mapOf kv av m.l)
def MI {κ ν:Type} [DecidableEq κ] (T:Nat) (kv:κ→Value) (av:ν→AV) (m:Q0 κ ν) (a:κ) (z:ν):Jh:=.map T (mapOf kv av (H02 m.l a z))

section ops
variable {P:Program} {N:Cfg} {o:Oper} {l:Fr} {L L':Loc} {u:AV} {κ ν:Type} {kv:κ→Value} {av:ν→AV}

theorem R91 (i:Nat) {T:Nat} (kv:κ→Value) (av:ν→AV) (ho:o.op=.makeMap T none) (hi:lk L i=none) (h0:Nat.blt T 1000000=true:=by rfl):H2 P o l L (Is (.mp i) ((i,MP T kv av Q0.empty)::L)):=Rf7 i ho hi h0
theorem Qa3 [DecidableEq κ] {x y:Operand} {T K E i:Nat} {ok:Bool} {m:Q0 κ ν} {a:κ} (z0:ν) (zv:Value) (ho:o.op=.lookup T x y ok) (hm:ev l x=.mp i) (hi:lk L i=some (MP T kv av m))
  (hx:ev l y=Ro (kv a)) (hk:Gc2 P K kv) (hT:Zc P T K E=true) (hz:(P.info? E).bind (·.zero)=some zv) (h0:av z0=Ro zv) :
  H2 P o l L (Is (bif ok then .tup [av (m.get a z0),BL (m.has a)] else av (m.get a z0)) L):=Q5a z0 zv ho hm hi m.nd hx hk hT hz h0
theorem Q59 [DecidableEq κ] {x y:Operand} {T K E i:Nat} {m:Q0 κ ν} {a:κ} (z0:ν) (zv:Value) (ho:o.op=.lookup T x y false) (hm:ev l x=.mp i) (hi:lk L i=some (MP T kv av m))
  (hx:ev l y=Ro (kv a)) (hk:Gc2 P K kv) (hT:Zc P T K E=true) (hz:(P.info? E).bind (·.zero)=some zv) (h0:av z0=Ro zv) :
  H2 P o l L (Is (av (m.get a z0)) L):=Qa3 (ok:=false) z0 zv ho hm hi hx hk hT hz h0
theorem Q58 [DecidableEq κ] {x y:Operand} {T K E i:Nat} {m:Q0 κ ν} {a:κ} (z0:ν) (zv:Value) (ho:o.op=.lookup T x y false) (hm:ev l x=.mp i) (hi:lk L i=some (MI T kv av m a z0))
  (hx:ev l y=Ro (kv a)) (hk:Gc2 P K kv) (hT:Zc P T K E=true) (hz:(P.info? E).bind (·.zero)=some zv) (h0:av z0=Ro zv) :
  H2 P o l L (Is (av (m.get a z0)) L):=R27 z0 zv ho hm hi m.nd hx hk hT hz h0
theorem Jba [DecidableEq κ] {x y:Operand} {T K E i:Nat} {m:Q0 κ ν} {a:κ} (z0:ν) (zv:Value) (ho:o.op=.mapEntry T x y) (hm:ev l x=.mp i) (hi:lk L i=some (MP T kv av m))
  (hx:ev l y=Ro (kv a)) (hk:Gc2 P K kv) (hT:Zc P T K E=true) (hz:(P.info? E).bind (·.zero)=some zv) (h0:av z0=Ro zv) :
  H2 P o l L (Is (.tup [.junk,I64 (G36 m.l a)]) ((i,MI T kv av m a z0)::L)):=R90 z0 zv ho hm hi m.nd hx hk hT hz h0
theorem J16 [DecidableEq κ] {x s y:Operand} {T i:Nat} {m:Q0 κ ν} {a:κ} {v:ν} (z0:ν) (ho:o.op=.entryStore T x s y) (hm:ev l x=.mp i) (hi:lk L i=some (MI T kv av m a z0))
  (hs:ev l s=I64 (G36 m.l a)) (hy:(ev l y).plain=av v) (h0:(av v).isData=true) (h1:Nat.blt T 1000000=true:=by rfl) :
  H2 P o l L (Is .junk ((i,MP T kv av (m.put a v))::L)):=Qd1 z0 ho hm hi m.nd hs hy h0 h1
theorem Y3a (i:Nat) {x:Operand} {T K E j:Nat} {m:Q0 κ ν} (ho:o.op=.range T x) (hx:ev l x=.mp j) (hm:lk L j=some (MP T kv av m)) (hi:lk L i=none) (hT:Zc P T K E=true) :
  H2 P o l L (Is (.it i) ((i,.iter (.mp j) m.size [])::L)):=by
 have h:=Y75 (P:=P) i ho hx hm hi hT (Zc.both hT).2
 simpa only [mapOf,Mg,Q0.size] using h
end ops

section ops
variable {P:Program} {N:Cfg} {Q:Post} {o:Oper} {l:Fr} {L L':Loc} {u:AV} {κ ν:Type} {kv:κ→Value} {av:ν→AV}
def Ye2 (i j:Nat) (L:Loc) (kv:κ→Value) (av:ν→AV) (m:Q0 κ ν) (seen:List Nat):AV→Loc→Prop:=fun u L'=>
 (∃ q e,m.l[q]? = some e∧q ∉ seen∧u=.tup [BL true,Ro (kv e.1),av e.2]∧L'=(i,.iter (.mp j) m.size (seen++[q]))::L)∨((∀ q,q < m.l.length→q∈seen)∧u=.tup [BL false]∧L'=L)
theorem H2.weaken {R R':AV→Loc→Prop} (h:H2 P o l L R) (hR:∀ u L',R u L'→R' u L'):H2 P o l L R':=fun a w β K Q h1 h2 h3=>h a w β K Q h1 h2 (fun u L' v w' β' hr=>h3 u L' v w' β' (hR u L' hr))
theorem Y1b {m:Q0 κ ν} {q:Nat} {k:Value} {v:AV} (h:(mapOf kv av m.l)[q]? = some (k,v)):∃ e:κ×ν,m.l[q]? = some e∧k=kv e.1∧v=av e.2:=by
 rw [mapOf,M9] at h
 cases hl:m.l[q]? with
 | none=>rw [hl] at h; cases h
 | some e=>rw [hl] at h; cases h; exact⟨e,rfl,rfl,rfl⟩
theorem Y76 {x:Operand} {i j T:Nat} {m:Q0 κ ν} {seen:List Nat} (ho:o.op=.next x false) (hx:ev l x=.it i) (hi:lk L i=some (.iter (.mp j) m.size seen)) (hm:lk L j=some (MP T kv av m)) (h0:Nat.blt T 1000000=true:=by rfl):H2 P o l L (Ye2 i j L kv av m seen):=by
 have h5:lk L i=some (.iter (.mp j) (mapOf kv av m.l).length seen):=by rw [hi]; simp [mapOf,Q0.size]
 refine(Yb7 ho hx h5 hm h0).weaken (fun u L' h=>?_)
 rcases h with ⟨q,k,v,h1,h2,h3,h4⟩ | ⟨h1,h2,h3⟩
 ·obtain⟨e,he,rfl,rfl⟩:=Y1b h1
  exact .inl ⟨q,e,he,h2,h3,by rw [h4]; simp [mapOf,Q0.size]⟩
 ·exact .inr ⟨fun q hq=>h1 q (by simpa [mapOf] using hq),h2,h3⟩
theorem Y44 {x:Operand} {i j T q:Nat} {m:Q0 κ ν} {seen:List Nat} {e:κ×ν} (ho:o.op=.entry x) (hx:ev l x=.it i) (hi:lk L i=some (.iter (.mp j) m.size (seen++[q]))) (hm:lk L j=some (MP T kv av m)) (he:m.l[q]? = some e) (h0:Nat.blt T 1000000=true:=by rfl) :
  H2 P o l L (Is (.tup [Ro (kv e.1),av e.2]) L):=by
 have h1:lk L i=some (.iter (.mp j) (mapOf kv av m.l).length (seen++[q])):=by rw [hi]; simp [mapOf,Q0.size]
 exact Y7b ho hx h1 hm (by rw [mapOf,M9,he]; rfl) h0
theorem He7 {body:Code} {σ:Type} (n:Nat) (I:List Nat→σ→Prop) (F:List Nat→σ→Fr) (M:List Nat→σ→Loc) (s0:σ) (h0:I [] s0) (hf:Fits N.base l L (F [] s0) (M [] s0))
  (hr:∀ i s,I i s→∀ K:Fr→Loc→Prop,(∀ l L i' s',I i' s'→unseen n i' < unseen n i→Fits N.base l L (F i' s') (M i' s')→K l L)→JC P N body (Q.seq K) (F i s) (M i s)):JC P N (.loop body) Q l L:=
 Rb8 (fun x:List Nat×σ=>I x.1 x.2) (fun x=>F x.1 x.2) (fun x=>M x.1 x.2) (fun x=>unseen n x.1) ([],s0) h0 hf
  (fun x hi K hK=>hr x.1 x.2 hi K (fun l L i' s' h1 h2 h3=>hK l L (i',s') h1 h2 h3))
end ops

/-! ### Ranging over a map: every order of its entries -/
section range
variable {α β σ:Type}
def H00 (b:α→σ→(σ→Option (σ ⊕ β))→Option (σ ⊕ β)) (kx:σ→Option β):List α→σ→Option β
 | [],s=>kx s
 | x::xs,s=>match b x s (fun s'=>some (.inl s')) with
  | some (.inl s')=>H00 b kx xs s'
  | some (.inr r)=>some r
  | none=>none
def lft (x:Option β):Option (σ ⊕ β):=x.map .inr
def Hbc (b:α→σ→(σ→Option (σ ⊕ Prop))→Option (σ ⊕ Prop)) (kx:σ→Option Prop) (l:List α) (s:σ):Option Prop:=
 some (∀ q:List α,q.Perm l→∃ p,H00 b kx q s=some p∧p)
theorem Rab {x:Option β} {r:σ ⊕ β} (h:lft x=some r):∃ y,r=.inr y∧x=some y:=by
 cases x with
 | none=>cases h
 | some y=>cases h; exact⟨y,rfl,rfl⟩
theorem Q7f {b:α→σ→(σ→Option (σ ⊕ Prop))→Option (σ ⊕ Prop)} {kx:σ→Option Prop} {x:α} {xs:List α} {s:σ} (h:∃ p,H00 b kx (x::xs) s=some p∧p) :
  ∃ o,b x s (fun s'=>some (.inl s'))=some o∧(∀ r,o=.inr r→r)∧∀ s',o=.inl s'→∃ p,H00 b kx xs s'=some p∧p:=by
 obtain⟨p,h,hp⟩:=h
 rw [H00] at h
 cases hb:b x s (fun s'=>some (.inl s')) with
 | none=>rw [hb] at h; cases h
 | some o=>
  rw [hb] at h
  cases o with
  | inl s'=>exact⟨_,rfl,(fun r e=>by cases e),(fun s2 e=>by cases e; exact⟨p,h,hp⟩)⟩
  | inr r=>cases h; exact⟨_,rfl,(fun r2 e=>by cases e; exact hp),(fun s2 e=>by cases e)⟩
def MInv (b:α→σ→(σ→Option (σ ⊕ Prop))→Option (σ ⊕ Prop)) (kx:σ→Option Prop) (l:List α) (seen:List Nat) (s:σ):Prop:=
 (seen.Nodup∧∀ j∈seen,j < l.length)∧∀ q:List α,(seen.filterMap (fun j=>l[j]?)++q).Perm l→∃ p,H00 b kx q s=some p∧p
theorem MInv.start {b:α→σ→(σ→Option (σ ⊕ Prop))→Option (σ ⊕ Prop)} {kx:σ→Option Prop} {l:List α} {s:σ} {p:Prop} (h:Hbc b kx l s=some p) (hp:p):MInv b kx l [] s:=by
 cases h
 exact⟨⟨List.nodup_nil,by simp⟩,by simpa using hp⟩
theorem H05 {b:α→σ→(σ→Option (σ ⊕ Prop))→Option (σ ⊕ Prop)} {kx:σ→Option Prop} {l:List α} {s:σ} {r:Option Prop} (h:Hbc b kx l s=r):∃ b' kx',b=b'∧kx=kx'∧Hbc b' kx' l s=r:=⟨b,kx,rfl,rfl,h⟩
theorem Q1f {l:List α} {seen:List Nat} (hn:seen.Nodup) (hb:∀ j∈seen,j < l.length):∃ q,(seen.filterMap (fun j=>l[j]?)++q).Perm l:=by
 have h1:∃ r,(seen++r).Perm (List.range l.length):=by
  refine⟨(List.range l.length).filter (fun j=>!seen.contains j),?_⟩
  refine(List.perm_ext_iff_of_nodup ?_ List.nodup_range).2 (fun j=>?_)
  ·refine List.nodup_append.2 ⟨hn,List.nodup_range.filter _,fun a ha b h0=>?_⟩
   have:=(Mm.1 h0).2
   intro e; subst e; simp [ha] at this
  ·simp only [Mh,Mm,List.mem_range,Bool.not_eq_true',List.contains_eq_mem,decide_eq_false_iff_not]
   constructor
   ·rintro(h | h)
    ·exact hb j h
    ·exact h.1
   ·intro h
    by_cases hs:j∈seen
    ·exact .inl hs
    ·exact .inr ⟨h,hs⟩
 obtain⟨r,hr⟩:=h1
 have h2:=hr.filterMap (fun j=>l[j]?)
 have h3:(List.range l.length).filterMap (fun j=>l[j]?)=l:=by
  have key:∀ (l m:List α),(List.range' m.length l.length).filterMap (fun j=>(m++l)[j]?)=l:=by
   intro l
   induction l with
   | nil=>intro m; rfl
   | cons a r ih=>
    intro m
    have h1:=ih (m++[a])
    rw [M8,List.range'_succ,List.filterMap_cons_some (b:=a) (by simp)]
    congr 1
    simpa using h1
  have:=key l []
  simpa [List.range_eq_range'] using this
 rw [List.filterMap_append,h3] at h2
 exact⟨_,h2⟩
theorem MInv.step {b:α→σ→(σ→Option (σ ⊕ Prop))→Option (σ ⊕ Prop)} {kx:σ→Option Prop} {l:List α} {seen:List Nat} {s:σ} {j:Nat} {e:α} (h:MInv b kx l seen s) (hj:l[j]? = some e) (hs:j ∉ seen) :
  ∃ o,b e s (fun s'=>some (.inl s'))=some o∧(∀ r,o=.inr r→r)∧∀ s',o=.inl s'→MInv b kx l (seen++[j]) s':=by
 obtain⟨⟨h1,h2⟩,h3⟩:=h
 have hn:(seen++[j]).Nodup:=List.nodup_append.2 ⟨h1,by simp,fun a ha b hb=>by simp at hb; subst hb; intro e; subst e; exact hs ha⟩
 have hb:∀ i∈seen++[j],i < l.length:=fun i hi=>by
  rcases Mh.1 hi with hi | hi
  ·exact h2 i hi
  ·simp at hi; subst hi; exact(M0 hj).1
 have h0:(seen++[j]).filterMap (fun j=>l[j]?)=seen.filterMap (fun j=>l[j]?)++[e]:=by
  rw [List.filterMap_append]; simp [hj]
 obtain⟨q,hq⟩:=Q1f (l:=l) hn hb
 rw [h0,List.append_assoc] at hq
 obtain⟨o,o1,o2,_⟩:=Q7f (h3 (e::q) hq)
 refine⟨o,o1,o2,fun s' ho=>⟨⟨hn,hb⟩,fun q' h4=>?_⟩⟩
 rw [h0,List.append_assoc] at h4
 obtain⟨o',p1,_,p3⟩:=Q7f (h3 (e::q') h4)
 rw [o1] at p1; cases p1
 exact p3 s' ho
theorem MInv.done {b:α→σ→(σ→Option (σ ⊕ Prop))→Option (σ ⊕ Prop)} {kx:σ→Option Prop} {l:List α} {seen:List Nat} {s:σ} (h:MInv b kx l seen s) (ha:∀ j,j < l.length→j∈seen):∃ p,kx s=some p∧p:=by
 obtain⟨⟨h1,h2⟩,h3⟩:=h
 obtain⟨q,hq⟩:=Q1f (l:=l) h1 h2
 have hl:(seen.filterMap (fun j=>l[j]?)).length=l.length:=by
  have hp:seen.Perm (List.range l.length):=(List.perm_ext_iff_of_nodup h1 List.nodup_range).2 (fun j=>by
   rw [List.mem_range]; exact⟨h2 j,ha j⟩)
  have h5:(seen.filterMap (fun j=>l[j]?)).length=seen.length:=by
   have:∀ s:List Nat,(∀ j∈s,j < l.length)→(s.filterMap (fun j=>l[j]?)).length=s.length:=by
    intro s
    induction s with
    | nil=>intro _; rfl
    | cons a r ih=>
     intro hs
     have ha:=hs a (by simp)
     rw [List.filterMap_cons_some (by simp [ha]; rfl),M8,ih (fun j hj=>hs j (by simp [hj])),M8]
   exact this seen h2
  rw [h5,hp.length_eq,List.length_range]
 have h0:q=[]:=by
  have:=hq.length_eq
  rw [Mc,hl] at this
  exact Kr (by omega)
 subst h0
 exact h3 [] hq
end range

def H5e (L L':Loc):Prop:=∀ id,lk L id=lk L' id
theorem Sat.locEq {w:World} {β:H5} {L L':Loc} (h:Sat w β L) (e:H5e L L'):Sat w β L':=by
 have hS:∀ b i,Jj w β L b i→Jj w β L' b i:=fun b i hs=>⟨hs.lt,hs.seen,fun id o ho=>hs.kept id o (by rw [e]; exact ho)⟩
 exact⟨h.hid,fun id b h1=>h.bnd id b (by rw [e]; exact h1),fun id b j h1=>h.apart id b j (by rw [e]; exact h1),fun id id' b h1 h2=>h.inj id id' b (by rw [e]; exact h1) (by rw [e]; exact h2),
  fun id o ho=>(h.obj id o (by rw [e]; exact ho)).up hS (fun id o ho=>⟨by rw [← e]; exact ho,rfl⟩)⟩
theorem Step.locEq {w w':World} {β β':H5} {L L1 L':Loc} (h:Step w β L w' β' L1) (e:H5e L1 L'):Step w β L w' β' L' where
 os:=h.os
 tape:=h.tape
 output:=h.output
 size:=h.size
 hid:=h.hid
 stab:=fun b i hs=>by
  obtain⟨h1,h2⟩:=h.stab b i hs
  exact⟨⟨h1.lt,h1.seen,fun id o ho=>h1.kept id o (by rw [e]; exact ho)⟩,h2⟩
 far:=fun b hb hf=>by
  obtain⟨h1,h2⟩:=h.far b hb hf
  exact⟨h1,fun id hid=>h2 id (by rw [e]; exact hid)⟩
 box:=fun id t cs hi=>by obtain⟨h1,cs',h2⟩:=h.box id t cs hi; exact⟨h1,cs',by rw [← e]; exact h2⟩
 map:=fun id t cs hi=>by obtain⟨h1,cs',h2⟩:=h.map id t cs hi; exact⟨h1,cs',by rw [← e]; exact h2⟩
 iter:=fun id m n cs hi=>by obtain⟨h1,n',cs',h2⟩:=h.iter id m n cs hi; exact⟨h1,n',cs',by rw [← e]; exact h2⟩
 vec:=fun id t k ver xs hi=>by obtain⟨v,xs',h1,h2,h3⟩:=h.vec id t k ver xs hi; exact⟨v,xs',by rw [← e]; exact h1,h2,h3⟩
 spare:=fun id t k ver xs hi=>by obtain⟨v,xs',h1,h2,h3⟩:=h.spare id t k ver xs hi; exact⟨v,xs',by rw [← e]; exact h1,h2,h3⟩
theorem V.locEq {w:World} {β:H5} {L L':Loc} {u:AV} {v:Value} (h:V w β L u v) (e:H5e L L'):V w β L' u v:=
 h.up (fun b i hs=>⟨hs.lt,hs.seen,fun id o ho=>hs.kept id o (by rw [e]; exact ho)⟩) (fun id o ho=>⟨by rw [← e]; exact ho,rfl⟩)
def J28 (ks:List Nat):Loc→Bool
 | []=>true
 | (i,_)::r=>ks.contains i&&J28 ks r
def Ya3 (L L':Loc):List Nat→Prop
 | []=>True
 | k::r=>lk L k=lk L' k∧Ya3 L L' r
theorem J27 {ks:List Nat} {id:Nat} (h:id ∉ ks):∀ {L:Loc},J28 ks L=true→lk L id=none
 | [],_=>rfl
 | (i,o)::r,hk=>by
  simp only [J28,Me] at hk
  rw [Gm,if_neg (fun e=>h (by subst e; simpa using hk.1))]
  exact J27 h hk.2
theorem H5e.of {L L':Loc} (ks:List Nat) (h1:J28 ks L=true) (h2:J28 ks L'=true) (h3:Ya3 L L' ks):H5e L L':=fun id=>by
 by_cases h:id∈ks
 ·clear h1 h2
  induction ks with
  | nil=>cases h
  | cons k r ih=>
   rcases Mk.1 h with e | h
   ·rw [e]; exact h3.1
   ·exact ih h3.2 h
 ·rw [J27 h h1,J27 h h2]

/-! ### The stages: which of the turning operations are done -/
def Jca (ws:List Nat) (s:List Bool) (i:Nat):List Bool:=(ws.zip s).map fun p=>p.2||p.1==i
def Jbc (tb:List (List Bool×Loc)) (s:List Bool):Option Loc:=(tb.find? fun p=>p.1==s).map (·.2)
def H25 (P:Program) (N:Cfg) (ops:Array Oper) (ws:List Nat) (tb:List (List Bool×Loc)) (i:Nat) (o:Oper) (l:Fr) (u:AV) (s:List Bool):Prop:=
 ∃ L L1 L',Jbc tb s=some L∧Jbc tb (Jca ws s i)=some L'∧Gaa P N ops o l L u L1∧H5e L1 L'
theorem H25.ro {P:Program} {N:Cfg} {ops:Array Oper} {ws:List Nat} {tb:List (List Bool×Loc)} {i:Nat} {o:Oper} {l:Fr} {u:AV} {s:List Bool} {L:Loc} (h1:Jbc tb s=some L) (h2:Jbc tb (Jca ws s i)=some L) (h:Gaa P N ops o l L u L):H25 P N ops ws tb i o l u s:=⟨L,L,L,h1,h2,h,fun _=>rfl⟩
theorem H25.w {P:Program} {N:Cfg} {ops:Array Oper} {ws:List Nat} {tb:List (List Bool×Loc)} {i:Nat} {o:Oper} {l:Fr} {u:AV} {s:List Bool} {L L1 L':Loc} (ks:List Nat) (h1:Jbc tb s=some L) (h2:Jbc tb (Jca ws s i)=some L') (h:Gaa P N ops o l L u L1) (k1:J28 ks L1=true) (k2:J28 ks L'=true) (k3:Ya3 L1 L' ks):H25 P N ops ws tb i o l u s:=⟨L,L1,L',h1,h2,h,H5e.of ks k1 k2 k3⟩

section pre
variable {P:Program} {N:Cfg} {ops:Array Oper} {ws:List Nat} {sts:List (List (List Bool))} {tb:List (List Bool×Loc)} {i:Nat} {o:Oper} {r:List Oper} {l:Fr} {K:Fr→Prop} {u:AV}
end pre

open Go.RowKit Go.Sort

def G15 {α:Type} [Inhabited α] (cf:α→α→Int) (xs:List α):List α:=(pdq (ltOf cf) xs.toArray 0 xs.length (Lib.bitLen xs.length) true true).toList
theorem Ja3 {α:Type} [Inhabited α] (cf:α→α→Int) (hO:SWO (ltOf cf)) (xs:List α):(G15 cf xs).Perm xs∧(G15 cf xs).length=xs.length∧∀ i j (hi:i < j) (hj:j < (G15 cf xs).length),ltOf cf (G15 cf xs)[j] (G15 cf xs)[i]=false:=by
 have h:=pdq_sorts (ltOf cf) hO xs.toArray 0 xs.length (Lib.bitLen xs.length) true true (Nat.zero_le _) (by simp) (Or.inl rfl)
 obtain⟨⟨h1,h2,h3⟩,h4⟩:=h
 have hl:(G15 cf xs).length=xs.length:=by simp [G15,h1]
 refine⟨?_,hl,fun i j hi hj=>?_⟩
 ·have e1:(pdq (ltOf cf) xs.toArray 0 xs.length (Lib.bitLen xs.length) true true).extract 0 xs.length=pdq (ltOf cf) xs.toArray 0 xs.length (Lib.bitLen xs.length) true true:=by
   have:xs.length=(pdq (ltOf cf) xs.toArray 0 xs.length (Lib.bitLen xs.length) true true).size:=by rw [h1]; simp
   rw [Array.extract_eq_self_of_le (by omega)]
  have e2:xs.toArray.extract 0 xs.length=xs.toArray:=by rw [Array.extract_eq_self_of_le (by simp)]
  rw [e1,e2] at h3
  exact h3
 ·have h0:j < xs.length:=by omega
  have:=h4 i j (Nat.zero_le _) hi h0
  have g:∀ q (hq:q < (G15 cf xs).length),(pdq (ltOf cf) xs.toArray 0 xs.length (Lib.bitLen xs.length) true true)[q]! = (G15 cf xs)[q]:=fun q hq=>by
   have h5:q < (pdq (ltOf cf) xs.toArray 0 xs.length (Lib.bitLen xs.length) true true).size:=by rw [h1]; simpa using (hl ▸ hq)
   rw [getElem!_pos _ q h5]; simp [G15]
  rw [g j hj,g i (by omega)] at this
  exact this

def Qc4 (P:Program) (F:FuncId) (k:Nat):Prop:=
 ∀ {α:Type} [Inhabited α] (enc:α→List Value),(∀ x,(enc x).length=k)→(∀ x,∀ v∈enc x,v.oneCell'=true)→∀ (cf:α→α→Int),SWO (ltOf cf)→∀ (g:Nat) (cb:Array Value) (blk off cap:Nat) (d:Array α) (w:World),
  (∀ args w,(callFunc g args).run P w=.ok (.enter g args) w)→CmpLays P g cb enc k cf blk off d.size w→HoldsK enc k w blk off d→blk < w.heap.size→d.size < 4611686018427387904 →
  Calls P F #[.slice (some ⟨blk,off,none⟩) d.size cap,.func (.func g) #[] cb] w fun e w'=>e=.returned (.tuple #[])∧∃ n os,w'=sortWorldK enc k w blk off n (pdq (ltOf cf) d 0 d.size (Lib.bitLen d.size) true true) os
def SortNone (P:Program) (F:FuncId):Prop:=
 ∀ (g:Nat) (cb:Array Value) (w:World),Calls P F #[.slice none 0 0,.func (.func g) #[] cb] w fun e w'=>e=.returned (.tuple #[])∧∃ n os,w'=grow (w.drewN n) os

theorem Rbf {w w':World} (h1:w'.os=w.os) (h2:w'.tape=w.tape) (h3:w'.output=w.output∧w.drawn≤w'.drawn) (h4:w.heap.size≤w'.heap.size) (h5:∀ b,b < w.heap.size→w'.heap[b]? = w.heap[b]?):∃ q os,w'=grow (w.drewN q) os:=by
 refine⟨w'.drawn - w.drawn,w'.heap.extract w.heap.size w'.heap.size,?_⟩
 obtain⟨hp,tp,dr,os_,out⟩:=w'
 simp only at h1 h2 h3 h4 h5
 subst h1 h2
 obtain⟨rfl,h3⟩:=h3
 unfold grow World.drewN
 simp only [World.mk.injEq,true_and,and_true]
 refine⟨?_,by omega⟩
 apply Array.ext_getElem?
 intro k
 rw [Array.getElem?_append]
 split
 ·rename_i hk; exact h5 k hk
 ·rename_i hk
  rw [Array.getElem?_extract]
  have e:w.heap.size+(k - w.heap.size)=k:=by omega
  split
  ·rw [e]
  ·rename_i h0
   exact Array.getElem?_eq_none (by omega)

theorem R70 {P:Program} {f:FuncId} {args:List AV} {u:AV} (hc:Pure P f args (·=u)) {w:World} {vs:Array Value} (hl:vs.size=args.length) (hv:∀ (j:Nat) a v,args[j]? = some a→vs[j]? = some v→D w (fun b _=>b < w.heap.size) a v) :
  Calls P f vs w fun e w'=>∃ v,e=.returned v∧D w' (fun b _=>b < w'.heap.size) u v∧∃ q os,w'=grow (w.drewN q) os:=by
 have h1:∀ b i:Nat,b < w.heap.size→Jj w ⟨fun _=>none,fun _ _=>False⟩ [] b i:=fun b i hs=>⟨hs,fun h=>h,fun id o h=>by simp [lk] at h⟩
 refine(hc w ⟨fun _=>none,fun _ _=>False⟩ vs ⟨fun b i h=>h.elim,fun id b h=>by simp [lk] at h,fun id b j h=>by simp [lk] at h,fun id id' b h=>by simp [lk] at h,fun id o h=>by simp [lk] at h⟩ hl
  (fun j u v hu h2=>.data ((hv j u v hu h2).mono fun b i hs=>⟨h1 b i hs,rfl⟩))).mono fun e w' h=>?_
 obtain⟨v,r,β',L',he,h4,h0,h3,rfl,rfl⟩:=h
 exact⟨v,he,h3.data_of_nil.mono fun b i hs=>⟨hs.lt,rfl⟩,Rbf h0.os h0.tape h0.output h0.size (fun b hb=>(h0.far b hb (fun id h=>by simp [lk] at h)).1)⟩

def Flat {α:Type} (f:α→AV) (enc:α→List Value):Prop:=∀ x,f x=.agg ((enc x).map .sc)

theorem D.inv_sc {w:World} {S:Nat→Nat→Prop} {v x:Value} (h:D w S (.sc v) x):x=v:=by cases h; rfl
theorem Y8b {w:World} {S:Nat→Nat→Prop} {vs:List Value}:D w S (.agg (vs.map .sc)) (.agg vs.toArray):=
 .agg (by simp) fun j u v hu hv=>by
  simp only [M9] at hu
  simp only [List.getElem?_toArray] at hv
  rw [hv] at hu; cases hu; exact .sc

theorem Q30 {α:Type} [Inhabited α] {f:α→AV} {enc:α→List Value} {k:Nat} (hf:Flat f enc) (hk:∀ x,(enc x).length=k) (xs:List α):flat (xs.map f)=(flatK enc k xs.toArray).toList.map .sc:=by
 apply List.ext_getElem?
 intro j
 have h0:∀ x∈xs.map f,x.cells.length=k:=fun x hx=>by
  obtain⟨y,_,rfl⟩:=Mi.1 hx
  rw [hf y]; simp [AV.cells,hk]
 have h4:(flatK enc k xs.toArray).size=xs.length*k:=by rw [size_flatK]; simp
 rcases Ku j (xs.length*k) with hj | hj
 ·have k0:0 < k:=by
   rcases Nat.eq_zero_or_pos k with h | h
   ·subst h; simp at hj
   ·exact h
  have h5:j=j / k*k+j % k:=by rw [Nat.mul_comm]; exact(Nat.div_add_mod j k).symm
  have hq:j / k < xs.length:=Nat.div_lt_of_lt_mul (by rw [Nat.mul_comm]; exact hj)
  have h1:(xs.map f)[j / k]? = some (f xs[j / k]):=by simp [hq]
  have hl:(flat (xs.map f))[j]? = (f xs[j / k]).cells[j % k]? := by
   have:=Ga9 h0 h1 (Nat.mod_lt j k0)
   rwa [← h5] at this
  have hg:=get_flatK enc k xs.toArray j (by rw [List.size_toArray]; exact hj)
  have h2:j % k < (enc xs[j / k]).length:=by rw [hk]; exact Nat.mod_lt _ k0
  rw [hl,hf,M9]
  simp only [AV.cells,M9,M1 h2,Option.map_some,Array.getElem?_toList]
  have h3:j < (flatK enc k xs.toArray).size:=by omega
  rw [Array.getElem?_eq_getElem h3,Option.map_some]
  rw [getElem!_pos _ j h3] at hg
  rw [hg]
  have:xs.toArray[j / k]! = xs[j / k]:=by rw [getElem!_pos _ (j / k) (by simpa using hq)]; simp
  rw [this,getElem!_pos _ (j % k) h2]
 ·rw [List.getElem?_eq_none (by rw [J3 h0]; simpa using hj),List.getElem?_eq_none (by simp [h4]; exact hj)]

set_option maxHeartbeats 1000000 in
theorem R62 {P:Program} {F:FuncId} {k:Nat} (hs:Qc4 P F k) (h0:SortNone P F) {α:Type} [Inhabited α] {f:α→AV} (enc:α→List Value) (hf:Flat f enc) (hk:∀ x,(enc x).length=k) (h1:∀ x,∀ v∈enc x,v.oneCell'=true)
  (cf:α→α→Int) (hO:SWO (ltOf cf)) (g:FuncId) (hB:H9 P g=true) (caps:List AV) (c1:Qs (fun _=>false) caps=true) (h8:∀ x y,Pure P g ([f x,f y]++caps) (·=I64 (cf x y)))
  (i ver E:Nat) (xs:List α) (b7:xs.length < 4611686018427387904) :
  Jx P F [.vec i ver k xs.length,.fn g caps] [(i,.vec E k ver (xs.map f))] (fun r L'=>r=.tup []∧L'=[(i,.vec E k ver ((G15 cf xs).map f))]):=by
 intro w β vs h9 hl hv
 have hi:lk [(i,Jh.vec E k ver (xs.map f))] i=some (.vec E k ver (xs.map f)):=by simp [lk]
 have c2:vs.size=2:=hl
 obtain⟨v0,v1,rfl⟩:∃ v0 v1,vs=#[v0,v1]:=by
  refine⟨vs[0],vs[1],?_⟩
  apply Array.ext
  ·simp [c2]
  ·intro j d4 c3
   have:j=0∨j=1:=by omega
   rcases this with rfl | rfl <;> rfl
 have c4:=hv 0 _ v0 rfl rfl
 have c5:=hv 1 _ v1 rfl rfl
 obtain⟨cb,rfl,a9,c6⟩:=c5.inv_fn
 have b8:∀ (j:Nat) u v,caps[j]? = some u→cb[j]? = some v→D w (Jj w β [(i,Jh.vec E k ver (xs.map f))]) u v:=fun j u v hu h2=>(c6 j u v hu h2).toD (G05 c1 u (M3 hu))
 obtain⟨-,d5,c7⟩:=G58 h9 hi c4
 have h7:(G15 cf xs).length=xs.length:=(Ja3 cf hO xs).2.1
 have a0:∀ y∈(G15 cf xs).map f,y.cells.length=k:=fun y hy=>by
  obtain⟨z,_,rfl⟩:=Mi.1 hy
  rw [hf z]; simp [AV.cells,hk]
 have h6:∀ L:Loc,L=[(i,Jh.vec E k ver ((G15 cf xs).map f))]→H5e ((i,Jh.vec E k ver ((G15 cf xs).map f))::[(i,Jh.vec E k ver (xs.map f))]) L:=fun L hL id=>by
  subst hL
  rw [Gm,Gm,Gm]
  by_cases e:i=id
  ·rw [if_pos e,if_pos e]
  ·rw [if_neg e,if_neg e,if_neg e]
 rcases c7 with ⟨rfl,c8,b0⟩ | ⟨b,cap,cur,rfl,hb,q1,q2,q3,q4,q5⟩
 ·-- no element
  refine(h0 g cb w).mono fun e w' h=>?_
  obtain⟨rfl,n,os,rfl⟩:=h
  have hx:xs=[]:=by simpa using c8
  subst hx
  have b1:G15 cf ([]:List α)=[]:=Kr (by simpa using h7)
  obtain⟨st,sat⟩:=Rq (w':=grow (w.drewN n) os) (t:=E) (k:=k) (ver1:=ver) (xs':=(G15 cf ([]:List α)).map f) (ob':=none) h9 (.inr ⟨ver,_,hi,M5,fun _=>⟨by simp [b1],b0.symm,fun b hb=>by rw [b0] at hb; cases hb⟩⟩)
   rfl rfl ⟨rfl,by simp [grow,World.drewN]⟩ (by simp [grow,World.drewN]) (fun b hb _=>by simp [grow,World.drewN,Array.getElem?_append_left hb]) (.inl rfl)
  have s2:=sat ⟨a0,.inl ⟨rfl,by simp [b1]⟩⟩
  exact⟨_,_,_,_,rfl,s2.locEq (h6 _ rfl),st.locEq (h6 _ rfl),.tup rfl (fun j u v hu=>by simp at hu),rfl,rfl⟩
 ·have a3:b < w.heap.size:=(Kp q3).1
  have b2:(flatK enc k xs.toArray).size=xs.length*k:=by rw [size_flatK]; simp
  have b3:(xs.map f).length=xs.length:=by simp
  rw [b3] at q1
  have hH:HoldsK enc k w b 0 xs.toArray:=by
   intro j hj
   have c3:j < xs.length*k:=by rw [← b2]; exact hj
   have b4:j < cur.size:=by rw [q4]; have:=Nat.mul_le_mul_right k q1; omega
   have hu:(flat (xs.map f))[j]? = some (.sc (flatK enc k xs.toArray)[j]!):=by
    rw [Q30 hf hk,M9,Array.getElem?_toList,Array.getElem?_eq_getElem hj,getElem!_pos _ j hj]; rfl
   have hd:=q5 j _ cur[j] hu (by simp [b4])
   have he:cur[j]=(flatK enc k xs.toArray)[j]! := hd.inv_sc
   constructor
   ·simp [World.cell?,q3,b4,he]
   ·simp [World.frozen?,q3]
  have eg:∀ args w,(callFunc g args).run P w=.ok (.enter g args) w:=fun args w=>H9.out hB args w
  have hC:CmpLays P g cb enc k cf b 0 xs.toArray.size w:=by
   intro m os dk d6 x y
   have h4:∀ b' j,Jj w β [(i,Jh.vec E k ver (xs.map f))] b' j→G3b (sortWorldK enc k w b 0 m dk os) b' j=G3b w b' j∧b' < (sortWorldK enc k w b 0 m dk os).heap.size:=by
    intro b' j hs
    have a4:b'≠b:=fun e=>by
     have:=hs.kept i _ hi (by rw [e]; exact hb)
     exact this
    constructor
    ·refine Jw (w:=w) ?_
     unfold sortWorldK
     simp only [grow]
     rw [Array.getElem?_append_left (by simp only [putRowK,putRow,mapBlock,Array.size_modify,Sort.ahead]; exact hs.lt)]
     simp only [putRowK,putRow,mapBlock,Sort.ahead,Array.getElem?_modify,if_neg (Ne.symm a4)]
    ·unfold sortWorldK
     simp only [size_grow,putRowK,putRow,mapBlock,Array.size_modify,Sort.ahead]
     have:=hs.lt; omega
   generalize sortWorldK enc k w b 0 m dk os=W at h4 ⊢
   have a5:(#[Value.agg (enc x).toArray,Value.agg (enc y).toArray]++cb).size=([f x,f y]++caps).length:=by rw [Array.size_append,Mc,a9]; rfl
   have c9:=R70 (w:=W) (h8 x y) a5
   clear h8 hs a5 hH b2 q5 a9
   refine(c9 (fun j a v ha h2=>?_)).mono fun e w' h=>?_
   ·rcases Ku j 2 with hj | hj
    ·rw [M7 (by simpa using hj)] at ha
     rw [Array.getElem?_append_left (by simpa using hj)] at h2
     have:j=0∨j=1:=by omega
     rcases this with rfl | rfl
     ·simp at ha h2; subst ha h2; rw [hf x]; exact Y8b
     ·simp at ha h2; subst ha h2; rw [hf y]; exact Y8b
    ·rw [M6 (by simpa using hj)] at ha
     rw [Array.getElem?_append_right (by simpa using hj)] at h2
     exact(b8 (j - 2) a v (by simpa using ha) (by simpa using h2)).mono fun b' j' hs=>⟨(h4 b' j' hs).2,(h4 b' j' hs).1⟩
   ·obtain⟨v,rfl,hd,q,os',rfl⟩:=h
    have d0:=hd.inv_sc
    subst d0
    exact⟨rfl,q,os',rfl⟩
  have a1:=hs enc hk h1 cf hO g cb b 0 cap xs.toArray w eg hC hH a3 (by simpa using b7)
  rw [List.size_toArray] at a1
  rw [b3]
  refine a1.mono fun e w' h=>?_
  obtain⟨rfl,n,os,rfl⟩:=h
  -- what lies there now
  obtain⟨d',a6⟩:∃ d',d'=pdq (ltOf cf) xs.toArray 0 xs.length (Lib.bitLen xs.length) true true:=⟨_,rfl⟩
  have a7:d'.size=xs.toArray.size:=by
   have:=h7
   rw [G15,← a6] at this
   simpa using this
  have d1:G15 cf xs=d'.toList:=by rw [G15,← a6]
  rw [← a6]
  have b5:=holdsK_sortWorldK enc k w b 0 n xs.toArray d' os a3 hH a7
  have h3:(sortWorldK enc k w b 0 n d' os).heap[b]? = some (.cells (putCells id 0 (flatK enc k d') cur) E (0,0)):=by
   unfold sortWorldK grow putRowK putRow mapBlock
   simp only [Sort.ahead]
   rw [Array.getElem?_append_left (by simpa using a3),Array.getElem?_modify,if_pos rfl,q3]
   rfl
  have b6:(putCells id 0 (flatK enc k d') cur).size=cur.size:=by simp [putCells]
  have a8:∀ j,j < xs.length*k→(sortWorldK enc k w b 0 n d' os).cell? ⟨b,j,none⟩=some (flatK enc k d')[j]! := by
   intro j hj
   have a2:j < (flatK enc k d').size:=by rw [size_flatK,a7]; simpa using hj
   have:=(b5 j a2).1
   rw [Nat.zero_add] at this
   exact this
  have f1:(sortWorldK enc k w b 0 n d' os).os=w.os:=rfl
  have f2:(sortWorldK enc k w b 0 n d' os).tape=w.tape:=rfl
  have f3:(sortWorldK enc k w b 0 n d' os).output=w.output∧w.drawn≤(sortWorldK enc k w b 0 n d' os).drawn:=⟨rfl,Nat.le_add_right _ _⟩
  have f4:w.heap.size≤(sortWorldK enc k w b 0 n d' os).heap.size:=by
   unfold sortWorldK
   rw [size_grow]
   simp only [putRowK,putRow,mapBlock,Array.size_modify,Sort.ahead]; omega
  have f5:∀ b',b' < w.heap.size→b≠b'→(sortWorldK enc k w b 0 n d' os).heap[b']? = w.heap[b']? := by
   intro b' h5 b9
   unfold sortWorldK grow putRowK putRow mapBlock
   simp only [Sort.ahead]
   rw [Array.getElem?_append_left (by simpa using h5),Array.getElem?_modify,if_neg b9]
  clear b5 hH hC h8
  generalize sortWorldK enc k w b 0 n d' os=W at h3 a8 f1 f2 f3 f4 f5
  obtain⟨st,sat⟩:=Rq (w':=W) (t:=E) (k:=k) (ver1:=ver) (xs':=(G15 cf xs).map f) (ob':=β.at_ i) h9
   (.inr ⟨ver,_,hi,M5,fun _=>⟨by rw [Mg,Mg,h7],rfl,fun b' h5=>by
    rw [hb] at h5; cases h5
    rw [World.shape?,h3,World.shape?,q3]; simp only [b6]⟩⟩) f1 f2 f3 f4
   (fun b' h5 a4=>f5 b' h5 (fun e=>a4 (by rw [inL,hi]; rfl) (by rw [hb,e])))
   (.inr (.inl ⟨by rw [inL,hi]; rfl,rfl⟩))
  have c0:∀ j,j < xs.length*k→(putCells id 0 (flatK enc k d') cur)[j]? = some (flatK enc k d')[j]! := by
   intro j hj
   have:=a8 j hj
   simp only [World.cell?,h3] at this
   simpa using this
  have s2:=sat ⟨a0,.inr ⟨b,hb,_,h3,by rw [b6,q4,Mg,h7]; exact Nat.mul_le_mul_right _ q1,fun j u v hu h2=>by
   have hj:=(M0 hu).1
   rw [J3 a0,Mg,h7] at hj
   rw [c0 j hj] at h2
   have d2:=M2 h2
   subst d2
   have a2:j < (flatK enc k d').size:=by rw [size_flatK,a7]; simpa using hj
   rw [Q30 hf hk,d1] at hu
   rw [M9,Array.getElem?_toList,Array.toArray_toList,Array.getElem?_eq_getElem a2,Option.map_some] at hu
   have d3:=M2 hu
   subst d3
   rw [getElem!_pos _ j a2]
   exact .sc⟩⟩
  exact⟨_,_,_,_,rfl,s2.locEq (h6 _ rfl),st.locEq (h6 _ rfl),.tup rfl (fun j u v hu=>by simp at hu),rfl,rfl⟩
set_option maxRecDepth 100000
open Go.RowKit Go.Shelf Go.Sort

open Classical in
noncomputable def Ja1 {α:Type} [Inhabited α] (cmp:α→α→Option Int) (xs:List α):Option (List α):=
 if h:∃ cf:α→α→Int,(∀ x y,cmp x y=some (cf x y))∧SWO (ltOf cf)∧xs.length < 4611686018427387904 then some (G15 h.choose xs) else none
theorem Rcb {α:Type} [Inhabited α] {cmp:α→α→Option Int} {xs r:List α} (h:Ja1 cmp xs=some r):∃ cf:α→α→Int,(∀ x y,cmp x y=some (cf x y))∧SWO (ltOf cf)∧xs.length < 4611686018427387904∧r=G15 cf xs:=by
 unfold Ja1 at h
 split at h
 ·next hh=>exact⟨hh.choose,hh.choose_spec.1,hh.choose_spec.2.1,hh.choose_spec.2.2,(M2 h).symm⟩
 ·cases h
theorem Y02 {α:Type} [Inhabited α] {cmp:α→α→Option Int} (cf:α→α→Int) (hc:∀ x y,cmp x y=some (cf x y)) (hO:SWO (ltOf cf)) {xs:List α} (hl:xs.length < 4611686018427387904):Ja1 cmp xs=some (G15 cf xs):=by
 have hh:∃ cf:α→α→Int,(∀ x y,cmp x y=some (cf x y))∧SWO (ltOf cf)∧xs.length < 4611686018427387904:=⟨cf,hc,hO,hl⟩
 unfold Ja1
 rw [dif_pos hh]
 have:hh.choose=cf:=by
  funext x y
  have h1:=hh.choose_spec.1 x y
  rw [hc x y] at h1
  exact(M2 h1).symm
 rw [this]

theorem Y2a {vs:List Value} (h:vs.all Value.oneCell'=true):∀ v∈vs,v.oneCell'=true:=List.all_eq_true.1 h

section ops
variable {P:Program} {o:Oper} {l:Fr} {L L'':Loc}
theorem Rbc {F:FuncId} {x y:Operand} {ts:Array TypeId} {k i ver E n:Nat} {g:FuncId} {caps:List AV} {α:Type} [Inhabited α] {f:α→AV} {cmp:α→α→Option Int} {xs r:List α} (enc:α→List Value) (ho:o.op=.call { callee:=.value (.func F),args:=#[x,y],argTypes:=ts })
  (hs:Qc4 P F k) (h0:SortNone P F) (hf:Flat f enc) (hk:∀ x,(enc x).length=k) (h1:∀ x,∀ v∈enc x,v.oneCell'=true) (hB:H9 P F=true) (h5:H9 P g=true)
  (hx:ev l x=.vec i ver k n) (hy:ev l y=.fn g caps) (hi:lk L i=some (.vec E k ver (xs.map f))) (hn:n=xs.length) (h3:Qs (fun _=>false) caps=true) (h:Ja1 cmp xs=some r)
  (h4:∀ x y q,cmp x y=some q→Pure P g ([f x,f y]++caps) (·=I64 q)) (hL:(i,.vec E k ver (r.map f))::H76 L [(i,.vec E k ver (xs.map f))]=L''):H2 P o l L (Is (.tup []) L''):=by
 obtain⟨cf,hc,hO,hl,rfl⟩:=Rcb h
 subst hn
 have h2:=R62 (P:=P) (F:=F) (k:=k) hs h0 enc hf hk h1 cf hO g h5 caps h3 (fun a b=>h4 a b _ (hc a b)) i ver E xs hl
 refine Gbc (xs:=[x,y]) ho h2 hB ⟨.inl hx,?_,.inl hy,?_,trivial⟩ ⟨hi,trivial⟩ ?_ ?_ hL
 ·simp [AV.refs,inL,lk]
 ·exact Q7 _ _ h3
 ·simp [closedIn,Jh.refs]
 ·simp [H17,inL,lk]
end ops
set_option linter.unusedVariables false
open Go.RowKit Go.Sort Go.Shelf

def R7b (x:Int):List Int→List Int
 | []=>[x]
 | y::r=>bif decide (x≤y) then x::y::r else y::R7b x r
def Gdf:List Int→List Int
 | []=>[]
 | x::r=>R7b x (Gdf r)
theorem J7a (x:Int):∀ l,(R7b x l).Perm (x::l)
 | []=>List.Perm.refl _
 | y::r=>by
  rw [R7b]
  cases decide (x≤y) with
  | true=>exact List.Perm.refl _
  | false=>exact(List.Perm.cons y (J7a x r)).trans (List.Perm.swap x y r)
theorem Ge9:∀ l,(Gdf l).Perm l
 | []=>List.Perm.refl _
 | x::r=>(J7a x _).trans ((Ge9 r).cons x)
theorem Jb0 {x:Int}:∀ {l:List Int},l.Pairwise (·≤·)→(R7b x l).Pairwise (·≤·)
 | [],_=>by simp [R7b]
 | y::r,h=>by
  rw [R7b]
  rw [List.pairwise_cons] at h
  cases hb:decide (x≤y) with
  | true=>
   have h0:=Kw hb
   rw [cond_true,List.pairwise_cons]
   refine⟨fun z hz=>?_,List.pairwise_cons.2 h⟩
   rcases Mk.1 hz with rfl | hz
   ·exact h0
   ·have:=h.1 z hz; omega
  | false=>
   have h0:=Kx hb
   rw [cond_false,List.pairwise_cons]
   refine⟨fun z hz=>?_,Jb0 h.2⟩
   rcases Mk.1 ((J7a x r).mem_iff.1 hz) with rfl | hz
   ·omega
   ·exact h.1 z hz
theorem Gd3:∀ l,(Gdf l).Pairwise (·≤·)
 | []=>List.Pairwise.nil
 | x::r=>Jb0 (Gd3 r)
theorem Qf7 (xs:List Int):(xs.mergeSort fun x y=>decide (x≤y))=Gdf xs:=by
 have h1:=List.mergeSort_perm xs (fun x y=>decide (x≤y))
 have h2:(xs.mergeSort fun x y=>decide (x≤y)).Pairwise (fun a b:Int=>decide (a≤b)=true):=List.pairwise_mergeSort (le:=fun x y:Int=>decide (x≤y)) (fun a b c h g=>by simp at *; omega) (fun a b=>by simp; omega) xs
 refine List.Perm.eq_of_pairwise (le:=fun a b:Int=>decide (a≤b)=true) (fun a b _ _ h0 h3=>by simp at *; omega) h2 ((Gd3 xs).imp fun h=>Ky h) (h1.trans (Ge9 xs).symm)
theorem Q78 (xs:List Int):(Gdf xs).length=xs.length:=(Ge9 xs).length_eq
def H37 (xs:List Int):Option (List Int):=bif decide (xs.length < 4611686018427387904) then some (Gdf xs) else none
theorem R63 {xs r:List Int} (h:H37 xs=some r):xs.length < 4611686018427387904∧r=Gdf xs:=by
 unfold H37 at h
 cases hb:decide (xs.length < 4611686018427387904) with
 | true=>rw [hb] at h; exact⟨Kw hb,(M2 h).symm⟩
 | false=>rw [hb] at h; cases h

def Q42 (P:Program) (F:FuncId):Prop:=
 ∀ (blk off cap:Nat) (zs:List Int) (w:World),Holds (Value.int .i64) w blk off zs.toArray→blk < w.heap.size→zs.length < 4611686018427387904 →
  Calls P F #[.slice (some ⟨blk,off,none⟩) zs.length cap] w fun e w'=>e=.returned (.tuple #[])∧∃ n os,w'=grow (putRow (Value.int .i64) (Sort.ahead w n) blk off (zs.mergeSort fun x y=>decide (x≤y)).toArray) os
def J7f (P:Program) (F:FuncId):Prop:=
 ∀ (p:Option Addr) (cap:Nat) (w:World),Calls P F #[.slice p 0 cap] w fun e w'=>e=.returned (.tuple #[])∧w'=w

theorem Q91 (xs:List Int):flat (xs.map I64)=xs.map I64:=by
 induction xs with
 | nil=>rfl
 | cons x r ih=>rw [List.map_cons,flat,ih]; rfl

theorem Qf8 {P:Program} {F:FuncId} (hs:Q42 P F) (h0:J7f P F) (i ver E:Nat) (xs:List Int) (a6:xs.length < 4611686018427387904) :
  Jx P F [.vec i ver 1 xs.length] [(i,.vec E 1 ver (xs.map I64))] (fun r L'=>r=.tup []∧L'=[(i,.vec E 1 ver ((Gdf xs).map I64))]):=by
 intro w β vs h4 hl hv
 have hi:lk [(i,Jh.vec E 1 ver (xs.map I64))] i=some (.vec E 1 ver (xs.map I64)):=by simp [lk]
 have a9:vs.size=1:=hl
 obtain⟨v0,rfl⟩:∃ v0,vs=#[v0]:=by
  refine⟨vs[0],?_⟩
  apply Array.ext
  ·simp [a9]
  ·intro j b9 h7
   have:j=0:=by omega
   subst this; rfl
 have b0:=hv 0 _ v0 rfl rfl
 obtain⟨-,c0,b1⟩:=G58 h4 hi b0
 have h5:=Q78 xs
 have h8:∀ y∈(Gdf xs).map I64,y.cells.length=1:=fun y hy=>by
  obtain⟨z,_,rfl⟩:=Mi.1 hy
  rfl
 have h2:∀ L:Loc,L=[(i,Jh.vec E 1 ver ((Gdf xs).map I64))]→H5e ((i,Jh.vec E 1 ver ((Gdf xs).map I64))::[(i,Jh.vec E 1 ver (xs.map I64))]) L:=fun L hL id=>by
  subst hL
  rw [Gm,Gm,Gm]
  by_cases e:i=id
  ·rw [if_pos e,if_pos e]
  ·rw [if_neg e,if_neg e,if_neg e]
 rcases b1 with ⟨rfl,b2,b3⟩ | ⟨b,cap,cur,rfl,hb,q1,q2,q3,q4,q5⟩
 ·refine(h0 none 0 w).mono fun e w' h=>?_
  obtain⟨rfl,rfl⟩:=h
  have hx:xs=[]:=by simpa using b2
  subst hx
  have a1:Gdf ([]:List Int)=[]:=Kr (by simpa using h5)
  obtain⟨st,sat⟩:=Rq (w':=w') (t:=E) (k:=1) (ver1:=ver) (xs':=(Gdf ([]:List Int)).map I64) (ob':=none) h4 (.inr ⟨ver,_,hi,M5,fun _=>⟨by simp [a1],b3.symm,fun _ _=>rfl⟩⟩)
   rfl rfl ⟨rfl,M5⟩ (M5) (fun b hb _=>rfl) (.inl rfl)
  have s2:=sat ⟨h8,.inl ⟨rfl,by simp [a1]⟩⟩
  exact⟨_,_,_,_,rfl,s2.locEq (h2 _ rfl),st.locEq (h2 _ rfl),.tup rfl (fun j u v hu=>by simp at hu),rfl,rfl⟩
 ·have a2:b < w.heap.size:=(Kp q3).1
  have a3:(xs.map I64).length=xs.length:=by simp
  rw [a3] at q1
  have hH:Holds (Value.int .i64) w b 0 xs.toArray:=by
   intro j hj
   have h7:j < xs.length:=by simpa using hj
   have h6:j < cur.size:=by rw [q4]; omega
   have hu:(flat (xs.map I64))[j]? = some (.sc (Value.int .i64 xs[j])):=by
    rw [Q91,M9,M1 h7]; rfl
   have hd:=q5 j _ cur[j] hu (by simp [h6])
   have he:cur[j]=Value.int .i64 xs[j]:=hd.inv_sc
   constructor
   ·simp [World.cell?,q3,h6,he,h7]
   ·simp [World.frozen?,q3]
  have a0:=hs b 0 cap xs w hH a2 a6
  rw [a3]
  refine a0.mono fun e w' h=>?_
  obtain⟨rfl,n,os,rfl⟩:=h
  rw [Qf7]
  obtain⟨d',h9⟩:∃ d':Array Int,d'=(Gdf xs).toArray:=⟨_,rfl⟩
  have b4:d'.size=xs.length:=by rw [h9]; simp [Q78]
  have b5:Gdf xs=d'.toList:=by rw [h9]
  rw [← h9]
  have h3:(grow (putRow (Value.int .i64) (Sort.ahead w n) b 0 d') os).heap[b]? = some (.cells (putCells (Value.int .i64) 0 d' cur) E (0,0)):=by
   unfold grow putRow mapBlock
   simp only [Sort.ahead]
   rw [Array.getElem?_append_left (by simpa using a2),Array.getElem?_modify,if_pos rfl,q3]
   rfl
  have a4:(putCells (Value.int .i64) 0 d' cur).size=cur.size:=by simp [putCells]
  have a7:∀ j,j < xs.length→(putCells (Value.int .i64) 0 d' cur)[j]? = some (Value.int .i64 d'[j]!):=by
   intro j hj
   have h6:j < cur.size:=by rw [q4]; omega
   simp [putCells,h6,b4,hj]
  have f1:(grow (putRow (Value.int .i64) (Sort.ahead w n) b 0 d') os).os=w.os:=rfl
  have f2:(grow (putRow (Value.int .i64) (Sort.ahead w n) b 0 d') os).tape=w.tape:=rfl
  have f3:(grow (putRow (Value.int .i64) (Sort.ahead w n) b 0 d') os).output=w.output∧w.drawn≤(grow (putRow (Value.int .i64) (Sort.ahead w n) b 0 d') os).drawn:=⟨rfl,Nat.le_add_right _ _⟩
  have f4:w.heap.size≤(grow (putRow (Value.int .i64) (Sort.ahead w n) b 0 d') os).heap.size:=by
   rw [size_grow]
   simp only [putRow,mapBlock,Array.size_modify,Sort.ahead]; omega
  have f5:∀ b',b' < w.heap.size→b≠b'→(grow (putRow (Value.int .i64) (Sort.ahead w n) b 0 d') os).heap[b']? = w.heap[b']? := by
   intro b' h1 a8
   unfold grow putRow mapBlock
   simp only [Sort.ahead]
   rw [Array.getElem?_append_left (by simpa using h1),Array.getElem?_modify,if_neg a8]
  clear hH
  generalize grow (putRow (Value.int .i64) (Sort.ahead w n) b 0 d') os=W at h3 f1 f2 f3 f4 f5
  obtain⟨st,sat⟩:=Rq (w':=W) (t:=E) (k:=1) (ver1:=ver) (xs':=(Gdf xs).map I64) (ob':=β.at_ i) h4
   (.inr ⟨ver,_,hi,M5,fun _=>⟨by rw [Mg,Mg,h5],rfl,fun b' h1=>by
    rw [hb] at h1; cases h1
    rw [World.shape?,h3,World.shape?,q3]; simp only [a4]⟩⟩) f1 f2 f3 f4
   (fun b' h1 b6=>f5 b' h1 (fun e=>b6 (by rw [inL,hi]; rfl) (by rw [hb,e])))
   (.inr (.inl ⟨by rw [inL,hi]; rfl,rfl⟩))
  have s2:=sat ⟨h8,.inr ⟨b,hb,_,h3,by rw [a4,q4,Mg,h5]; omega,fun j u v hu a5=>by
   rw [Q91] at hu
   have hj:=(M0 hu).1
   rw [Mg,h5] at hj
   rw [a7 j hj] at a5
   have b7:=M2 a5
   subst b7
   rw [b5,M9,Array.getElem?_toList,Array.getElem?_eq_getElem (by omega),Option.map_some] at hu
   have b8:=M2 hu
   subst b8
   rw [getElem!_pos _ j (by omega)]
   exact .sc⟩⟩
  exact⟨_,_,_,_,rfl,s2.locEq (h2 _ rfl),st.locEq (h2 _ rfl),.tup rfl (fun j u v hu=>by simp at hu),rfl,rfl⟩

section ops
variable {P:Program} {o:Oper} {l:Fr} {L L'':Loc}
theorem Rbd {F:FuncId} {x:Operand} {ts:Array TypeId} {i ver E n:Nat} {xs r:List Int} (ho:o.op=.call { callee:=.value (.func F),args:=#[x],argTypes:=ts })
  (hs:Q42 P F) (h0:J7f P F) (hB:H9 P F=true)
  (hx:ev l x=.vec i ver 1 n) (hi:lk L i=some (.vec E 1 ver (xs.map I64))) (hn:n=xs.length) (h:H37 xs=some r)
  (hL:(i,.vec E 1 ver (r.map I64))::H76 L [(i,.vec E 1 ver (xs.map I64))]=L''):H2 P o l L (Is (.tup []) L''):=by
 obtain⟨hl,rfl⟩:=R63 h
 subst hn
 have h1:=Qf8 (P:=P) (F:=F) hs h0 i ver E xs hl
 refine Gbc (xs:=[x]) ho h1 hB ⟨.inl hx,?_,trivial⟩ ⟨hi,trivial⟩ ?_ ?_ hL
 ·simp [AV.refs,inL,lk]
 ·simp [closedIn,Jh.refs]
 ·simp [H17,inL,lk]
end ops
end Go.Proofs.YtmfhaflabpnaoaaGreat
