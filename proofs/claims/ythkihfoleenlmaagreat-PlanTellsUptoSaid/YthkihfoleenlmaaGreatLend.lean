/- Slices of the call's own: -/
import Derived.Test.YthkihfoleenlmaaGreatVec
namespace Go.Proofs.YthkihfoleenlmaaGreat
open Go.RowKit

section freeze
variable {P:Program} {N:Cfg} {Q:Post} {l l':Fr} {L L':Loc}

theorem V.vfreeze {w:World} {β:H4} {i ver n t k:Nat} {xs:List AV} {v:Value} (h0:Sat w β L) (hi:lk L i=some (.vec t k ver xs)) (h6:sH L L') (h8:lk L' i=none) (h:V w β L (.vec i ver k n) v):V w β L' (.list k xs) v:=by
 obtain⟨rfl,hk,h⟩:=iL h0 hi h
 rcases h with ⟨rfl,rfl,_⟩ | ⟨b,cap,vs,rfl,hb,h1,h2,h3,h4,h5⟩
 .exact .data (.nil (Nat.zero_le _))
 .have h7:∀ j,j < (flat xs).length→j < vs.size:=fun j hj=>by
   rw [Jf hk] at hj
   have:=Nat.mul_le_mul_right k h1
   omega
  refine .data (.list (fun j=>vs.getD j undef) h1 h2 hk (fun j hj=>⟨⟨(Nz h3).1,h0.apart i b _ (by rw [hi]; rfl) hb,fun id o ho h9=>?_⟩,?_⟩) (fun j u hu=>?_))
  .obtain⟨o0,a0,_⟩:=h6.like id o ho
   have:=h0.inj i id b (by rw [hi]; rfl) (by rw [a0]; rfl) hb h9
   subst this
   rw [h8] at ho; cases ho
  .have:=h7 j hj
   simp [World.cell?,h3,this]
  .have hj:=(Pa hu).1
   have:=h7 j hj
   refine(h5 j u _ hu ?_).mono fun b i hs=>⟨h6.stab hs,rfl⟩
   simp [this]

inductive Jad (i ver k:Nat) (xs:List AV) (ok:Nat→Bool):AV→AV→Prop
 | conv {u u':AV} (h:Conv ok u u'):Jad i ver k xs ok u u'
 | vec {n:Nat}:Jad i ver k xs ok (.vec i ver k n) (.list k xs)
def yH (i ver k:Nat) (xs:List AV) (ok:Nat→Bool) (l:Fr):Fr→Prop
 | []=>True
 | (t,u)::r=>Jad i ver k xs ok (look l t) u/\yH i ver k xs ok l r
theorem yH.get {i ver k:Nat} {xs:List AV} {ok:Nat→Bool} {l:Fr}:∀ {l':Fr},yH i ver k xs ok l l'→∀ t,Jad i ver k xs ok (look l t) (look l' t)
 | [],_,t=>.conv .junk
 | (s,u)::r,h,t=>by
  simp only [look]
  cases hb:Nat.beq s t with
  | true=>have:=P2 hb; subst this; exact h.1
  | false=>exact yH.get h.2 t

theorem Ry.vfreeze {w0 w:World} {β0 β:H4} {L0:Loc} {a:Act} (hs:Ry N w0 β0 L0 a w β l L) (i:Nat) {t ver k:Nat} {xs:List AV} (hi:lk L i=some (.vec t k ver xs))
  (h2:lk L' i=none) (hl:bQ (fun j=>(lk L' j).isSome) L L') (hb:allIn L' N.base=true) (hf:yH i ver k xs (fun j=>(lk L' j).isSome) l l'):Ry N w0 β0 L0 a w β l' L':=by
 have h0:Fits N.base l L [] L':=⟨trivial,hl,hb⟩
 have h1:=hs.fits h0
 refine⟨h1.sat,h1.step,⟨fun t'=>?_⟩,h1.size,h1.base,h1.defers⟩
 have hv:=hs.frame.tmp t'
 generalize hu:look l t'=u at hv
 have hz:=hf.get t'
 rw [hu] at hz
 generalize look l' t'=u' at hz
 cases hz with
 | conv hc=>exact hv.conv h0.drop hc
 | vec=>exact hv.vfreeze hs.sat hi h0.drop h2
theorem zR {c:Code} (l':Fr) (L':Loc) (i:Nat) {t ver k:Nat} {xs:List AV} (hi:lk L i=some (.vec t k ver xs)) (h0:lk L' i=none) (hl:bQ (fun j=>(lk L' j).isSome) L L') (hb:allIn L' N.base=true)
  (hf:yH i ver k xs (fun j=>(lk L' j).isSome) l l') (hk:JC P N c Q l' L'):JC P N c Q l L:=fun n w0 β0 L0 a w β hs=>hk n w0 β0 L0 a w β (hs.vfreeze i hi h0 hl hb hf)
end freeze

def AV.noRef:AV→Bool
 | .junk=>true
 | .sc _=>true
 | .agg cs=>noRefL cs
 | .tup cs=>noRefL cs
 | .list _ []=>true
 | _=>false
where noRefL:List AV→Bool
 | []=>true
 | x::r=>x.noRef&&noRefL r
theorem zH:∀ {cs:List AV},AV.noRef.noRefL cs=true→∀ u∈cs,u.noRef=true
 | [],_,u,hu=>by cases hu
 | x::r,h,u,hu=>by
  simp only [AV.noRef.noRefL,Pp] at h
  rcases Pv.1 hu with rfl | hu
  .exact h.1
  .exact zH h.2 u hu
theorem D.noRef {w w':World} {S S':Nat→Nat→Prop} {u:AV} {v:Value} (h:D w S u v):u.noRef=true→D w' S' u v:=by
 induction h with
 | junk=>exact fun _=>.junk
 | sc=>exact fun _=>.sc
 | agg hl _ ih=>exact fun hr=>.agg hl fun j u v hu hv=>ih j u v hu hv (zH (by simpa [AV.noRef] using hr) u (Pd hu))
 | tup hl _ ih=>exact fun hr=>.tup hl fun j u v hu hv=>ih j u v hu hv (zH (by simpa [AV.noRef] using hr) u (Pd hu))
 | nil h=>exact fun _=>.nil h
 | @list k b off cap xs vals h0 hm _ _ _ _=>
  intro hr
  cases xs with
  | nil=>exact .nil hm
  | cons x r=>simp [AV.noRef] at hr
 | lnil=>exact fun hr=>by simp [AV.noRef] at hr
 | lst=>exact fun hr=>by simp [AV.noRef] at hr
 | dptr=>exact fun hr=>by simp [AV.noRef] at hr
 | fn=>exact fun hr=>by simp [AV.noRef] at hr
 | bfn=>exact fun hr=>by simp [AV.noRef] at hr
 | opt=>exact fun hr=>by simp [AV.noRef] at hr
 | dmap=>exact fun hr=>by simp [AV.noRef] at hr
 | bag=>exact fun hr=>by simp [AV.noRef] at hr
 | blk=>exact fun hr=>by simp [AV.noRef] at hr
 | frz=>exact fun hr=>by simp [AV.noRef] at hr

section calls
variable {P:Program} {o:Oper} {l:Fr} {L:Loc} {u:AV}

inductive jI (L:Loc):AV→AV→Prop
 | data {u u':AV} (h:u.plain=u') (hd:u'.isData=true):jI L u u'
 | vec {i ver k n t:Nat} {xs:List AV} (hi:lk L i=some (.vec t k ver xs)):jI L (.vec i ver k n) (.list k xs)
 | agg {cs ds:List AV} (hl:ds.length=cs.length) (h:∀ (j:Nat) u u',cs[j]? = some u→ds[j]? = some u'→jI L u u'):jI L (.agg cs) (.agg ds)
def rJ (L:Loc):List AV→List AV→Prop
 | [],[]=>True
 | u::r,u'::s=>jI L u u'/\rJ L r s
 | _,_=>False
theorem rJ.len {L:Loc}:∀ {cs ds:List AV},rJ L cs ds→ds.length=cs.length
 | [],[],_=>rfl
 | _::_,_::_,h=>by simp [rJ.len h.2]
def rN (l:Fr) (L:Loc):List Operand→List AV→Prop
 | [],[]=>True
 | x::r,u::s=>jI L (ev l x) u/\rN l L r s
 | _,_=>False
theorem rN.length {l:Fr} {L:Loc}:∀ {xs:List Operand} {us:List AV},rN l L xs us→xs.length=us.length
 | [],[],_=>rfl
 | _::r,_::s,h=>by simp [rN.length h.2]
theorem rN.get {l:Fr} {L:Loc}:∀ {xs:List Operand} {us:List AV},rN l L xs us→∀ {j:Nat} {x:Operand} {u:AV},xs[j]? = some x→us[j]? = some u→jI L (ev l x) u
 | [],[],_,j,x,u,h,_=>by simp at h
 | x::r,u::s,h,0,_,_,hx,hu=>by simp at hx hu; subst hx hu; exact h.1
 | x::r,u::s,h,j+1,_,_,hx,hu=>by simp at hx hu; exact rN.get h.2 hx hu

theorem jI.D {w:World} {β:H4} {u u':AV} (h0:Sat w β L) (h:jI L u u'):∀ {v:Value},V w β L u v→D w (fun b _=>b < w.heap.size) u' v:=by
 induction h with
 | agg hl _ ih=>
  intro v hv
  obtain⟨vs,rfl,h2,h3⟩:=hv.inv_agg
  refine .agg (h2.trans hl.symm) fun j u' x h1 hx=>?_
  have hj:j < _:=(Pa h1).1
  exact ih j _ u' (Pb (hl ▸ hj)) h1 (h3 j _ x (Pb (hl ▸ hj)) hx)
 | data h hd=>
  intro v hv
  subst h
  exact(hv.plain.toD hd).mono fun b i hs=>⟨hs.lt,rfl⟩
 | @vec i ver k n t xs hi=>
  intro v hv
  have hd:sH L (L.filter fun p=>!Nat.beq p.1 i):=by
   refine⟨fun id o' h=>?_⟩
   have:lk L id=some o':=by
    clear h0 hi hv
    induction L with
    | nil=>simp [lk] at h
    | cons p r ih=>
     obtain⟨q,ob⟩:=p
     rw [List.filter_cons] at h
     by_cases e:(!Nat.beq (q,ob).1 i)=true
     .rw [if_pos e,Gm] at h
      rw [Gm]
      by_cases e2:q=id
      .rw [if_pos e2] at h ⊢; exact h
      .rw [if_neg e2] at h ⊢; exact ih h
     .rw [if_neg e] at h
      rw [Gm]
      by_cases e2:q=id
      .exfalso
       subst e2
       have h4:q=i:=by
        cases hb:Nat.beq q i with
        | true=>exact P2 hb
        | false=>exact absurd (by simp [hb]) e
       subst h4
       have h5:∀ r:Loc,lk (r.filter fun p=>!Nat.beq p.1 q) q=none:=by
        intro r
        induction r with
        | nil=>rfl
        | cons p r ih2=>
         rw [List.filter_cons]
         by_cases e3:(!Nat.beq p.1 q)=true
         .rw [if_pos e3,Gm,if_neg (fun e4=>by rw [e4] at e3; simp at e3)]; exact ih2
         .rw [if_neg e3]; exact ih2
       rw [h5] at h; cases h
      .rw [if_neg e2]; exact ih h
   exact⟨o',this,by cases o' <;> simp [Jn.like]⟩
  have hn:lk (L.filter fun p=>!Nat.beq p.1 i) i=none:=by
   clear h0 hi hv hd
   induction L with
   | nil=>rfl
   | cons p r ih2=>
    rw [List.filter_cons]
    by_cases e3:(!Nat.beq p.1 i)=true
    .rw [if_pos e3,Gm,if_neg (fun e4=>by rw [e4] at e3; simp at e3)]; exact ih2
    .rw [if_neg e3]; exact ih2
  exact((hv.vfreeze h0 hi hd hn).inv_list).mono fun b i hs=>⟨hs.lt,rfl⟩

theorem Hf7 {P:Program} {f:FuncId} {args:List AV} {R:AV→Prop} (hc:Pure P f args R) {w:World} {β:H4} (h0:Sat w β L) {vs:Array Value} (hl:vs.size=args.length)
  (hv:∀ (j:Nat) u v,args[j]? = some u→vs[j]? = some v→D w (fun b _=>b < w.heap.size) u v) (hr:∀ r,R r→r.noRef=true) :
  Calls P f vs w fun e w'=>∃ v r,e=.returned v/\Sat w' β L/\Step w β L w' β L/\V w' β L r v/\R r:=by
 have h4:∀ b i:Nat,b < w.heap.size→Ji w ⟨fun _=>none,fun _ _=>False⟩ [] b i:=fun b i hs=>⟨hs,fun h=>h,fun id o h=>by simp [lk] at h⟩
 refine(hc w ⟨fun _=>none,fun _ _=>False⟩ vs ⟨fun b i h=>h.elim,fun id b h=>by simp [lk] at h,fun id b j h=>by simp [lk] at h,fun id id' b h=>by simp [lk] at h,fun id o h=>by simp [lk] at h⟩ hl
  (fun j u v hu h5=>.data ((hv j u v hu h5).mono fun b i hs=>⟨h4 b i hs,rfl⟩))).mono fun e w' h=>?_
 obtain⟨v,r,J',L',he,h7,h3,h6,rfl,hR⟩:=h
 have far:∀ b,b < w.heap.size→w'.heap[b]? = w.heap[b]? := fun b hb=>(h3.far b hb (fun id h=>by simp [lk] at h)).1
 have stab:∀ b i,Ji w β L b i→Ji w' β L b i:=fun b i hs=>⟨P0 hs.lt h3.size,hs.seen,hs.kept⟩
 have step:Step w β L w' β L:=⟨h3.os,h3.tape,h3.output,h3.size,fun _ _ _=>Iff.rfl,fun b i hs=>⟨stab b i hs,Q1 (w:=w) (far b hs.lt)⟩,fun b hb hf=>⟨far b hb,hf⟩,
  fun _ _ cs h=>⟨rfl,cs,h⟩,fun _ _ cs h=>⟨rfl,cs,h⟩,fun _ _ n cs h=>⟨rfl,n,cs,h⟩,fun id _ _ ver xs h=>⟨ver,xs,h,Pf,fun _=>⟨rfl,rfl,fun b hb=>cN (far b (h0.bnd id b (by rw [h]; rfl) hb))⟩⟩,fun id _ _ ver hw h=>⟨ver,hw,h,Pf,fun _=>⟨rfl,rfl,fun b hb=>far b (h0.bnd id b (by rw [h]; rfl) hb)⟩⟩⟩
 exact⟨v,r,he,⟨fun b i h=>P0 (h0.hid b i h) h3.size,fun id b h1 h2=>P0 (h0.bnd id b h1 h2) h3.size,h0.apart,h0.inj,fun id o h=>(h0.obj id o h).step step (fun b hb=>far b (h0.bnd id b (by rw [h]; rfl) hb))⟩,step,.data (h6.data_of_nil.noRef (hr r hR)),hR⟩

theorem Had {f:FuncId} {xs:List Operand} {args:List AV} {ts:Array TypeId} (ho:o.op=.call { callee:=.value (.func f),args:=xs.toArray,argTypes:=ts }) (hc:Pure P f args (·=u)) (hB:H7 P f=true) (ha:rN l L xs args) (hu:u.noRef=true):H2 P o l L (Is u L):=by
 intro a w β K Q h0 hf hK
 have hr:(execOp a.eval o).run P w=.ok (.enter f (xs.toArray.map a.eval)) w:=by
  simp [execOp,ho,resolve,Act.eval,Deferred.ofValue,invoke,H7.out hB]
 unfold Oper.wp
 rw [hr]
 show Calls P f _ w _
 refine(Hf7 hc h0 (vs:=xs.toArray.map a.eval) (by simp [ha.length]) (fun j u v hu hv=>?_) (fun r hr=>by rw [hr]; exact hu)).mono fun e w' h=>?_
 .simp only [Array.getElem?_map,List.getElem?_toArray,Option.map_eq_some_iff] at hv
  obtain⟨x,hx,rfl⟩:=hv
  exact(ha.get hx hu).D h0 (hf.ev x)
 .obtain⟨v,r,rfl,h1,h2,h3,rfl⟩:=h
  exact hK _ L v w' β ⟨rfl,rfl⟩ h1 h2 h3

def vE (l:Fr) (L0:Loc):List Operand→List AV→Prop
 | [],[]=>True
 | x::r,u::s=>(ev l x=u\/(ev l x).plain=u)/\u.refs (inL L0)=true/\vE l L0 r s
 | _,_=>False
theorem vE.length {l:Fr} {L0:Loc}:∀ {xs:List Operand} {us:List AV},vE l L0 xs us→xs.length=us.length
 | [],[],_=>rfl
 | _::r,_::s,h=>by simp [vE.length h.2.2]
theorem vE.get {l:Fr} {L0:Loc}:∀ {xs:List Operand} {us:List AV},vE l L0 xs us→∀ {j:Nat} {x:Operand} {u:AV},xs[j]? = some x→us[j]? = some u→(ev l x=u\/(ev l x).plain=u)/\u.refs (inL L0)=true
 | [],[],_,j,x,u,h,_=>by simp at h
 | x::r,u::s,h,0,_,_,hx,hu=>by simp at hx hu; subst hx hu; exact⟨h.1,h.2.1⟩
 | x::r,u::s,h,j+1,_,_,hx,hu=>by simp at hx hu; exact vE.get h.2.2 hx hu

def G02 (L:Loc):Loc→Prop
 | []=>True
 | (i,ob)::r=>lk L i=some ob/\G02 L r
theorem G02.get {L:Loc}:∀ {L0:Loc},G02 L L0→∀ {id:Nat} {ob:Jn},lk L0 id=some ob→lk L id=some ob
 | [],_,id,ob,h=>by simp [lk] at h
 | (i,o')::r,hs,id,ob,h=>by
  rw [Gm] at h
  by_cases e:i=id
  .subst e; rw [if_pos rfl] at h; cases h; exact hs.1
  .rw [if_neg e] at h; exact G02.get hs.2 h
def closedIn (ok:Nat→Bool):Loc→Bool
 | []=>true
 | (_,ob)::r=>ob.refs ok&&closedIn ok r
theorem closedIn.get {ok:Nat→Bool}:∀ {L0:Loc},closedIn ok L0=true→∀ {id:Nat} {ob:Jn},lk L0 id=some ob→ob.refs ok=true
 | [],_,id,ob,h=>by simp [lk] at h
 | (i,o')::r,hs,id,ob,h=>by
  simp only [closedIn,Pp] at hs
  rw [Gm] at h
  by_cases e:i=id
  .subst e; rw [if_pos rfl] at h; cases h; exact hs.1
  .rw [if_neg e] at h; exact closedIn.get hs.2 h
def nH (L L0:Loc):Loc→Bool
 | []=>true
 | (i,_)::r=>(inL L0 i||!inL L i)&&nH L L0 r
theorem nH.get {L L0:Loc}:∀ {Lr:Loc},nH L L0 Lr=true→∀ {id:Nat},inL Lr id=true→inL L0 id=true\/lk L id=none
 | [],_,id,h=>by simp [inL,lk] at h
 | (i,_)::r,hs,id,h=>by
  simp only [nH,Pp,Px,Bool.not_eq_true'] at hs
  rw [inL,Gm] at h
  by_cases e:i=id
  .subst e
   exact hs.1.imp id (fun h=>by simpa [inL] using h)
  .rw [if_neg e] at h; exact nH.get hs.2 h

theorem G8f {f:FuncId} {vs:Array Value} {args:List AV} {L0 Lr L'':Loc} {a:Act} {w:World} {β:H4} {K:Act→World→Prop} {Q:Exit→Act→World→Prop} (hc:Rb P f args L0 (fun r L'=>r=u/\L'=Lr)) (h0:Sat w β L)
  (h4:G02 L L0) (h6:closedIn (inL L0) L0=true) (h5:nH L L0 Lr=true) (hL:Lr++qY L L0=L'') (hl:vs.size=args.length)
  (hv:∀ (j:Nat) u v,args[j]? = some u→vs[j]? = some v→V w β L u v/\u.refs (inL L0)=true)
  (hK:∀ u' L' v w' J',Is u L'' u' L'→Sat w' J' L'→Step w β L w' J' L'→V w' J' L' u' v→K (a.put o.dst v) w') :
  Calls P f vs w fun
   | .returned v,w''=>K (a.put o.dst v) w''
   | .panicked chain,w''=>Q (.panic chain) a w''
   | .outgrown,_=>LetsOut Q:=by
 refine(G19 hc h0 (fun id ob h=>h4.get h) (fun id ob h=>closedIn.get h6 h) hl hv (fun r L' hR id h=>by rw [hR.2] at h; exact nH.get h5 h)).mono fun e w' h=>?_
 obtain⟨v,r,J',L',rfl,⟨rfl,rfl⟩,h1,h2,h3⟩:=h
 unfold mT at h1 h2 h3
 rw [hL] at h1 h2 h3
 exact hK _ _ v w' _ ⟨rfl,rfl⟩ h1 h2 h3

theorem YX {f:FuncId} {xs:List Operand} {args:List AV} {ts:Array TypeId} {L0 Lr L'':Loc} (ho:o.op=.call { callee:=.value (.func f),args:=xs.toArray,argTypes:=ts }) (hc:Rb P f args L0 (fun r L'=>r=u/\L'=Lr)) (hB:H7 P f=true) (ha:vE l L0 xs args)
  (h0:G02 L L0) (h5:closedIn (inL L0) L0=true) (h3:nH L L0 Lr=true) (hL:Lr++qY L L0=L''):H2 P o l L (Is u L''):=by
 intro a w β K Q h4 hf hK
 have hr:(execOp a.eval o).run P w=.ok (.enter f (xs.toArray.map a.eval)) w:=by
  simp [execOp,ho,resolve,Act.eval,Deferred.ofValue,invoke,H7.out hB]
 unfold Oper.wp
 rw [hr]
 refine G8f hc h4 h0 h5 h3 hL (by simp [ha.length]) (fun j u v hu hv=>?_) hK
 simp only [Array.getElem?_map,List.getElem?_toArray,Option.map_eq_some_iff] at hv
 obtain⟨x,hx,rfl⟩:=hv
 obtain⟨h1,h2⟩:=ha.get hx hu
 refine⟨?_,h2⟩
 rcases h1 with h1 | h1
 .rw [← h1]; exact hf.ev x
 .rw [← h1]; exact(hf.ev x).plain

theorem HJ {f:FuncId} {x:Operand} {xs:List Operand} {args caps:List AV} {ts:Array TypeId} {L0 Lr L'':Loc} (ho:o.op=.call { callee:=.value x,args:=xs.toArray,argTypes:=ts }) (hx:ev l x=.fn f caps) (hc:Rb P f (args++caps) L0 (fun r L'=>r=u/\L'=Lr)) (hB:H7 P f=true) (ha:vE l L0 xs args)
  (h7:Ys (inL L0) caps=true) (h3:G02 L L0) (h8:closedIn (inL L0) L0=true) (h4:nH L L0 Lr=true) (hL:Lr++qY L L0=L''):H2 P o l L (Is u L''):=by
 intro a w β K Q h5 hf hK
 have h0:=hf.ev x
 rw [hx] at h0
 obtain⟨cs,he,h6,h9⟩:=h0.inv_fn
 have hr:(execOp a.eval o).run P w=.ok (.enter f (xs.toArray.map a.eval++cs)) w:=by
  simp [execOp,ho,resolve,he,Deferred.ofValue,invoke,H7.out hB]
 unfold Oper.wp
 rw [hr]
 refine G8f hc h5 h3 h8 h4 hL (by simp [ha.length,h6]) (fun j u v hu hv=>?_) hK
 rcases P4 j args.length with hj | hj
 .rw [Ph hj] at hu
  rw [Array.getElem?_append_left (by simp [ha.length]; exact hj)] at hv
  simp only [Array.getElem?_map,List.getElem?_toArray,Option.map_eq_some_iff] at hv
  obtain⟨y,hy,rfl⟩:=hv
  obtain⟨h1,h2⟩:=ha.get hy hu
  refine⟨?_,h2⟩
  rcases h1 with h1 | h1
  .rw [← h1]; exact hf.ev y
  .rw [← h1]; exact(hf.ev y).plain
 .rw [Pg hj] at hu
  rw [Array.getElem?_append_right (by simp [ha.length]; exact hj)] at hv
  simp only [Array.size_map,List.size_toArray,ha.length] at hv
  exact⟨h9 _ u v hu hv,bO h7 u (Pd hu)⟩
end calls
end Go.Proofs.YthkihfoleenlmaaGreat
