/- Slices of the call's own: -/
import Derived.Test.YtkiekighbhnolaaGreatVec
namespace Go.Proofs.YtkiekighbhnolaaGreat
open Go.RowKit

section freeze
variable {P:Program} {N:Cfg} {Q:Post} {l l':Fr} {L L':Loc}

variable {xs:AD} {k t ver:Nat}
theorem V.vfreeze {w:World} {β:H4} {i n:Nat} {v:Value} (h0:Sat w β L) (hi:lk L i=some (.vec t k ver xs)) (h6:yT L L') (h8:lk L' i=none) (h:V w β L (.vec i ver k n) v):V w β L' (.list k xs) v:=by
 obtain⟨rfl,hk,h⟩:=lI h0 hi h;rcases h with ⟨rfl,rfl,_⟩ | ⟨b,cap,vs,rfl,hb,h1,h2,h3,h4,h5⟩
 .exact .data (.nil (Nat.zero_le _))
 .have h7:∀ j,j < (flat xs).length->j < vs.size:=fun j hj=>by
   rw [Jm hk] at hj;have:=Nat.mul_le_mul_right k h1;omega
  refine .data (.list (fun j=>vs.getD j undef) h1 h2 hk (fun j hj=>⟨⟨(Pi h3).1,h0.apart i b _ (by rw [hi]; rfl) hb,fun id o ho h9=>?_⟩,?_⟩) (fun j u hu=>?_))
  .obtain⟨o0,a0,_⟩:=h6.like id o ho;have:=h0.inj i id b (by rw [hi]; rfl) (by rw [a0]; rfl) hb h9;subst this;rw [h8] at ho; cases ho
  .have:=h7 j hj;simp [World.cell?,h3,this]
  .have hj:=(Pu hu).1;have:=h7 j hj;refine(h5 j u _ hu ?_).mono fun b i hs=>⟨h6.BH hs,rfl⟩;simp [this]

inductive Qbe (i ver k:Nat) (xs:AD) (ok:Nat->Bool):AV->AV->Prop
 | conv {u u':AV} (h:Conv ok u u'):Qbe i ver k xs ok u u'
 | vec {n:Nat}:Qbe i ver k xs ok (.vec i ver k n) (.list k xs)
def RX (i ver k:Nat) (xs:AD) (ok:Nat->Bool) (l:Fr):Fr->Prop
 | []=>True
 | (t,u)::r=>Qbe i ver k xs ok (look l t) u/\RX i ver k xs ok l r
theorem RX.get {i ver k:Nat} {xs:AD} {ok:Nat->Bool} {l:Fr}:∀ {l':Fr},RX i ver k xs ok l l'->∀ t,Qbe i ver k xs ok (look l t) (look l' t)
 | [],_,t=>.conv .AJ
 | (s,u)::r,h,t=>by
  simp only [look];cases hb:Nat.beq s t with
  | true=>have:=Pm hb; subst this; exact h.1
  | false=>exact RX.get h.2 t

theorem Yh.vfreeze {w0 w:World} {β0 β:H4} {L0:Loc} {a:Act} (hs:Yh N w0 β0 L0 a w β l L) (i:Nat) (hi:lk L i=some (.vec t k ver xs))
  (h2:lk L' i=none) (hl:eP (fun j=>(lk L' j).isSome) L L') (hb:allIn L' N.base=true) (hf:RX i ver k xs (fun j=>(lk L' j).isSome) l l'):Yh N w0 β0 L0 a w β l' L':=by
 have h0:Fits N.base l L [] L':=⟨trivial,hl,hb⟩;have h1:=hs.fits h0;refine⟨h1.sat,h1.step,⟨fun t'=>?_⟩,h1.size,h1.base,h1.defers⟩;have hv:=hs.frame.tmp t';generalize hu:look l t'=u at hv;have hz:=hf.get t';rw [hu] at hz;generalize look l' t'=u' at hz;cases hz with
 | conv hc=>exact hv.conv h0.drop hc
 | vec=>exact hv.vfreeze hs.sat hi h0.drop h2
theorem pV {c:Code} (l':Fr) (L':Loc) (i:Nat) (hi:lk L i=some (.vec t k ver xs)) (h0:lk L' i=none) (hl:eP (fun j=>(lk L' j).isSome) L L') (hb:allIn L' N.base=true)
  (hf:RX i ver k xs (fun j=>(lk L' j).isSome) l l') (hk:JC P N c Q l' L'):JC P N c Q l L:=fun n w0 β0 L0 a w β hs=>hk n w0 β0 L0 a w β (hs.vfreeze i hi h0 hl hb hf)
theorem H08 {ops:Array Oper} {rest:List Oper} (l':Fr) (L':Loc) (i:Nat) (hi:lk L i=some (.vec t k ver xs)) (h0:lk L' i=none) (hl:eP (fun j=>(lk L' j).isSome) L L') (hb:allIn L' N.base=true)
  (hf:RX i ver k xs (fun j=>(lk L' j).isSome) l l') (hk:JL P N ops rest Q l' L'):JL P N ops rest Q l L:=fun n w0 β0 L0 a w β hs=>hk n w0 β0 L0 a w β (hs.vfreeze i hi h0 hl hb hf)
end freeze

def AV.BR:AV->Bool
 | .AJ=>true
 | .sc _=>true
 | .agg cs=>noRefL cs
 | .tup cs=>noRefL cs
 | .list _ []=>true
 | _=>false
where noRefL:AD->Bool
 | []=>true
 | x::r=>x.BR&&noRefL r
theorem YW:∀ {cs:AD},AV.BR.noRefL cs=true->∀ u∈cs,u.BR=true
 | [],_,u,hu=>by cases hu
 | x::r,h,u,hu=>by
  simp only [AV.BR.noRefL,S8] at h;rcases Se.1 hu with rfl | hu
  .exact h.1
  .exact YW h.2 u hu
theorem D.BR {w w':World} {S S':Nat->Nat->Prop} {u:AV} {v:Value} (h:D w S u v):u.BR=true->D w' S' u v:=by
 induction h with
 | AJ=>exact fun _=>.AJ
 | sc=>exact fun _=>.sc
 | agg hl _ ih=>exact fun hr=>.agg hl fun j u v hu hv=>ih j u v hu hv (YW (by simpa [AV.BR] using hr) u (Px hu))
 | tup hl _ ih=>exact fun hr=>.tup hl fun j u v hu hv=>ih j u v hu hv (YW (by simpa [AV.BR] using hr) u (Px hu))
 | nil h=>exact fun _=>.nil h
 | @list k b off cap xs vals h0 hm _ _ _ _=>
  intro hr;cases xs with
  | nil=>exact .nil hm
  | cons x r=>simp [AV.BR] at hr
 | lnil=>exact fun hr=>by simp [AV.BR] at hr
 | lst=>exact fun hr=>by simp [AV.BR] at hr
 | AA=>exact fun hr=>by simp [AV.BR] at hr
 | fn=>exact fun hr=>by simp [AV.BR] at hr
 | bfn=>exact fun hr=>by simp [AV.BR] at hr
 | opt=>exact fun hr=>by simp [AV.BR] at hr
 | dmap=>exact fun hr=>by simp [AV.BR] at hr
 | bag=>exact fun hr=>by simp [AV.BR] at hr
 | blk=>exact fun hr=>by simp [AV.BR] at hr
 | frz=>exact fun hr=>by simp [AV.BR] at hr

section AF
variable {P:Program} {o:Oper} {l:Fr} {L:Loc} {u:AV}

inductive mK (L:Loc):AV->AV->Prop
 | data {u u':AV} (h:u.plain=u') (hd:u'.BF=true):mK L u u'
 | vec {i ver k n t:Nat} {xs:AD} (hi:lk L i=some (.vec t k ver xs)):mK L (.vec i ver k n) (.list k xs)
 | agg {cs ds:AD} (hl:ds.length=cs.length) (h:∀ (j:Nat) u u',cs[j]? = some u->ds[j]? = some u'->mK L u u'):mK L (.agg cs) (.agg ds)
def wM (L:Loc):AD->AD->Prop
 | [],[]=>True
 | u::r,u'::s=>mK L u u'/\wM L r s
 | _,_=>False
def wP (l:Fr) (L:Loc):List Operand->AD->Prop
 | [],[]=>True
 | x::r,u::s=>mK L (ev l x) u/\wP l L r s
 | _,_=>False
theorem wP.length {l:Fr} {L:Loc}:∀ {xs:List Operand} {us:AD},wP l L xs us->xs.length=us.length
 | [],[],_=>rfl
 | _::r,_::s,h=>by simp [wP.length h.2]
theorem wP.get {l:Fr} {L:Loc}:∀ {xs:List Operand} {us:AD},wP l L xs us->∀ {j:Nat} {x:Operand} {u:AV},xs[j]? = some x->us[j]? = some u->mK L (ev l x) u
 | [],[],_,j,x,u,h,_=>by simp at h
 | x::r,u::s,h,0,_,_,hx,hu=>by simp at hx hu; subst hx hu; exact h.1
 | x::r,u::s,h,j+1,_,_,hx,hu=>by simp at hx hu; exact wP.get h.2 hx hu

variable {β:H4} {w:World}
theorem mK.D {u u':AV} (h0:Sat w β L) (h:mK L u u'):∀ {v:Value},V w β L u v->D w (fun b _=>b < w.heap.size) u' v:=by
 induction h with
 | agg hl _ ih=>
  intro v hv;obtain⟨vs,rfl,h2,h3⟩:=hv.inv_agg;refine .agg (h2.trans hl.symm) fun j u' x h1 hx=>?_;have hj:j < _:=(Pu h1).1;exact ih j _ u' (Pv (hl ▸ hj)) h1 (h3 j _ x (Pv (hl ▸ hj)) hx)
 | data h hd=>
  intro v hv;subst h;exact(hv.plain.toD hd).mono fun b i hs=>⟨hs.lt,rfl⟩
 | @vec i ver k n t xs hi=>
  intro v hv;have hd:yT L (L.filter fun p=>!Nat.beq p.1 i):=by
   refine⟨fun id o' h=>?_⟩;have:lk L id=some o':=by
    clear h0 hi hv
    induction L with
    | nil=>simp [lk] at h
    | cons p r ih=>
     obtain⟨q,ob⟩:=p;rw [List.filter_cons] at h;by_cases e:(!Nat.beq (q,ob).1 i)=true
     .rw [if_pos e,Gp] at h;rw [Gp];by_cases e2:q=id
      .rw [if_pos e2] at h ⊢; exact h
      .rw [if_neg e2] at h ⊢; exact ih h
     .rw [if_neg e] at h;rw [Gp];by_cases e2:q=id
      .exfalso;subst e2;have h4:q=i:=by
        cases hb:Nat.beq q i with
        | true=>exact Pm hb
        | false=>exact absurd (by simp [hb]) e
       subst h4;have h5:∀ r:Loc,lk (r.filter fun p=>!Nat.beq p.1 q) q=none:=by
        intro r
        induction r with
        | nil=>rfl
        | cons p r ih2=>
         rw [List.filter_cons];by_cases e3:(!Nat.beq p.1 q)=true
         .rw [if_pos e3,Gp,if_neg (fun e4=>by rw [e4] at e3; simp at e3)]; exact ih2
         .rw [if_neg e3]; exact ih2
       rw [h5] at h; cases h
      .rw [if_neg e2]; exact ih h
   exact⟨o',this,by cases o' <;> simp [Q3.like]⟩
  have hn:lk (L.filter fun p=>!Nat.beq p.1 i) i=none:=by
   clear h0 hi hv hd
   induction L with
   | nil=>rfl
   | cons p r ih2=>
    rw [List.filter_cons];by_cases e3:(!Nat.beq p.1 i)=true
    .rw [if_pos e3,Gp,if_neg (fun e4=>by rw [e4] at e3; simp at e3)]; exact ih2
    .rw [if_neg e3]; exact ih2
  exact((hv.vfreeze h0 hi hd hn).inv_list).mono fun b i hs=>⟨hs.lt,rfl⟩

variable {f:FuncId} {args:AD}
theorem Q12 {P:Program} {R:AV->Prop} (hc:Pure P f args R) (h0:Sat w β L) {vs:Array Value} (hl:vs.size=args.length)
  (hv:∀ (j:Nat) u v,args[j]? = some u->vs[j]? = some v->D w (fun b _=>b < w.heap.size) u v) (hr:∀ r,R r->r.BR=true) :
  Calls P f vs w fun e w'=>∃ v r,e=.returned v/\Sat w' β L/\Step w β L w' β L/\V w' β L r v/\R r:=by
 have h4:∀ b i:Nat,b < w.heap.size->Ju w ⟨fun _=>none,fun _ _=>False⟩ [] b i:=fun b i hs=>⟨hs,fun h=>h,fun id o h=>by simp [lk] at h⟩;refine(hc w ⟨fun _=>none,fun _ _=>False⟩ vs ⟨fun b i h=>h.elim,fun id b h=>by simp [lk] at h,fun id b j h=>by simp [lk] at h,fun id id' b h=>by simp [lk] at h,fun id o h=>by simp [lk] at h⟩ hl
  (fun j u v hu h5=>.data ((hv j u v hu h5).mono fun b i hs=>⟨h4 b i hs,rfl⟩))).mono fun e w' h=>?_
 obtain⟨v,r,J',L',he,h7,h3,h6,rfl,hR⟩:=h;have far:∀ b,b < w.heap.size->w'.heap[b]? = w.heap[b]? := fun b hb=>(h3.far b hb (fun id h=>by simp [lk] at h)).1;have BH:∀ b i,Ju w β L b i->Ju w' β L b i:=fun b i hs=>⟨Pj hs.lt h3.size,hs.seen,hs.kept⟩;have step:Step w β L w' β L:=⟨h3.os,h3.tape,h3.output,h3.size,fun _ _ _=>Iff.rfl,fun b i hs=>⟨BH b i hs,Qa (w:=w) (far b hs.lt)⟩,fun b hb hf=>⟨far b hb,hf⟩,
  fun _ _ cs h=>⟨rfl,cs,h⟩,fun _ _ cs h=>⟨rfl,cs,h⟩,fun _ _ n cs h=>⟨rfl,n,cs,h⟩,fun id _ _ ver xs h=>⟨ver,xs,h,Pz,fun _=>⟨rfl,rfl,fun b hb=>eC (far b (h0.bnd id b (by rw [h]; rfl) hb))⟩⟩,fun id _ _ ver hw h=>⟨ver,hw,h,Pz,fun _=>⟨rfl,rfl,fun b hb=>far b (h0.bnd id b (by rw [h]; rfl) hb)⟩⟩⟩
 exact⟨v,r,he,⟨fun b i h=>Pj (h0.hid b i h) h3.size,fun id b h1 h2=>Pj (h0.bnd id b h1 h2) h3.size,h0.apart,h0.inj,fun id o h=>(h0.obj id o h).step step (fun b hb=>far b (h0.bnd id b (by rw [h]; rfl) hb))⟩,step,.data (h6.data_of_nil.BR (hr r hR)),hR⟩

variable {ts:Array TypeId} {xs:List Operand}
theorem Jc7 (ho:o.op=.call { callee:=.value (.func f),args:=xs.toArray,argTypes:=ts }) (hc:Pure P f args (·=u)) (hB:Gz P f=true) (ha:wP l L xs args) (hu:u.BR=true):H1 P o l L (Is u L):=by
 intro a w β K Q h0 hf hK;have hr:(execOp a.eval o).run P w=.ok (.enter f (xs.toArray.map a.eval)) w:=by
  simp [execOp,ho,resolve,Act.eval,Deferred.ofValue,invoke,Gz.out hB]
 unfold Oper.wp;rw [hr];show Calls P f _ w _
 refine(Q12 hc h0 (vs:=xs.toArray.map a.eval) (by simp [ha.length]) (fun j u v hu hv=>?_) (fun r hr=>by rw [hr]; exact hu)).mono fun e w' h=>?_
 .simp only [Array.getElem?_map,List.getElem?_toArray,Option.map_eq_some_iff] at hv;obtain⟨x,hx,rfl⟩:=hv;exact(ha.get hx hu).D h0 (hf.ev x)
 .obtain⟨v,r,rfl,h1,h2,h3,rfl⟩:=h;exact hK _ L v w' β ⟨rfl,rfl⟩ h1 h2 h3

def QI (l:Fr) (L0:Loc):List Operand->AD->Prop
 | [],[]=>True
 | x::r,u::s=>(ev l x=u\/(ev l x).plain=u)/\u.refs (inL L0)=true/\QI l L0 r s
 | _,_=>False
theorem QI.length {l:Fr} {L0:Loc}:∀ {xs:List Operand} {us:AD},QI l L0 xs us->xs.length=us.length
 | [],[],_=>rfl
 | _::r,_::s,h=>by simp [QI.length h.2.2]
theorem QI.get {l:Fr} {L0:Loc}:∀ {xs:List Operand} {us:AD},QI l L0 xs us->∀ {j:Nat} {x:Operand} {u:AV},xs[j]? = some x->us[j]? = some u->(ev l x=u\/(ev l x).plain=u)/\u.refs (inL L0)=true
 | [],[],_,j,x,u,h,_=>by simp at h
 | x::r,u::s,h,0,_,_,hx,hu=>by simp at hx hu; subst hx hu; exact⟨h.1,h.2.1⟩
 | x::r,u::s,h,j+1,_,_,hx,hu=>by simp at hx hu; exact QI.get h.2.2 hx hu

def H24 (L:Loc):Loc->Prop
 | []=>True
 | (i,ob)::r=>lk L i=some ob/\H24 L r
theorem H24.get {L:Loc}:∀ {L0:Loc},H24 L L0->∀ {id:Nat} {ob:Q3},lk L0 id=some ob->lk L id=some ob
 | [],_,id,ob,h=>by simp [lk] at h
 | (i,o')::r,hs,id,ob,h=>by
  rw [Gp] at h;by_cases e:i=id
  .subst e; rw [if_pos rfl] at h; cases h; exact hs.1
  .rw [if_neg e] at h; exact H24.get hs.2 h
def closedIn (ok:Nat->Bool):Loc->Bool
 | []=>true
 | (_,ob)::r=>ob.refs ok&&closedIn ok r
theorem closedIn.get {ok:Nat->Bool}:∀ {L0:Loc},closedIn ok L0=true->∀ {id:Nat} {ob:Q3},lk L0 id=some ob->ob.refs ok=true
 | [],_,id,ob,h=>by simp [lk] at h
 | (i,o')::r,hs,id,ob,h=>by
  simp only [closedIn,S8] at hs;rw [Gp] at h;by_cases e:i=id
  .subst e; rw [if_pos rfl] at h; cases h; exact hs.1
  .rw [if_neg e] at h; exact closedIn.get hs.2 h
def tQ (L L0:Loc):Loc->Bool
 | []=>true
 | (i,_)::r=>(inL L0 i||!inL L i)&&tQ L L0 r
theorem tQ.get {L L0:Loc}:∀ {Lr:Loc},tQ L L0 Lr=true->∀ {id:Nat},inL Lr id=true->inL L0 id=true\/lk L id=none
 | [],_,id,h=>by simp [inL,lk] at h
 | (i,_)::r,hs,id,h=>by
  simp only [tQ,S8,Sg,Bool.not_eq_true'] at hs;rw [inL,Gp] at h;by_cases e:i=id
  .subst e;exact hs.1.imp id (fun h=>by simpa [inL] using h)
  .rw [if_neg e] at h; exact tQ.get hs.2 h

variable {L'' L0 Lr:Loc}
theorem H61 {vs:Array Value} {a:Act} {K:Act->World->Prop} {Q:Exit->Act->World->Prop} (hc:Qn P f args L0 (fun r L'=>r=u/\L'=Lr)) (h0:Sat w β L)
  (h4:H24 L L0) (h6:closedIn (inL L0) L0=true) (h5:tQ L L0 Lr=true) (hL:Lr++xR L L0=L'') (hl:vs.size=args.length)
  (hv:∀ (j:Nat) u v,args[j]? = some u->vs[j]? = some v->V w β L u v/\u.refs (inL L0)=true)
  (hK:∀ u' L' v w' J',Is u L'' u' L'->Sat w' J' L'->Step w β L w' J' L'->V w' J' L' u' v->K (a.put o.dst v) w') :
  Calls P f vs w fun
   | .returned v,w''=>K (a.put o.dst v) w''
   | .panicked chain,w''=>Q (.panic chain) a w''
   | .outgrown,_=>LetsOut Q:=by
 refine(Ge3 hc h0 (fun id ob h=>h4.get h) (fun id ob h=>closedIn.get h6 h) hl hv (fun r L' hR id h=>by rw [hR.2] at h; exact tQ.get h5 h)).mono fun e w' h=>?_;obtain⟨v,r,J',L',rfl,⟨rfl,rfl⟩,h1,h2,h3⟩:=h;unfold rJ at h1 h2 h3;rw [hL] at h1 h2 h3;exact hK _ _ v w' _ ⟨rfl,rfl⟩ h1 h2 h3

theorem qK (ho:o.op=.call { callee:=.value (.func f),args:=xs.toArray,argTypes:=ts }) (hc:Qn P f args L0 (fun r L'=>r=u/\L'=Lr)) (hB:Gz P f=true) (ha:QI l L0 xs args)
  (h0:H24 L L0) (h5:closedIn (inL L0) L0=true) (h3:tQ L L0 Lr=true) (hL:Lr++xR L L0=L''):H1 P o l L (Is u L''):=by
 intro a w β K Q h4 hf hK;have hr:(execOp a.eval o).run P w=.ok (.enter f (xs.toArray.map a.eval)) w:=by
  simp [execOp,ho,resolve,Act.eval,Deferred.ofValue,invoke,Gz.out hB]
 unfold Oper.wp;rw [hr];refine H61 hc h4 h0 h5 h3 hL (by simp [ha.length]) (fun j u v hu hv=>?_) hK;simp only [Array.getElem?_map,List.getElem?_toArray,Option.map_eq_some_iff] at hv;obtain⟨x,hx,rfl⟩:=hv;obtain⟨h1,h2⟩:=ha.get hx hu;refine⟨?_,h2⟩;rcases h1 with h1 | h1
 .rw [<- h1]; exact hf.ev x
 .rw [<- h1]; exact(hf.ev x).plain

theorem oY {x:Operand} {BM:AD} (ho:o.op=.call { callee:=.value x,args:=xs.toArray,argTypes:=ts }) (hx:ev l x=.fn f BM) (hc:Qn P f (args++BM) L0 (fun r L'=>r=u/\L'=Lr)) (hB:Gz P f=true) (ha:QI l L0 xs args)
  (h7:Y6 (inL L0) BM=true) (h3:H24 L L0) (h8:closedIn (inL L0) L0=true) (h4:tQ L L0 Lr=true) (hL:Lr++xR L L0=L''):H1 P o l L (Is u L''):=by
 intro a w β K Q h5 hf hK;have h0:=hf.ev x;rw [hx] at h0;obtain⟨cs,he,h6,h9⟩:=h0.inv_fn;have hr:(execOp a.eval o).run P w=.ok (.enter f (xs.toArray.map a.eval++cs)) w:=by
  simp [execOp,ho,resolve,he,Deferred.ofValue,invoke,Gz.out hB]
 unfold Oper.wp;rw [hr];refine H61 hc h5 h3 h8 h4 hL (by simp [ha.length,h6]) (fun j u v hu hv=>?_) hK;rcases Po j args.length with hj | hj
 .rw [S1 hj] at hu;rw [Array.getElem?_append_left (by simp [ha.length]; exact hj)] at hv;simp only [Array.getElem?_map,List.getElem?_toArray,Option.map_eq_some_iff] at hv;obtain⟨y,hy,rfl⟩:=hv;obtain⟨h1,h2⟩:=ha.get hy hu;refine⟨?_,h2⟩;rcases h1 with h1 | h1
  .rw [<- h1]; exact hf.ev y
  .rw [<- h1]; exact(hf.ev y).plain
 .rw [S0 hj] at hu;rw [Array.getElem?_append_right (by simp [ha.length]; exact hj)] at hv;simp only [Array.size_map,List.size_toArray,ha.length] at hv;exact⟨h9 _ u v hu hv,cQ h7 u (Px hu)⟩
end AF
end Go.Proofs.YtkiekighbhnolaaGreat
