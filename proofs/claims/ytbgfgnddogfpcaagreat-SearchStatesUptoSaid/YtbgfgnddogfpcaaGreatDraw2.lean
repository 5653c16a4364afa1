/-
 Slices of the call's own: Slices of typed elements that the call may write in place. Maps of typed keys and elements: A statement whose order is open,in which more than one opera
-/
import Derived.Test.YtbgfgnddogfpcaaGreatVec
namespace Go.Proofs.YtbgfgnddogfpcaaGreat
open Go.RowKit

section freeze
variable {P:Program} {N:Cfg} {Q:Post} {l l':Fr} {L L':Loc}

variable {xs:AD} {k t ver:Nat}
theorem V.vfreeze {w:World} {U:Gx} {i n:Nat} {v:Value} (h0:Sat w U L) (hi:lk L i=some (.vec t k ver xs)) (h6:tV L L') (h8:lk L' i=none) (h:V w U L (.vec i ver k n) v):V w U L' (.list k xs) v:=by
 obtain⟨rfl,hk,h⟩:=cX h0 hi h;rcases h with ⟨rfl,rfl,_⟩ | ⟨b,cap,vs,rfl,hb,h1,h2,h3,h4,h5⟩
 .exact .data (.nil (Nat.zero_le _))
 .have h7:∀ j,j < (flat xs).length->j < vs.size:=fun j hj=>by
   rw [J2 hk] at hj;have:=Nat.mul_le_mul_right k h1;omega
  refine .data (.list (fun j=>vs.getD j undef) h1 h2 hk (fun j hj=>⟨⟨(Nz h3).1,h0.apart i b _ (by rw [hi]; rfl) hb,fun id o ho h9=>?_⟩,?_⟩) (fun j u hu=>?_))
  .obtain⟨o0,a0,_⟩:=h6.like id o ho;have:=h0.inj i id b (by rw [hi]; rfl) (by rw [a0]; rfl) hb h9;subst this;rw [h8] at ho; cases ho
  .have:=h7 j hj;simp [World.cell?,h3,this]
  .have hj:=(Pa hu).1;have:=h7 j hj;refine(h5 j u _ hu ?_).mono fun b i hs=>⟨h6.AX hs,rfl⟩;simp [this]

inductive Q44 (i ver k:Nat) (xs:AD) (ok:Nat->Bool):AV->AV->Prop
 | conv {u u':AV} (h:Conv ok u u'):Q44 i ver k xs ok u u'
 | vec {n:Nat}:Q44 i ver k xs ok (.vec i ver k n) (.list k xs)
def zU (i ver k:Nat) (xs:AD) (ok:Nat->Bool) (l:Fr):Fr->Prop
 | []=>True
 | (t,u)::r=>Q44 i ver k xs ok (look l t) u/\zU i ver k xs ok l r
theorem zU.get {i ver k:Nat} {xs:AD} {ok:Nat->Bool} {l:Fr}:∀ {l':Fr},zU i ver k xs ok l l'->∀ t,Q44 i ver k xs ok (look l t) (look l' t)
 | [],_,t=>.conv .AL
 | (s,u)::r,h,t=>by
  simp only [look];cases hb:Nat.beq s t with
  | true=>have:=P2 hb; subst this; exact h.1
  | false=>exact zU.get h.2 t

theorem Qn.vfreeze {w0 w:World} {U0 U:Gx} {L0:Loc} {a:Act} (hs:Qn N w0 U0 L0 a w U l L) (i:Nat) (hi:lk L i=some (.vec t k ver xs))
  (h2:lk L' i=none) (hl:aX (fun j=>(lk L' j).isSome) L L') (hb:allIn L' N.base=true) (hf:zU i ver k xs (fun j=>(lk L' j).isSome) l l'):Qn N w0 U0 L0 a w U l' L':=by
 have h0:Fits N.base l L [] L':=⟨trivial,hl,hb⟩;have h1:=hs.fits h0;refine⟨h1.sat,h1.step,⟨fun t'=>?_⟩,h1.size,h1.base,h1.defers⟩;have hv:=hs.frame.tmp t';generalize hu:look l t'=u at hv;have hz:=hf.get t';rw [hu] at hz;generalize look l' t'=u' at hz;cases hz with
 | conv hc=>exact hv.conv h0.drop hc
 | vec=>exact hv.vfreeze hs.sat hi h0.drop h2
theorem G82 {c:Code} (l':Fr) (L':Loc) (i:Nat) (hi:lk L i=some (.vec t k ver xs)) (h0:lk L' i=none) (hl:aX (fun j=>(lk L' j).isSome) L L') (hb:allIn L' N.base=true)
  (hf:zU i ver k xs (fun j=>(lk L' j).isSome) l l') (hk:JC P N c Q l' L'):JC P N c Q l L:=fun n w0 U0 L0 a w U hs=>hk n w0 U0 L0 a w U (hs.vfreeze i hi h0 hl hb hf)
end freeze

def AV.BQ:AV->Bool
 | .AL=>true
 | .sc _=>true
 | .agg cs=>noRefL cs
 | .tup cs=>noRefL cs
 | .list _ []=>true
 | _=>false
where noRefL:AD->Bool
 | []=>true
 | x::r=>x.BQ&&noRefL r
theorem qB:∀ {cs:AD},AV.BQ.noRefL cs=true->∀ u∈cs,u.BQ=true
 | [],_,u,hu=>by cases hu
 | x::r,h,u,hu=>by
  simp only [AV.BQ.noRefL,Pp] at h;rcases Pv.1 hu with rfl | hu
  .exact h.1
  .exact qB h.2 u hu
variable {u:AV} {w:World}
theorem D.BQ {w':World} {S S':Nat->Nat->Prop} {v:Value} (h:D w S u v):u.BQ=true->D w' S' u v:=by
 induction h with
 | AL=>exact fun _=>.AL
 | sc=>exact fun _=>.sc
 | agg hl _ ih=>exact fun hr=>.agg hl fun j u v hu hv=>ih j u v hu hv (qB (by simpa [AV.BQ] using hr) u (Pd hu))
 | tup hl _ ih=>exact fun hr=>.tup hl fun j u v hu hv=>ih j u v hu hv (qB (by simpa [AV.BQ] using hr) u (Pd hu))
 | nil h=>exact fun _=>.nil h
 | @list k b off cap xs vals h0 hm _ _ _ _=>
  intro hr;cases xs with
  | nil=>exact .nil hm
  | cons x r=>simp [AV.BQ] at hr
 | lnil=>exact fun hr=>by simp [AV.BQ] at hr
 | lst=>exact fun hr=>by simp [AV.BQ] at hr
 | GY=>exact fun hr=>by simp [AV.BQ] at hr
 | fn=>exact fun hr=>by simp [AV.BQ] at hr
 | bfn=>exact fun hr=>by simp [AV.BQ] at hr
 | opt=>exact fun hr=>by simp [AV.BQ] at hr
 | dmap=>exact fun hr=>by simp [AV.BQ] at hr
 | bag=>exact fun hr=>by simp [AV.BQ] at hr
 | blk=>exact fun hr=>by simp [AV.BQ] at hr
 | frz=>exact fun hr=>by simp [AV.BQ] at hr

section AA
variable {P:Program} {o:Oper} {l:Fr} {L:Loc} {u:AV}

inductive kH (L:Loc):AV->AV->Prop
 | data {u u':AV} (h:u.plain=u') (hd:u'.BF=true):kH L u u'
 | vec {i ver k n t:Nat} {xs:AD} (hi:lk L i=some (.vec t k ver xs)):kH L (.vec i ver k n) (.list k xs)
 | agg {cs ds:AD} (hl:ds.length=cs.length) (h:∀ (j:Nat) u u',cs[j]? = some u->ds[j]? = some u'->kH L u u'):kH L (.agg cs) (.agg ds)
def sR (L:Loc):AD->AD->Prop
 | [],[]=>True
 | u::r,u'::s=>kH L u u'/\sR L r s
 | _,_=>False
def sU (l:Fr) (L:Loc):List Operand->AD->Prop
 | [],[]=>True
 | x::r,u::s=>kH L (ev l x) u/\sU l L r s
 | _,_=>False
theorem sU.length {l:Fr} {L:Loc}:∀ {xs:List Operand} {us:AD},sU l L xs us->xs.length=us.length
 | [],[],_=>rfl
 | _::r,_::s,h=>by simp [sU.length h.2]
theorem sU.get {l:Fr} {L:Loc}:∀ {xs:List Operand} {us:AD},sU l L xs us->∀ {j:Nat} {x:Operand} {u:AV},xs[j]? = some x->us[j]? = some u->kH L (ev l x) u
 | [],[],_,j,x,u,h,_=>by simp at h
 | x::r,u::s,h,0,_,_,hx,hu=>by simp at hx hu; subst hx hu; exact h.1
 | x::r,u::s,h,j+1,_,_,hx,hu=>by simp at hx hu; exact sU.get h.2 hx hu

variable {U:Gx} {w:World}
theorem kH.D {u u':AV} (h0:Sat w U L) (h:kH L u u'):∀ {v:Value},V w U L u v->D w (fun b _=>b < w.heap.size) u' v:=by
 induction h with
 | agg hl _ ih=>
  intro v hv;obtain⟨vs,rfl,h2,h3⟩:=hv.inv_agg;refine .agg (h2.trans hl.symm) fun j u' x h1 hx=>?_;have hj:j < _:=(Pa h1).1;exact ih j _ u' (Pb (hl ▸ hj)) h1 (h3 j _ x (Pb (hl ▸ hj)) hx)
 | data h hd=>
  intro v hv;subst h;exact(hv.plain.toD hd).mono fun b i hs=>⟨hs.lt,rfl⟩
 | @vec i ver k n t xs hi=>
  intro v hv;have hd:tV L (L.filter fun p=>!Nat.beq p.1 i):=by
   refine⟨fun id o' h=>?_⟩;have:lk L id=some o':=by
    clear h0 hi hv
    induction L with
    | nil=>simp [lk] at h
    | cons p r ih=>
     obtain⟨q,ob⟩:=p;rw [List.filter_cons] at h;by_cases e:(!Nat.beq (q,ob).1 i)=true
     .rw [if_pos e,Ge] at h;rw [Ge];by_cases e2:q=id
      .rw [if_pos e2] at h ⊢; exact h
      .rw [if_neg e2] at h ⊢; exact ih h
     .rw [if_neg e] at h;rw [Ge];by_cases e2:q=id
      .exfalso;subst e2;have h4:q=i:=by
        cases hb:Nat.beq q i with
        | true=>exact P2 hb
        | false=>exact absurd (by simp [hb]) e
       subst h4;have h5:∀ r:Loc,lk (r.filter fun p=>!Nat.beq p.1 q) q=none:=by
        intro r
        induction r with
        | nil=>rfl
        | cons p r ih2=>
         rw [List.filter_cons];by_cases e3:(!Nat.beq p.1 q)=true
         .rw [if_pos e3,Ge,if_neg (fun e4=>by rw [e4] at e3; simp at e3)]; exact ih2
         .rw [if_neg e3]; exact ih2
       rw [h5] at h; cases h
      .rw [if_neg e2]; exact ih h
   exact⟨o',this,by cases o' <;> simp [Jb.like]⟩
  have hn:lk (L.filter fun p=>!Nat.beq p.1 i) i=none:=by
   clear h0 hi hv hd
   induction L with
   | nil=>rfl
   | cons p r ih2=>
    rw [List.filter_cons];by_cases e3:(!Nat.beq p.1 i)=true
    .rw [if_pos e3,Ge,if_neg (fun e4=>by rw [e4] at e3; simp at e3)]; exact ih2
    .rw [if_neg e3]; exact ih2
  exact((hv.vfreeze h0 hi hd hn).inv_list).mono fun b i hs=>⟨hs.lt,rfl⟩

variable {f:FuncId} {args:AD}
theorem Gd7 {P:Program} {R:AV->Prop} (hc:Pure P f args R) (h0:Sat w U L) {vs:Array Value} (hl:vs.size=args.length)
  (hv:∀ (j:Nat) u v,args[j]? = some u->vs[j]? = some v->D w (fun b _=>b < w.heap.size) u v) (hr:∀ r,R r->r.BQ=true) :
  Calls P f vs w fun e w'=>∃ v r,e=.returned v/\Sat w' U L/\Step w U L w' U L/\V w' U L r v/\R r:=by
 have h4:∀ b i:Nat,b < w.heap.size->Hs w ⟨fun _=>none,fun _ _=>False⟩ [] b i:=fun b i hs=>⟨hs,fun h=>h,fun id o h=>by simp [lk] at h⟩;refine(hc w ⟨fun _=>none,fun _ _=>False⟩ vs ⟨fun b i h=>h.elim,fun id b h=>by simp [lk] at h,fun id b j h=>by simp [lk] at h,fun id id' b h=>by simp [lk] at h,fun id o h=>by simp [lk] at h⟩ hl
  (fun j u v hu h5=>.data ((hv j u v hu h5).mono fun b i hs=>⟨h4 b i hs,rfl⟩))).mono fun e w' h=>?_
 obtain⟨v,r,U',L',he,h7,h3,h6,rfl,hR⟩:=h;have far:∀ b,b < w.heap.size->w'.heap[b]? = w.heap[b]? := fun b hb=>(h3.far b hb (fun id h=>by simp [lk] at h)).1;have AX:∀ b i,Hs w U L b i->Hs w' U L b i:=fun b i hs=>⟨P0 hs.lt h3.size,hs.seen,hs.kept⟩;have step:Step w U L w' U L:=⟨h3.os,h3.tape,h3.output,h3.size,fun _ _ _=>Iff.rfl,fun b i hs=>⟨AX b i hs,Jc (w:=w) (far b hs.lt)⟩,fun b hb hf=>⟨far b hb,hf⟩,
  fun _ _ cs h=>⟨rfl,cs,h⟩,fun _ _ cs h=>⟨rfl,cs,h⟩,fun _ _ n cs h=>⟨rfl,n,cs,h⟩,fun id _ _ ver xs h=>⟨ver,xs,h,Pf,fun _=>⟨rfl,rfl,fun b hb=>bK (far b (h0.bnd id b (by rw [h]; rfl) hb))⟩⟩,fun id _ _ ver hw h=>⟨ver,hw,h,Pf,fun _=>⟨rfl,rfl,fun b hb=>far b (h0.bnd id b (by rw [h]; rfl) hb)⟩⟩⟩
 exact⟨v,r,he,⟨fun b i h=>P0 (h0.hid b i h) h3.size,fun id b h1 h2=>P0 (h0.bnd id b h1 h2) h3.size,h0.apart,h0.inj,fun id o h=>(h0.obj id o h).step step (fun b hb=>far b (h0.bnd id b (by rw [h]; rfl) hb))⟩,step,.data (h6.data_of_nil.BQ (hr r hR)),hR⟩

variable {ts:Array TypeId} {xs:List Operand}
theorem J28 (ho:o.op=.call { callee:=.value (.func f),args:=xs.toArray,argTypes:=ts }) (hc:Pure P f args (·=u)) (hB:H5 P f=true) (ha:sU l L xs args) (hu:u.BQ=true):Gy P o l L (Is u L):=by
 intro a w U K Q h0 hf hK;have hr:(execOp a.eval o).run P w=.ok (.enter f (xs.toArray.map a.eval)) w:=by
  simp [execOp,ho,resolve,Act.eval,Deferred.ofValue,invoke,H5.out hB]
 unfold Oper.wp;rw [hr];show Calls P f _ w _
 refine(Gd7 hc h0 (vs:=xs.toArray.map a.eval) (by simp [ha.length]) (fun j u v hu hv=>?_) (fun r hr=>by rw [hr]; exact hu)).mono fun e w' h=>?_
 .simp only [Array.getElem?_map,List.getElem?_toArray,Option.map_eq_some_iff] at hv;obtain⟨x,hx,rfl⟩:=hv;exact(ha.get hx hu).D h0 (hf.ev x)
 .obtain⟨v,r,rfl,h1,h2,h3,rfl⟩:=h;exact hK _ L v w' U ⟨rfl,rfl⟩ h1 h2 h3

def yL (l:Fr) (L0:Loc):List Operand->AD->Prop
 | [],[]=>True
 | x::r,u::s=>(ev l x=u\/(ev l x).plain=u)/\u.refs (inL L0)=true/\yL l L0 r s
 | _,_=>False
theorem yL.length {l:Fr} {L0:Loc}:∀ {xs:List Operand} {us:AD},yL l L0 xs us->xs.length=us.length
 | [],[],_=>rfl
 | _::r,_::s,h=>by simp [yL.length h.2.2]
theorem yL.get {l:Fr} {L0:Loc}:∀ {xs:List Operand} {us:AD},yL l L0 xs us->∀ {j:Nat} {x:Operand} {u:AV},xs[j]? = some x->us[j]? = some u->(ev l x=u\/(ev l x).plain=u)/\u.refs (inL L0)=true
 | [],[],_,j,x,u,h,_=>by simp at h
 | x::r,u::s,h,0,_,_,hx,hu=>by simp at hx hu; subst hx hu; exact⟨h.1,h.2.1⟩
 | x::r,u::s,h,j+1,_,_,hx,hu=>by simp at hx hu; exact yL.get h.2.2 hx hu

def Ga4 (L:Loc):Loc->Prop
 | []=>True
 | (i,ob)::r=>lk L i=some ob/\Ga4 L r
theorem Ga4.get {L:Loc}:∀ {L0:Loc},Ga4 L L0->∀ {id:Nat} {ob:Jb},lk L0 id=some ob->lk L id=some ob
 | [],_,id,ob,h=>by simp [lk] at h
 | (i,o')::r,hs,id,ob,h=>by
  rw [Ge] at h;by_cases e:i=id
  .subst e; rw [if_pos rfl] at h; cases h; exact hs.1
  .rw [if_neg e] at h; exact Ga4.get hs.2 h
def closedIn (ok:Nat->Bool):Loc->Bool
 | []=>true
 | (_,ob)::r=>ob.refs ok&&closedIn ok r
theorem closedIn.get {ok:Nat->Bool}:∀ {L0:Loc},closedIn ok L0=true->∀ {id:Nat} {ob:Jb},lk L0 id=some ob->ob.refs ok=true
 | [],_,id,ob,h=>by simp [lk] at h
 | (i,o')::r,hs,id,ob,h=>by
  simp only [closedIn,Pp] at hs;rw [Ge] at h;by_cases e:i=id
  .subst e; rw [if_pos rfl] at h; cases h; exact hs.1
  .rw [if_neg e] at h; exact closedIn.get hs.2 h
def nQ (L L0:Loc):Loc->Bool
 | []=>true
 | (i,_)::r=>(inL L0 i||!inL L i)&&nQ L L0 r
theorem nQ.get {L L0:Loc}:∀ {Lr:Loc},nQ L L0 Lr=true->∀ {id:Nat},inL Lr id=true->inL L0 id=true\/lk L id=none
 | [],_,id,h=>by simp [inL,lk] at h
 | (i,_)::r,hs,id,h=>by
  simp only [nQ,Pp,Px,Bool.not_eq_true'] at hs;rw [inL,Ge] at h;by_cases e:i=id
  .subst e;exact hs.1.imp id (fun h=>by simpa [inL] using h)
  .rw [if_neg e] at h; exact nQ.get hs.2 h

variable {L'' L0 Lr:Loc}
theorem Ge1 {vs:Array Value} {a:Act} {K:Act->World->Prop} {Q:Exit->Act->World->Prop} (hc:Q2 P f args L0 (fun r L'=>r=u/\L'=Lr)) (h0:Sat w U L)
  (h4:Ga4 L L0) (h6:closedIn (inL L0) L0=true) (h5:nQ L L0 Lr=true) (hL:Lr++qA L L0=L'') (hl:vs.size=args.length)
  (hv:∀ (j:Nat) u v,args[j]? = some u->vs[j]? = some v->V w U L u v/\u.refs (inL L0)=true)
  (hK:∀ u' L' v w' U',Is u L'' u' L'->Sat w' U' L'->Step w U L w' U' L'->V w' U' L' u' v->K (a.put o.dst v) w') :
  Calls P f vs w fun
   | .returned v,w''=>K (a.put o.dst v) w''
   | .panicked chain,w''=>Q (.panic chain) a w''
   | .outgrown,_=>LetsOut Q:=by
 refine(G5c hc h0 (fun id ob h=>h4.get h) (fun id ob h=>closedIn.get h6 h) hl hv (fun r L' hR id h=>by rw [hR.2] at h; exact nQ.get h5 h)).mono fun e w' h=>?_;obtain⟨v,r,U',L',rfl,⟨rfl,rfl⟩,h1,h2,h3⟩:=h;unfold oG at h1 h2 h3;rw [hL] at h1 h2 h3;exact hK _ _ v w' _ ⟨rfl,rfl⟩ h1 h2 h3

theorem wF (ho:o.op=.call { callee:=.value (.func f),args:=xs.toArray,argTypes:=ts }) (hc:Q2 P f args L0 (fun r L'=>r=u/\L'=Lr)) (hB:H5 P f=true) (ha:yL l L0 xs args)
  (h0:Ga4 L L0) (h5:closedIn (inL L0) L0=true) (h3:nQ L L0 Lr=true) (hL:Lr++qA L L0=L''):Gy P o l L (Is u L''):=by
 intro a w U K Q h4 hf hK;have hr:(execOp a.eval o).run P w=.ok (.enter f (xs.toArray.map a.eval)) w:=by
  simp [execOp,ho,resolve,Act.eval,Deferred.ofValue,invoke,H5.out hB]
 unfold Oper.wp;rw [hr];refine Ge1 hc h4 h0 h5 h3 hL (by simp [ha.length]) (fun j u v hu hv=>?_) hK;simp only [Array.getElem?_map,List.getElem?_toArray,Option.map_eq_some_iff] at hv;obtain⟨x,hx,rfl⟩:=hv;obtain⟨h1,h2⟩:=ha.get hx hu;refine⟨?_,h2⟩;rcases h1 with h1 | h1
 .rw [<- h1]; exact hf.ev x
 .rw [<- h1]; exact(hf.ev x).plain

theorem mC {x:Operand} {AZ:AD} (ho:o.op=.call { callee:=.value x,args:=xs.toArray,argTypes:=ts }) (hx:ev l x=.fn f AZ) (hc:Q2 P f (args++AZ) L0 (fun r L'=>r=u/\L'=Lr)) (hB:H5 P f=true) (ha:yL l L0 xs args)
  (h7:Qr (inL L0) AZ=true) (h3:Ga4 L L0) (h8:closedIn (inL L0) L0=true) (h4:nQ L L0 Lr=true) (hL:Lr++qA L L0=L''):Gy P o l L (Is u L''):=by
 intro a w U K Q h5 hf hK;have h0:=hf.ev x;rw [hx] at h0;obtain⟨cs,he,h6,h9⟩:=h0.inv_fn;have hr:(execOp a.eval o).run P w=.ok (.enter f (xs.toArray.map a.eval++cs)) w:=by
  simp [execOp,ho,resolve,he,Deferred.ofValue,invoke,H5.out hB]
 unfold Oper.wp;rw [hr];refine Ge1 hc h5 h3 h8 h4 hL (by simp [ha.length,h6]) (fun j u v hu hv=>?_) hK;rcases P4 j args.length with hj | hj
 .rw [Ph hj] at hu;rw [Array.getElem?_append_left (by simp [ha.length]; exact hj)] at hv;simp only [Array.getElem?_map,List.getElem?_toArray,Option.map_eq_some_iff] at hv;obtain⟨y,hy,rfl⟩:=hv;obtain⟨h1,h2⟩:=ha.get hy hu;refine⟨?_,h2⟩;rcases h1 with h1 | h1
  .rw [<- h1]; exact hf.ev y
  .rw [<- h1]; exact(hf.ev y).plain
 .rw [Pg hj] at hu;rw [Array.getElem?_append_right (by simp [ha.length]; exact hj)] at hv;simp only [Array.size_map,List.size_toArray,ha.length] at hv;exact⟨h9 _ u v hu hv,Yz h7 u (Pd hu)⟩
end AA

section ops
variable {P:Program} {N:Cfg} {Q:Post} {o:Oper} {ops:Array Oper} {rest:AM} {l:Fr} {L L':Loc} {u:AV} {W:Type}

variable {xs:List W} {E T i k n ver:Nat} {x:Operand} {f:W->AV}
theorem rB {s:Operand} {by_ BA kx:Nat} {ys:List W} (ho:o.op=.call { callee:=.builtin .append,args:=#[s,x],argTypes:=#[T,T] }) (hs:ev l s=.vec i ver k n) (hi:lk L i=some (.vec E k ver (xs.map f))) (hx:Jv (ev l x)=some (kx,ys.map f))
  (hT:sliceB P T E k=true) (hE:Qa P E k by_=true) (hb:decide ((xs.length+ys.length)*by_<=140737488355328/\xs.length+ys.length<=maxLen)=true) (h0:∀ y,(f y).BI=true) (hk:kx=k\/ys=[]) (hv:ver < BA) :
  Gy P o l L (Is (.vec i BA k (xs++ys).length) ((i,.vec E k BA ((xs++ys).map f))::L)):=by
 have h1:=P6 hb;have h:=J8e (xs:=xs.map f) (ys:=ys.map f) ho hs hi hx hT hE (by simpa using h1.1) (by simpa using h1.2) (fun y hy=>by
  obtain⟨z,_,rfl⟩:=Pt.1 hy;exact h0 z) (hk.imp id (fun e=>by rw [e]; rfl)) hv
 simpa only [List.map_append,Pn,Pr] using h
variable {m:Nat}
theorem sV {ix:Operand} {kd:IntKind} {z:Int} {y:W} (ho:o.op=.indexAddr T x ix) (hx:ev l x=.vec i ver k n) (h0:ev l ix=.sc (.int kd z)) (hi:lk L i=some (.vec E k ver (xs.map f))) (hT:sliceB P T E k=true) (hy:xs[m]? = some y) (hz:z=(m:Int)) :
  Gy P o l L (Is (.BO i ver m 0) L):=Qa4 ho hx h0 hi hT (by rw [Pr]; exact(Pa hy).1) hz
theorem QP {fo t:Nat} {y:W} (hT:J9 P T=true) (ho:o.op=.load T x) (hx:ev l x=.BO i ver m fo) (hi:lk L i=some (.vec t k ver (xs.map f))) (hy:xs[m]? = some y) (hu:(f y).cells[fo]? = some u) (h0:Nat.blt fo k=true):Gy P o l L (Is u L):=
 Q4b hT ho hx hi (Q24 hy) hu (by simpa [Nat.blt_eq] using h0)
theorem J05 {us cs:AD} (h:us.length=cs.length):zE 0 us cs=some us:=by
 have key:∀ (us cs:AD),us.length=cs.length->zE 0 us cs=some us:=by
  intro us
  induction us with
  | nil=>intro cs h; cases cs with
   | nil=>rfl
   | cons c r=>simp at h
  | cons a r ih=>intro cs h; cases cs with
   | nil=>simp at h
   | cons c s=>simp [zE,ih s (by simpa using h)]
 exact key us cs h
theorem zD {y:Operand} {t:Nat} {z:W} (hT:R3 P T k=true) (ho:o.op=.store T x y) (hu:ev l y=f z) (hx:ev l x=.BO i ver m 0) (hi:lk L i=some (.vec t k ver (xs.map f))) (hm:m < xs.length)
  (hc:(f z).BI=true) (hd:(f z).BF=true) (hk:(f z).cells.length=k) (h1:Nat.blt 0 k=true) :
  Gy P o l L (Is .AL ((i,.vec t k ver ((xs.set m z).map f))::L)):=by
 intro a w U K Q h0 hf hK;obtain⟨o1,_⟩:=h0.obj i _ hi;have he:(xs.map f)[m]? = some (f xs[m]):=by simp [hm]
 have h2:(f xs[m]).cells.length=k:=o1 _ (Pd he);have h:=Ha2 (P:=P) (e:=f xs[m]) (z:=f z) (ds:=(f z).cells) hT ho hu hx hi he hc hd (J05 (hk.trans h2.symm)) rfl hk h1;rw [<- List.map_set] at h;exact h a w U K Q h0 hf hK
theorem Ha4 (i:Nat) {y:Operand} {by_:Nat} {kd kd':IntKind} {nx ny:Int} (z:W) (zs:AK) (ho:o.op=.makeSlice T x y) (hx:ev l x=.sc (.int kd nx)) (hy:ev l y=.sc (.int kd' ny)) (hi:lk L i=none)
  (hT:sliceB P T E k=true) (hE:Qa P E k by_=true) (hz:(P.info? E).bind (fun i=>i.zero.map Value.cells)=some zs.toArray) (hn:nx=(n:Int)) (hm:ny=(n:Int)) (hb:decide (by_*n<=281474976710656/\n<=maxLen/\n*k<=16777216)=true)
  (h0:ZOk (f z).cells zs) (h1:(f z).cells.length=k) :
  Gy P o l L (Is (.vec i 0 k (List.replicate n z).length) ((i,.vec E k 0 ((List.replicate n z).map f))::L)):=by
 have h:=Q4a (P:=P) (T:=T) (E:=E) i zs ho hx hy hi hT hE hz hn hm hb (f z) (fun w S j a b ha h2=>by
  have:=ZOk.get (w:=w) (U:=⟨fun _=>none,fun b i=>¬ S b i⟩) (L:=[]) h0 j a b ha h2;refine(this.data_of_nil).mono fun b i hs=>⟨Classical.byContradiction fun hn=>hs.seen hn,rfl⟩) h1
 simpa only [List.map_replicate,List.length_replicate] using h
def mH (z:Int):Option Nat:=bif decide (0<=z) then some z.toNat else none
theorem iQ {z:Int} (h:mH z=some n):z=(n:Int):=by
 unfold mH at h;cases hb:decide (0<=z) with
 | true=>rw [hb] at h; cases h; have:=P6 hb; omega
 | false=>rw [hb] at h; cases h
end ops

structure Hk (B Y:Type) where
 l:List (B×Y)
 nd:(l.map (·.1)).Nodup
namespace Hk
variable {B Y:Type} [DecidableEq B]
def empty:Hk B Y:=⟨[],List.nodup_nil⟩
def put (m:Hk B Y) (a:B) (v:Y):Hk B Y:=⟨rE m.l a v,G52 m.nd a v⟩
def get (m:Hk B Y) (a:B) (z:Y):Y:=(iA m.l a).getD z
def has (m:Hk B Y) (a:B):Bool:=lP m.l a
def size (m:Hk B Y):Nat:=m.l.length
end Hk
def MP {B Y:Type} (T:Nat) (kv:B->Value) (av:Y->AV) (m:Hk B Y):Jb:=.map T (mapOf kv av m.l)
def MI {B Y:Type} [DecidableEq B] (T:Nat) (kv:B->Value) (av:Y->AV) (m:Hk B Y) (a:B) (z:Y):Jb:=.map T (mapOf kv av (nR m.l a z))

section ops
variable {P:Program} {N:Cfg} {o:Oper} {l:Fr} {L L':Loc} {u:AV} {B Y:Type} {kv:B->Value} {av:Y->AV}

variable {T:Nat}
theorem HN (i:Nat) (kv:B->Value) (av:Y->AV) (ho:o.op=.makeMap T none) (hi:lk L i=none) (h0:Nat.blt T 1000000=true:=by rfl):Gy P o l L (Is (.mp i) ((i,MP T kv av Hk.empty)::L)):=J95 i ho hi h0
variable {m:Hk B Y} {E K i:Nat} {x y:Operand} {a:B}
theorem Ge9 [DecidableEq B] {ok:Bool} (z0:Y) (zv:Value) (ho:o.op=.lookup T x y ok) (hm:ev l x=.mp i) (hi:lk L i=some (MP T kv av m))
  (hx:ev l y=bE (kv a)) (hk:pG P K kv) (hT:fD P T K E=true) (hz:(P.info? E).bind (·.zero)=some zv) (h0:av z0=bE zv) :
  Gy P o l L (Is (bif ok then .tup [av (m.get a z0),BL (m.has a)] else av (m.get a z0)) L):=G8d z0 zv ho hm hi m.nd hx hk hT hz h0
theorem G8c [DecidableEq B] (z0:Y) (zv:Value) (ho:o.op=.lookup T x y false) (hm:ev l x=.mp i) (hi:lk L i=some (MP T kv av m))
  (hx:ev l y=bE (kv a)) (hk:pG P K kv) (hT:fD P T K E=true) (hz:(P.info? E).bind (·.zero)=some zv) (h0:av z0=bE zv) :
  Gy P o l L (Is (av (m.get a z0)) L):=Ge9 (ok:=false) z0 zv ho hm hi hx hk hT hz h0
theorem G8b [DecidableEq B] (z0:Y) (zv:Value) (ho:o.op=.lookup T x y true) (hm:ev l x=.mp i) (hi:lk L i=some (MP T kv av m))
  (hx:ev l y=bE (kv a)) (hk:pG P K kv) (hT:fD P T K E=true) (hz:(P.info? E).bind (·.zero)=some zv) (h0:av z0=bE zv) :
  Gy P o l L (Is (.tup [av (m.get a z0),BL (m.has a)]) L):=Ge9 (ok:=true) z0 zv ho hm hi hx hk hT hz h0
theorem G8a [DecidableEq B] (z0:Y) (zv:Value) (ho:o.op=.lookup T x y false) (hm:ev l x=.mp i) (hi:lk L i=some (MI T kv av m a z0))
  (hx:ev l y=bE (kv a)) (hk:pG P K kv) (hT:fD P T K E=true) (hz:(P.info? E).bind (·.zero)=some zv) (h0:av z0=bE zv) :
  Gy P o l L (Is (av (m.get a z0)) L):=Ha7 z0 zv ho hm hi m.nd hx hk hT hz h0
theorem QS [DecidableEq B] {z:Operand} {v:Y} (ho:o.op=.mapUpdate T x y z) (hm:ev l x=.mp i) (hi:lk L i=some (MP T kv av m))
  (hx:ev l y=bE (kv a)) (hy:(ev l z).plain=av v) (h0:(av v).BF=true) (hk:pG P K kv) (hT:fD P T K E=true) :
  Gy P o l L (Is .AL ((i,MP T kv av (m.put a v))::L)):=Ha6 ho hm hi m.nd hx hy h0 hk hT
theorem G07 [DecidableEq B] (z0:Y) (zv:Value) (ho:o.op=.mapEntry T x y) (hm:ev l x=.mp i) (hi:lk L i=some (MP T kv av m))
  (hx:ev l y=bE (kv a)) (hk:pG P K kv) (hT:fD P T K E=true) (hz:(P.info? E).bind (·.zero)=some zv) (h0:av z0=bE zv) :
  Gy P o l L (Is (.tup [.AL,I64 (dS m.l a)]) ((i,MI T kv av m a z0)::L)):=J24 z0 zv ho hm hi m.nd hx hk hT hz h0
theorem zX [DecidableEq B] {s:Operand} {v:Y} (z0:Y) (ho:o.op=.entryStore T x s y) (hm:ev l x=.mp i) (hi:lk L i=some (MI T kv av m a z0))
  (hs:ev l s=I64 (dS m.l a)) (hy:(ev l y).plain=av v) (h0:(av v).BF=true) (h1:Nat.blt T 1000000=true:=by rfl) :
  Gy P o l L (Is .AL ((i,MP T kv av (m.put a v))::L)):=H1c z0 ho hm hi m.nd hs hy h0 h1
theorem Jdd (i:Nat) {j:Nat} (ho:o.op=.range T x) (hx:ev l x=.mp j) (hm:lk L j=some (MP T kv av m)) (hi:lk L i=none) (hT:fD P T K E=true) :
  Gy P o l L (Is (.it i) ((i,.iter (.mp j) m.size [])::L)):=by
 have h:=Q50 (P:=P) i ho hx hm hi hT (fD.both hT).2;simpa only [mapOf,Pr,Hk.size] using h
end ops

section ops
variable {P:Program} {N:Cfg} {Q:Post} {o:Oper} {l:Fr} {L L':Loc} {u:AV} {B Y:Type} {kv:B->Value} {av:Y->AV}
def Qe3 (i j:Nat) (L:Loc) (kv:B->Value) (av:Y->AV) (m:Hk B Y) (seen:AI):AV->Loc->Prop:=fun u L'=>
 (∃ q e,m.l[q]? = some e/\q ∉ seen/\u=.tup [BL true,bE (kv e.1),av e.2]/\L'=(i,.iter (.mp j) m.size (seen++[q]))::L)\/((∀ q,q < m.l.length->q∈seen)/\u=.tup [BL false]/\L'=L)
theorem Gy.weaken {R R':AV->Loc->Prop} (h:Gy P o l L R) (hR:∀ u L',R u L'->R' u L'):Gy P o l L R':=fun a w U K Q h1 h2 h3=>h a w U K Q h1 h2 (fun u L' v w' U' hr=>h3 u L' v w' U' (hR u L' hr))
variable {m:Hk B Y}
theorem Jb8 {q:Nat} {k:Value} {v:AV} (h:(mapOf kv av m.l)[q]? = some (k,v)):∃ e:B×Y,m.l[q]? = some e/\k=kv e.1/\v=av e.2:=by
 rw [mapOf,Pj] at h;cases hl:m.l[q]? with
 | none=>rw [hl] at h; cases h
 | some e=>rw [hl] at h; cases h; exact⟨e,rfl,rfl,rfl⟩
theorem Q53 {x:Operand} {i j T:Nat} {seen:AI} (ho:o.op=.next x false) (hx:ev l x=.it i) (hi:lk L i=some (.iter (.mp j) m.size seen)) (hm:lk L j=some (MP T kv av m)) (h0:Nat.blt T 1000000=true:=by rfl):Gy P o l L (Qe3 i j L kv av m seen):=by
 have h5:lk L i=some (.iter (.mp j) (mapOf kv av m.l).length seen):=by rw [hi]; simp [mapOf,Hk.size]
 refine(Qae ho hx h5 hm h0).weaken (fun u L' h=>?_);rcases h with ⟨q,k,v,h1,h2,h3,h4⟩ | ⟨h1,h2,h3⟩
 .obtain⟨e,he,rfl,rfl⟩:=Jb8 h1;exact .inl ⟨q,e,he,h2,h3,by rw [h4]; simp [mapOf,Hk.size]⟩
 .exact .inr ⟨fun q hq=>h1 q (by simpa [mapOf] using hq),h2,h3⟩
theorem Je8 {x:Operand} {i j T q:Nat} {seen:AI} {e:B×Y} (ho:o.op=.entry x) (hx:ev l x=.it i) (hi:lk L i=some (.iter (.mp j) m.size (seen++[q]))) (hm:lk L j=some (MP T kv av m)) (he:m.l[q]? = some e) (h0:Nat.blt T 1000000=true:=by rfl) :
  Gy P o l L (Is (.tup [bE (kv e.1),av e.2]) L):=by
 have h1:lk L i=some (.iter (.mp j) (mapOf kv av m.l).length (seen++[q])):=by rw [hi]; simp [mapOf,Hk.size]
 exact Q56 ho hx h1 hm (by rw [mapOf,Pj,he]; rfl) h0
theorem Jd2 {body:Code} {Z:Type} (n:Nat) (I:AI->Z->Prop) (F:AI->Z->Fr) (M:AI->Z->Loc) (s0:Z) (h0:I [] s0) (hf:Fits N.base l L (F [] s0) (M [] s0))
  (hr:∀ i s,I i s->∀ K:Fr->Loc->Prop,(∀ l L i' s',I i' s'->unseen n i' < unseen n i->Fits N.base l L (F i' s') (M i' s')->K l L)->JC P N body (Q.seq K) (F i s) (M i s)):JC P N (.loop body) Q l L:=
 dH (fun x:AI×Z=>I x.1 x.2) (fun x=>F x.1 x.2) (fun x=>M x.1 x.2) (fun x=>unseen n x.1) ([],s0) h0 hf
  (fun x hi K hK=>hr x.1 x.2 hi K (fun l L i' s' h1 h2 h3=>hK l L (i',s') h1 h2 h3))
end ops

/-! ### Ranging over a map: every order of its entries -/
section range
variable {W U Z:Type}
def Ga7 (b:W->Z->(Z->Option (Z ⊕ U))->Option (Z ⊕ U)) (kx:Z->Option U):List W->Z->Option U
 | [],s=>kx s
 | x::xs,s=>match b x s (fun s'=>some (.inl s')) with
  | some (.inl s')=>Ga7 b kx xs s'
  | some (.inr r)=>some r
  | none=>none
def lft (x:Option U):Option (Z ⊕ U):=x.map .inr
def H8a (b:W->Z->(Z->Option (Z ⊕ Prop))->Option (Z ⊕ Prop)) (kx:Z->Option Prop) (l:List W) (s:Z):Option Prop:=
 some (∀ q:List W,q.Perm l->∃ p,Ga7 b kx q s=some p/\p)
theorem Q27 {x:Option U} {r:Z ⊕ U} (h:lft x=some r):∃ y,r=.inr y/\x=some y:=by
 cases x with
 | none=>cases h
 | some y=>cases h; exact⟨y,rfl,rfl⟩
variable {b:W->Z->(Z->Option (Z ⊕ Prop))->Option (Z ⊕ Prop)} {s:Z} {kx:Z->Option Prop}
theorem Gcc {x:W} {xs:List W} (h:∃ p,Ga7 b kx (x::xs) s=some p/\p) :
  ∃ o,b x s (fun s'=>some (.inl s'))=some o/\(∀ r,o=.inr r->r)/\∀ s',o=.inl s'->∃ p,Ga7 b kx xs s'=some p/\p:=by
 obtain⟨p,h,hp⟩:=h;rw [Ga7] at h;cases hb:b x s (fun s'=>some (.inl s')) with
 | none=>rw [hb] at h; cases h
 | some o=>
  rw [hb] at h;cases o with
  | inl s'=>exact⟨_,rfl,(fun r e=>by cases e),(fun s2 e=>by cases e; exact⟨p,h,hp⟩)⟩
  | inr r=>cases h; exact⟨_,rfl,(fun r2 e=>by cases e; exact hp),(fun s2 e=>by cases e)⟩
def MInv (b:W->Z->(Z->Option (Z ⊕ Prop))->Option (Z ⊕ Prop)) (kx:Z->Option Prop) (l:List W) (seen:AI) (s:Z):Prop:=
 (seen.Nodup/\∀ j∈seen,j < l.length)/\∀ q:List W,(seen.filterMap (fun j=>l[j]?)++q).Perm l->∃ p,Ga7 b kx q s=some p/\p
variable {l:List W}
theorem MInv.start {p:Prop} (h:H8a b kx l s=some p) (hp:p):MInv b kx l [] s:=by
 cases h;exact⟨⟨List.nodup_nil,by simp⟩,by simpa using hp⟩
theorem Jc1 {r:Option Prop} (h:H8a b kx l s=r):∃ b' kx',b=b'/\kx=kx'/\H8a b' kx' l s=r:=⟨b,kx,rfl,rfl,h⟩
variable {seen:AI}
theorem G50 (hn:seen.Nodup) (hb:∀ j∈seen,j < l.length):∃ q,(seen.filterMap (fun j=>l[j]?)++q).Perm l:=by
 have h1:∃ r,(seen++r).Perm (List.range l.length):=by
  refine⟨(List.range l.length).filter (fun j=>!seen.contains j),?_⟩;refine(List.perm_ext_iff_of_nodup ?_ List.nodup_range).2 (fun j=>?_)
  .refine List.nodup_append.2 ⟨hn,List.nodup_range.filter _,fun a ha b h0=>?_⟩;have:=(Pw.1 h0).2;intro e; subst e; simp [ha] at this
  .simp only [Ps,Pw,List.mem_range,Bool.not_eq_true',List.contains_eq_mem,decide_eq_false_iff_not];constructor
   .rintro(h | h)
    .exact hb j h
    .exact h.1
   .intro h;by_cases hs:j∈seen
    .exact .inl hs
    .exact .inr ⟨h,hs⟩
 obtain⟨r,hr⟩:=h1;have h2:=hr.filterMap (fun j=>l[j]?);have h3:(List.range l.length).filterMap (fun j=>l[j]?)=l:=by
  have key:∀ (l m:List W),(List.range' m.length l.length).filterMap (fun j=>(m++l)[j]?)=l:=by
   intro l
   induction l with
   | nil=>intro m; rfl
   | cons a r ih=>
    intro m;have h1:=ih (m++[a]);rw [Pi,List.range'_succ,List.filterMap_cons_some (b:=a) (by simp)];congr 1;simpa using h1
  have:=key l [];simpa [List.range_eq_range'] using this
 rw [List.filterMap_append,h3] at h2;exact⟨_,h2⟩
theorem MInv.step {j:Nat} {e:W} (h:MInv b kx l seen s) (hj:l[j]? = some e) (hs:j ∉ seen) :
  ∃ o,b e s (fun s'=>some (.inl s'))=some o/\(∀ r,o=.inr r->r)/\∀ s',o=.inl s'->MInv b kx l (seen++[j]) s':=by
 obtain⟨⟨h1,h2⟩,h3⟩:=h;have hn:(seen++[j]).Nodup:=List.nodup_append.2 ⟨h1,by simp,fun a ha b hb=>by simp at hb; subst hb; intro e; subst e; exact hs ha⟩;have hb:∀ i∈seen++[j],i < l.length:=fun i hi=>by
  rcases Ps.1 hi with hi | hi
  .exact h2 i hi
  .simp at hi; subst hi; exact(Pa hj).1
 have h0:(seen++[j]).filterMap (fun j=>l[j]?)=seen.filterMap (fun j=>l[j]?)++[e]:=by
  rw [List.filterMap_append]; simp [hj]
 obtain⟨q,hq⟩:=G50 (l:=l) hn hb;rw [h0,List.append_assoc] at hq;obtain⟨o,o1,o2,_⟩:=Gcc (h3 (e::q) hq);refine⟨o,o1,o2,fun s' ho=>⟨⟨hn,hb⟩,fun q' h4=>?_⟩⟩;rw [h0,List.append_assoc] at h4;obtain⟨o',p1,_,p3⟩:=Gcc (h3 (e::q') h4);rw [o1] at p1; cases p1;exact p3 s' ho
theorem MInv.done (h:MInv b kx l seen s) (ha:∀ j,j < l.length->j∈seen):∃ p,kx s=some p/\p:=by
 obtain⟨⟨h1,h2⟩,h3⟩:=h;obtain⟨q,hq⟩:=G50 (l:=l) h1 h2;have hl:(seen.filterMap (fun j=>l[j]?)).length=l.length:=by
  have hp:seen.Perm (List.range l.length):=(List.perm_ext_iff_of_nodup h1 List.nodup_range).2 (fun j=>by
   rw [List.mem_range]; exact⟨h2 j,ha j⟩)
  have h5:(seen.filterMap (fun j=>l[j]?)).length=seen.length:=by
   have:∀ s:AI,(∀ j∈s,j < l.length)->(s.filterMap (fun j=>l[j]?)).length=s.length:=by
    intro s
    induction s with
    | nil=>intro _; rfl
    | cons a r ih=>
     intro hs;have ha:=hs a (by simp);rw [List.filterMap_cons_some (by simp [ha]; rfl),Pi,ih (fun j hj=>hs j (by simp [hj])),Pi]
   exact this seen h2
  rw [h5,hp.length_eq,List.length_range]
 have h0:q=[]:=by
  have:=hq.length_eq;rw [Pn,hl] at this;exact P1 (by omega)
 subst h0;exact h3 [] hq
end range

def fL (L L':Loc):Prop:=∀ id,lk L id=lk L' id
variable {U:Gx} {L L':Loc}
theorem Sat.BK (h:Sat w U L) (e:fL L L'):Sat w U L':=by
 have hS:∀ b i,Hs w U L b i->Hs w U L' b i:=fun b i hs=>⟨hs.lt,hs.seen,fun id o ho=>hs.kept id o (by rw [e]; exact ho)⟩;exact⟨h.hid,fun id b h1=>h.bnd id b (by rw [e]; exact h1),fun id b j h1=>h.apart id b j (by rw [e]; exact h1),fun id id' b h1 h2=>h.inj id id' b (by rw [e]; exact h1) (by rw [e]; exact h2),
  fun id o ho=>(h.obj id o (by rw [e]; exact ho)).up hS (fun id o ho=>⟨by rw [<- e]; exact ho,rfl⟩)⟩
theorem Step.BK {w':World} {U':Gx} {L1:Loc} (h:Step w U L w' U' L1) (e:fL L1 L'):Step w U L w' U' L' where
 os:=h.os
 tape:=h.tape
 output:=h.output
 size:=h.size
 hid:=h.hid
 AX:=fun b i hs=>by
  obtain⟨h1,h2⟩:=h.AX b i hs;exact⟨⟨h1.lt,h1.seen,fun id o ho=>h1.kept id o (by rw [e]; exact ho)⟩,h2⟩
 far:=fun b hb hf=>by
  obtain⟨h1,h2⟩:=h.far b hb hf;exact⟨h1,fun id hid=>h2 id (by rw [e]; exact hid)⟩
 box:=fun id t cs hi=>by obtain⟨h1,cs',h2⟩:=h.box id t cs hi; exact⟨h1,cs',by rw [<- e]; exact h2⟩
 map:=fun id t cs hi=>by obtain⟨h1,cs',h2⟩:=h.map id t cs hi; exact⟨h1,cs',by rw [<- e]; exact h2⟩
 iter:=fun id m n cs hi=>by obtain⟨h1,n',cs',h2⟩:=h.iter id m n cs hi; exact⟨h1,n',cs',by rw [<- e]; exact h2⟩
 vec:=fun id t k ver xs hi=>by obtain⟨v,xs',h1,h2,h3⟩:=h.vec id t k ver xs hi; exact⟨v,xs',by rw [<- e]; exact h1,h2,h3⟩
 spare:=fun id t k ver xs hi=>by obtain⟨v,xs',h1,h2,h3⟩:=h.spare id t k ver xs hi; exact⟨v,xs',by rw [<- e]; exact h1,h2,h3⟩
theorem V.BK {v:Value} (h:V w U L u v) (e:fL L L'):V w U L' u v:=
 h.up (fun b i hs=>⟨hs.lt,hs.seen,fun id o ho=>hs.kept id o (by rw [e]; exact ho)⟩) (fun id o ho=>⟨by rw [<- e]; exact ho,rfl⟩)
theorem cV.BK {P:Program} {N:Cfg} {ops:Array Oper} {o:Oper} {l:Fr} {L1:Loc} (h:cV P N ops o l L u L1) (e:fL L1 L'):cV P N ops o l L u L':=
 fun a w U K Q h1 h2 h3 h4=>h a w U K Q h1 h2 h3 (fun v w' U' k1 k2 k3=>h4 v w' U' (k1.BK e) (k2.BK e) (k3.BK e))
def HC (ks:AI):Loc->Bool
 | []=>true
 | (i,_)::r=>ks.contains i&&HC ks r
def Q93 (L L':Loc):AI->Prop
 | []=>True
 | k::r=>lk L k=lk L' k/\Q93 L L' r
theorem HA {ks:AI} {id:Nat} (h:id ∉ ks):∀ {L:Loc},HC ks L=true->lk L id=none
 | [],_=>rfl
 | (i,o)::r,hk=>by
  simp only [HC,Pp] at hk;rw [Ge,if_neg (fun e=>h (by subst e; simpa using hk.1))];exact HA h hk.2
theorem fL.of (ks:AI) (h1:HC ks L=true) (h2:HC ks L'=true) (h3:Q93 L L' ks):fL L L':=fun id=>by
 by_cases h:id∈ks
 .clear h1 h2
  induction ks with
  | nil=>cases h
  | cons k r ih=>
   rcases Pv.1 h with e | h
   .rw [e]; exact h3.1
   .exact ih h3.2 h
 .rw [HA h h1,HA h h2]

/-! ### The stages: which of the turning operations are done -/

end Go.Proofs.YtbgfgnddogfpcaaGreat
