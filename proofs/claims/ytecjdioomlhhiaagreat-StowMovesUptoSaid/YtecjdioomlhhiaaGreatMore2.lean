/-
 More steps: cells of boxes that hold slices which the call may write in place.
-/
import Derived.Test.YtecjdioomlhhiaaGreatRangeF
set_option linter.unusedSimpArgs false
namespace Go.Proofs.YtecjdioomlhhiaaGreat
open Go.RowKit

theorem Re9 {P:Program} {o:Oper} {l:Fr} {L:Loc} {u:AV} {x y:Operand} {T i:Nat} {t:TypeId} (hT:Zh P T 0=true) (ho:o.op=.store T x y) (hu:ev l y=u) (hx:ev l x=.ptr i 0) (hi:lk L i=some (.box t []))
  (hc:u.flatOk=true) (hk:u.cells=[]):H1 P o l L (Is .junk ((i,.box t [])::L)):=by
 subst hu
 intro a w β K Q hsat hf hK
 have h1:=hf.ev x
 rw [hx] at h1
 obtain⟨b,hb,hax⟩:=h1.inv_ptr
 obtain⟨old,ho1,ho2,ho3⟩:=He5 hsat hi hb
 obtain⟨c1,c2,c3⟩:=(hf.ev y).cells hc
 rw [hk] at c1
 have hr:=H5e (P:=P) (off:=0) hT c1 c3 ho1 (by omega)
 unfold Oper.wp
 have hr':(execOp a.eval o).run P w=.ok .skip (w.setRow b (old.toList.take 0++(a.eval y).cells.toList++old.toList.drop (0+0)).toArray):=by
  simp [execOp,ho,hax,hr]
 rw [hr']
 have ho2':old.size=0:=by simpa using ho2
 have hcz:(a.eval y).cells.size=0:=by simpa using c1
 refine hK _ _ _ _ β ⟨rfl,rfl⟩ (hsat.set hi hb ho1 _ ?_ ?_) (Step.set hsat hi hb _) .junk
 ·simp [hcz,ho2']
 ·intro j u v hu hv
  simp at hu

theorem Qb.ver {P:Program} {f:FuncId} {args:List AV} {i t k n:Nat} {xs:List AV} (h:Qb P f args [] (fun u L'=>∃ p:Nat,u=.vec i p k n∧L'=[(i,.vec t k p xs)])) (q:Nat):Qb P f args [] (fun u L'=>u=.vec i q k n∧L'=[(i,.vec t k q xs)]):=by
 intro w β vs hsat hl hv
 refine(h w β vs hsat hl hv).mono fun e w' hr=>?_
 obtain⟨v,r,β',L',rfl,hs,st,hvr,p,rfl,rfl⟩:=hr
 have hlk:∀ id,(lk [(i,Jg.vec t k p xs)] id).isSome=(lk [(i,Jg.vec t k q xs)] id).isSome:=fun id=>by
  rw [Gr,Gr]; split <;> rfl
 have hstab:∀ b j,Jy w' β' [(i,Jg.vec t k p xs)] b j→Jy w' β' [(i,Jg.vec t k q xs)] b j:=fun b j h=>⟨h.lt,h.seen,fun id o ho hb=>by
  rw [Gr] at ho
  by_cases e:i=id
  ·subst e
   rw [if_pos rfl] at ho; cases ho
   exact(show False from h.kept i (.vec t k p xs) (by rw [Gr,if_pos rfl]) hb).elim
  ·rw [if_neg e] at ho; cases ho⟩
 refine⟨v,_,β',_,rfl,⟨hs.hid,fun id b h1=>hs.bnd id b (by rw [hlk]; exact h1),fun id b j h1=>hs.apart id b j (by rw [hlk]; exact h1),fun id id' b h1 h2=>hs.inj id id' b (by rw [hlk]; exact h1) (by rw [hlk]; exact h2),fun id o ho=>?_⟩,
  ⟨st.os,st.tape,st.output,st.size,st.hid,fun b j h=>⟨hstab b j (st.stab b j h).1,(st.stab b j h).2⟩,fun b hb hf=>⟨(st.far b hb hf).1,fun id hid=>(st.far b hb hf).2 id (by rw [hlk]; exact hid)⟩,fun id t cs h=>by simp [lk] at h,fun id t cs h=>by simp [lk] at h,fun id t n cs h=>by simp [lk] at h,fun id t k ver xs h=>by simp [lk] at h,fun id t k ver xs h=>by simp [lk] at h⟩,?_,rfl,rfl⟩
 ·rw [Gr] at ho
  by_cases e:i=id
  ·subst e
   rw [if_pos rfl] at ho; cases ho
   have h0:=hs.obj i _ (by rw [Gr,if_pos rfl])
   refine⟨h0.1,h0.2.imp_right ?_⟩
   rintro⟨b,hb,vs,a1,a2,a3⟩
   exact⟨b,hb,vs,a1,a2,fun j u v hu hv=>(a3 j u v hu hv).mono fun b i hs=>⟨hstab b i hs,rfl⟩⟩
  ·rw [if_neg e] at ho; cases ho
 ·cases hvr with
  | data h=>cases h
  | vec hp hone=>
   obtain⟨t',ver',xs',h1,_,h3⟩:=hp
   rw [Gr,if_pos rfl] at h1; cases h1
   exact .vec ⟨t,q,xs,by rw [Gr,if_pos rfl],Nat.le_refl _,fun _=>h3 rfl⟩ hone
theorem Qb.data0 {P:Program} {f:FuncId} {args:List AV} {i E k n:Nat} {xs:List AV} (h:Qb P f args [] (fun av L'=>∃ p,av=.vec i p k n∧L'=[(i,.vec E k p xs)])):Pure P f args (·=.list k xs):=by
 intro w β vs hsat hl hv
 refine(h w β vs hsat hl hv).mono fun e w' hh=>?_
 obtain⟨v,r,β',L',rfl,hs,st,hvr,p,rfl,rfl⟩:=hh
 have hd:V w' β' [] (.list k xs) v:=V.vfreeze hs (by rw [Gr,if_pos rfl]) ⟨fun id o h=>by simp [lk] at h⟩ rfl hvr
 refine⟨v,_,β',[],rfl,⟨hs.hid,fun id b h=>by simp [lk] at h,fun id b j h=>by simp [lk] at h,fun id id' b h=>by simp [lk] at h,fun id o h=>by simp [lk] at h⟩,
  ⟨st.os,st.tape,st.output,st.size,st.hid,fun b j hb=>⟨⟨(st.stab b j hb).1.lt,(st.stab b j hb).1.seen,fun id o h=>by simp [lk] at h⟩,(st.stab b j hb).2⟩,fun b hb hf=>⟨(st.far b hb hf).1,fun id h=>by simp [lk] at h⟩,fun id t cs h=>by simp [lk] at h,fun id t cs h=>by simp [lk] at h,fun id m n es h=>by simp [lk] at h,fun id t k ver xs h=>by simp [lk] at h,fun id t k ver hw h=>by simp [lk] at h⟩,hd,rfl,rfl⟩

def Gb2 (l:Fr):List Operand→List AV→Prop
 | [],[]=>True
 | x::r,u::s=>((ev l x).plain=u∨∃ k,u=.list k []∧ev l x=.sc (.slice none 0 0))∧u.isData=true∧Gb2 l r s
 | _,_=>False
theorem Gb2.length {l:Fr}:∀ {xs:List Operand} {us:List AV},Gb2 l xs us→xs.length=us.length
 | [],[],_=>rfl
 | _::_,_::_,h=>by simp [Gb2.length h.2.2]
 | [],_::_,h=>h.elim
 | _::_,[],h=>h.elim
theorem Gb2.get {l:Fr}:∀ {xs:List Operand} {us:List AV},Gb2 l xs us→∀ {j:Nat} {x:Operand} {u:AV},xs[j]? = some x→us[j]? = some u→((ev l x).plain=u∨∃ k,u=.list k []∧ev l x=.sc (.slice none 0 0))∧u.isData=true
 | x::r,u::s,h,j,x',u',hx,hu=>by
  cases j with
  | zero=>simp at hx hu; subst hx; subst hu; exact⟨h.1,h.2.1⟩
  | succ j=>simp at hx hu; exact h.2.2.get hx hu
 | [],[],_,j,_,_,hx,_=>by simp at hx
 | [],_::_,h,_,_,_,_,_=>h.elim
 | _::_,[],h,_,_,_,_,_=>h.elim
theorem H4a {P:Program} {o:Oper} {l:Fr} {L:Loc} {u:AV} {f:FuncId} {xs:List Operand} {args:List AV} {ts:Array TypeId} (ho:o.op=.call { callee:=.value (.func f),args:=xs.toArray,argTypes:=ts }) (hc:Pure P f args (·=u)) (hB:H7 P f=true) (ha:Gb2 l xs args):H1 P o l L (Is u L):=by
 intro a w β K Q hsat hf hK
 have hr:(execOp a.eval o).run P w=.ok (.enter f (xs.toArray.map a.eval)) w:=by
  simp [execOp,ho,resolve,Act.eval,Deferred.ofValue,invoke,H7.out hB]
 unfold Oper.wp
 rw [hr]
 show Calls P f _ w _
 refine(Hf9 hc hsat (vs:=xs.toArray.map a.eval) (by simp [ha.length]) (fun j u v hu hv=>?_)).mono fun e w' h=>?_
 ·simp only [Array.getElem?_map,List.getElem?_toArray,Option.map_eq_some_iff] at hv
  obtain⟨x,hx,rfl⟩:=hv
  obtain⟨h1,h2⟩:=ha.get hx hu
  rcases h1 with h1 | ⟨k0,h1,h3⟩
  ·have:=(hf.ev x).plain
   rw [h1] at this
   exact this.toD h2
  ·have hv:=hf.ev x
   rw [h3] at hv
   rw [h1,hv.inv_sc]
   exact .nil (Nat.zero_le _)
 ·obtain⟨v,r,rfl,h1,h2,h3,h4⟩:=h
  exact hK r L v w' β ⟨h4,rfl⟩ h1 h2 h3
/-! ### A variable of a map's type is set anew: the new map takes the old one's name -/
theorem Gc1.conv {w:World} {β:H5} {L L':Loc} {ob:Option Nat} {o o':Jg} (hd:J32 L L') (hc:Gca (fun i=>(lk L' i).isSome) o o') (h0:Gc1 w β L ob o):Gc1 w β L' ob o':=by
 cases hc with
 | same=>exact h0
 | map=>
  obtain⟨b,h1,ents,h2,h3,h4⟩:=h0
  exact⟨b,h1,ents,h2,h3,fun i e k u he hu=>⟨(h4 i e k u he hu).1,(h4 i e k u he hu).2.1.mono fun b i hs=>⟨hd.stab hs,rfl⟩,(h4 i e k u he hu).2.2⟩⟩
 | vec=>
  obtain⟨h00,h0⟩:=h0
  refine⟨h00,?_⟩
  rcases h0 with h0 | ⟨b,h1,vs,h2,h3,h4⟩
  ·exact .inl h0
  ·exact .inr ⟨b,h1,vs,h2,h3,fun j u v hu hv=>(h4 j u v hu hv).mono fun b i hs=>⟨hd.stab hs,rfl⟩⟩
 | iter hm=>
  obtain⟨b,h1,bm,t,es,h2,h3,h4⟩:=h0
  obtain⟨o',ho'⟩:=Option.isSome_iff_exists.1 hm
  obtain⟨o2,ho2,hl⟩:=hd.like _ o' ho'
  rw [h2] at ho2; cases ho2
  cases o' <;> simp [Jg.like] at hl
  subst hl
  exact⟨b,h1,bm,_,_,ho',h3,h4⟩
 | box hl hc=>
  obtain⟨b,h1,vs,h2,h3,h4⟩:=h0
  refine⟨b,h1,vs,h2,h3.trans hl,fun j u' v hu' hv=>?_⟩
  rename_i cs cs'
  have hj:j < cs.length:=by
   rcases Nat.lt_or_ge j cs'.length with h | h
   ·omega
   ·simp [List.getElem?_eq_none h] at hu'
  exact(h4 j cs[j] v (by simp [hj]) hv).conv hd (hc j _ _ (by simp [hj]) hu')

def Rb0 (i j:Nat) (ok:Nat→Bool) (l:Fr):Fr→Prop
 | []=>True
 | (s,u)::r=>((look l s=.mp j∧u=.mp i)∨(look l s=u∧u.refs ok=true))∧Rb0 i j ok l r
theorem Rb0.get {i j:Nat} {ok:Nat→Bool} {l:Fr}:∀ {l':Fr},Rb0 i j ok l l'→∀ t,look l' t=.junk∨(look l t=.mp j∧look l' t=.mp i)∨(look l t=look l' t∧(look l' t).refs ok=true)
 | [],_,t=>.inl (by simp [look])
 | (s,u)::r,h,t=>by
  by_cases e:s=t
  ·subst e
   have e1:look ((s,u)::r) s=u:=by simp [look]
   rw [e1]; exact .inr h.1
  ·have hb:Nat.beq s t=false:=by
    cases hb:Nat.beq s t with
    | false=>rfl
    | true=>exact absurd (Nat.eq_of_beq_eq_true hb) e
   have e1:look ((s,u)::r) t=look r t:=by simp [look,hb]
   rw [e1]; exact Rb0.get h.2 t

theorem Yt.rename {N:Cfg} {w0 w:World} {β0 β:H5} {L0 L3:Loc} {a:Act} {l l':Fr} {i j t:Nat} {es:List (Value×AV)} (hs:Yt N w0 β0 L0 a w β l ((j,.map t es)::L3)) (hi:lk L3 i=none) (hj:lk L3 j=none) (hij:Nat.beq i j=false)
  (hib:N.base.contains i=false) (hjb:N.base.contains j=false) (h3:Gea (fun id=>(lk ((i,Jg.map t es)::L3) id).isSome) L3 L3) (hl:Rb0 i j (fun id=>(lk ((i,Jg.map t es)::L3) id).isSome) l l') :
  Yt N w0 β0 L0 a w (upP β i (β.at_ j)) l' ((i,.map t es)::L3):=by
 have hne:i≠j:=fun e=>by subst e; simp at hij
 have ib:i ∉ N.base:=fun h=>by simp [List.contains_iff_mem,h] at hib
 have jb:j ∉ N.base:=fun h=>by simp [List.contains_iff_mem,h] at hjb
 have l1i:lk ((j,Jg.map t es)::L3) i=none:=by rw [Gr,if_neg (Ne.symm hne)]; exact hi
 have l1j:lk ((j,Jg.map t es)::L3) j=some (.map t es):=by rw [Gr,if_pos rfl]
 have li:lk ((i,Jg.map t es)::L3) i=some (.map t es):=by rw [Gr,if_pos rfl]
 have lj:lk ((i,Jg.map t es)::L3) j=none:=by rw [Gr,if_neg hne]; exact hj
 have lo:∀ id,id≠i→id≠j→lk ((i,Jg.map t es)::L3) id=lk ((j,Jg.map t es)::L3) id:=fun id h1 h2=>by rw [Gr,if_neg (Ne.symm h1),Gr,if_neg (Ne.symm h2)]
 have bi:(upP β i (β.at_ j)).at_ i=β.at_ j:=by simp [upP]
 have bo:∀ id,id≠i→(upP β i (β.at_ j)).at_ id=β.at_ id:=fun id h=>by simp [upP,h]
 -- where what is called id lay before
 have old:∀ id o,lk ((i,Jg.map t es)::L3) id=some o→∃ id',lk ((j,Jg.map t es)::L3) id'=some o∧(upP β i (β.at_ j)).at_ id=β.at_ id'∧((id=i∧id'=j)∨(id≠i∧id≠j∧id'=id)):=fun id o ho=>by
  by_cases e:id=i
  ·subst e; rw [li] at ho; cases ho; exact⟨j,l1j,bi,.inl ⟨rfl,rfl⟩⟩
  ·have e2:id≠j:=fun e2=>by subst e2; rw [lj] at ho; cases ho
   exact⟨id,by rw [← lo id e e2]; exact ho,bo id e,.inr ⟨e,e2,rfl⟩⟩
 have stab:∀ b k,Jy w β ((j,Jg.map t es)::L3) b k→Jy w (upP β i (β.at_ j)) ((i,Jg.map t es)::L3) b k:=fun b k h=>⟨h.lt,h.seen,fun id o ho hb=>by
  obtain⟨id',h1,h2,_⟩:=old id o ho
  exact h.kept id' o h1 (by rw [← h2]; exact hb)⟩
 -- both names at once
 have stabB:∀ b k,Jy w β ((j,Jg.map t es)::L3) b k→Jy w (upP β i (β.at_ j)) ((i,Jg.map t es)::(j,Jg.map t es)::L3) b k:=fun b k h=>⟨h.lt,h.seen,fun id o ho hb=>by
  rw [Gr] at ho
  by_cases e:i=id
  ·subst e; rw [if_pos rfl] at ho; cases ho
   exact h.kept j _ l1j (by rw [← bi]; exact hb)
  ·rw [if_neg e] at ho
   exact h.kept id o ho (by rw [← bo id (Ne.symm e)]; exact hb)⟩
 have keep:∀ id o,lk ((j,Jg.map t es)::L3) id=some o→(upP β i (β.at_ j)).at_ id=β.at_ id∧lk ((i,Jg.map t es)::(j,Jg.map t es)::L3) id=some o:=fun id o ho=>by
  have e:id≠i:=fun e=>by subst e; rw [l1i] at ho; cases ho
  exact⟨bo id e,by rw [Gr,if_neg (Ne.symm e)]; exact ho⟩
 have stw:H8c w β ((j,Jg.map t es)::L3) w (upP β i (β.at_ j)) ((i,Jg.map t es)::(j,Jg.map t es)::L3):=⟨fun b k h=>⟨stabB b k h,rfl⟩,fun id _ cs h=>⟨(keep id _ h).1,cs,(keep id _ h).2⟩,fun id _ es h=>⟨(keep id _ h).1,es,(keep id _ h).2⟩,fun id _ n es h=>⟨(keep id _ h).1,n,es,(keep id _ h).2⟩,
  fun id _ _ ver xs h=>⟨ver,xs,(keep id _ h).2,Nat.le_refl _,fun _=>⟨rfl,(keep id _ h).1,fun b hb=>rfl⟩⟩,fun id _ _ ver hw h=>⟨ver,hw,(keep id _ h).2,Nat.le_refl _,fun _=>⟨rfl,(keep id _ h).1,fun b hb=>rfl⟩⟩⟩
 have dr:J32 ((i,Jg.map t es)::(j,Jg.map t es)::L3) ((i,Jg.map t es)::L3):=⟨fun id o ho=>⟨o,by
  rw [Gr] at ho ⊢
  by_cases e:i=id
  ·rw [if_pos e] at ho ⊢; exact ho
  ·rw [if_neg e] at ho ⊢
   rw [Gr,if_neg (fun e2=>by subst e2; rw [hj] at ho; cases ho)]; exact ho,by cases o <;> simp [Jg.like]⟩⟩
 have val:∀ {u v},V w β ((j,Jg.map t es)::L3) u v→u.refs (fun id=>(lk ((i,Jg.map t es)::L3) id).isSome)=true→V w (upP β i (β.at_ j)) ((i,Jg.map t es)::L3) u v:=fun h hr=>(h.stepW stw).drop dr hr
 have some1:∀ id,(lk ((i,Jg.map t es)::L3) id).isSome=true→∃ id',(lk ((j,Jg.map t es)::L3) id').isSome=true∧(upP β i (β.at_ j)).at_ id=β.at_ id'∧((id=i∧id'=j)∨(id≠i∧id≠j∧id'=id)):=fun id h=>by
  obtain⟨o,ho⟩:=Option.isSome_iff_exists.1 h
  obtain⟨id',h1,h2,h3⟩:=old id o ho
  exact⟨id',by rw [h1]; rfl,h2,h3⟩
 have base0:∀ id o,lk L0 id=some o→id≠i∧id≠j:=fun id o h=>by
  have:=hs.base id (by rw [h]; rfl)
  exact⟨fun e=>ib (e ▸ this),fun e=>jb (e ▸ this)⟩
 have st:=hs.step
 refine⟨⟨hs.sat.hid,fun id b h1 h2=>?_,fun id b k h1 h2=>?_,fun id id2 b h1 h2 h3 h4=>?_,fun id o ho=>?_⟩,
  ⟨st.os,st.tape,st.output,st.size,st.hid,fun b k h=>⟨stab b k (st.stab b k h).1,(st.stab b k h).2⟩,fun b hb hf=>⟨(st.far b hb hf).1,fun id h1 h2=>?_⟩,fun id t cs h=>?_,fun id t cs h=>?_,fun id m n es h=>?_,fun id t k ver xs h=>?_,fun id t k ver hw h=>?_⟩,⟨fun s=>?_⟩,hs.size,hs.base,⟨hs.defers.top,hs.defers.nodup,fun d hd=>?_⟩⟩
 ·obtain⟨id',g1,g2,_⟩:=some1 id h1
  exact hs.sat.bnd id' b g1 (g2.symm.trans h2)
 ·obtain⟨id',g1,g2,_⟩:=some1 id h1
  exact hs.sat.apart id' b k g1 (g2.symm.trans h2)
 ·obtain⟨id',g1,g2,g3⟩:=some1 id h1
  obtain⟨id2',k1,k2,k3⟩:=some1 id2 h2
  have:=hs.sat.inj id' id2' b g1 k1 (g2.symm.trans h3) (k2.symm.trans h4)
  rcases g3 with ⟨rfl,rfl⟩ | ⟨ga,gb,rfl⟩ <;> rcases k3 with ⟨rfl,rfl⟩ | ⟨ka,kb,rfl⟩
  ·rfl
  ·exact(kb this.symm).elim
  ·exact(gb this).elim
  ·exact this
 ·obtain⟨id',g1,g2,g3⟩:=old id o ho
  have h0:=hs.sat.obj id' o g1
  rw [g2]
  have h1:=h0.stepW stw (fun b hb=>rfl)
  refine h1.conv dr ?_
  rcases g3 with ⟨rfl,rfl⟩ | ⟨ga,gb,rfl⟩
  ·rw [li] at ho; cases ho; exact .map
  ·have h4:lk L3 id'=some o:=by rw [Gr,if_neg (Ne.symm ga)] at ho; exact ho
   obtain⟨o2,h5,h6⟩:=h3.get h4
   rw [h4] at h5; cases h5; exact h6
 ·obtain⟨id',g1,g2,_⟩:=some1 id h1
  exact(st.far b hb hf).2 id' g1 (g2.symm.trans h2)
 ·obtain⟨h1,cs',h2⟩:=st.box id t cs h
  obtain⟨n1,n2⟩:=base0 id _ h
  exact⟨(bo id n1).trans h1,cs',by rw [lo id n1 n2]; exact h2⟩
 ·obtain⟨h1,cs',h2⟩:=st.map id t cs h
  obtain⟨n1,n2⟩:=base0 id _ h
  exact⟨(bo id n1).trans h1,cs',by rw [lo id n1 n2]; exact h2⟩
 ·obtain⟨h1,n',es',h2⟩:=st.iter id m n es h
  obtain⟨n1,n2⟩:=base0 id _ h
  exact⟨(bo id n1).trans h1,n',es',by rw [lo id n1 n2]; exact h2⟩
 ·obtain⟨v1,xs1,h1,h2,h3⟩:=st.vec id t k ver xs h
  obtain⟨n1,n2⟩:=base0 id _ h
  exact⟨v1,xs1,by rw [lo id n1 n2]; exact h1,h2,fun e=>⟨(h3 e).1,(bo id n1).trans (h3 e).2.1,(h3 e).2.2⟩⟩
 ·obtain⟨v1,hw1,h1,h2,h3⟩:=st.spare id t k ver hw h
  obtain⟨n1,n2⟩:=base0 id _ h
  exact⟨v1,hw1,by rw [lo id n1 n2]; exact h1,h2,fun e=>⟨(h3 e).1,(bo id n1).trans (h3 e).2.1,(h3 e).2.2⟩⟩
 ·have hv:=hs.frame.tmp s
  rcases hl.get s with e | ⟨e1,e2⟩ | ⟨e1,e2⟩
  ·rw [e]; exact .junk
  ·rw [e2]; rw [e1] at hv
   generalize a.tmps.getD s undef=vv at hv ⊢
   cases hv with
   | data h=>cases h
   | mp h1 h2=>
    rw [l1j] at h1; cases h1
    exact .mp li (bi.trans h2)
  ·rw [e1] at hv; exact val hv e2
 ·obtain⟨D,h1,h2,h3,h4⟩:=hs.defers.each d hd
  refine⟨D,h1,h2,h3,fun id g1 g2=>?_⟩
  obtain⟨id',k1,k2,_⟩:=some1 id g1
  exact h4 id' k1 (k2.symm.trans g2)
end Go.Proofs.YtecjdioomlhhiaaGreat
