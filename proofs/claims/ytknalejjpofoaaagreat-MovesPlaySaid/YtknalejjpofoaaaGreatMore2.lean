/-
 More steps: cells of boxes that hold slices which the call may write in place.
-/
import Derived.Test.YtknalejjpofoaaaGreatRangeF
set_option linter.unusedSimpArgs false
namespace Go.Proofs.YtknalejjpofoaaaGreat
open Go.RowKit

theorem Rf.vecCell {N:G30} {w0 w:World} {β0 β:H2} {L0 L:Loc} {a:Act} {l:Fr} (hs:Rf N w0 β0 L0 a w β l L) (i j id E k:Nat) {t:TypeId} {cs cs':List AV} (hi:lk L i=some (.box t cs)) (hid:lk L id=none) (hj:cs[j]? = some (.sc (.slice none 0 0)))
  (hcs:cs.set j (.vec id 0 k 0)=cs'):∃ β',Rf N w0 β0 L0 a w β' l ((i,.box t cs')::(id,.vec E k 0 [])::L):=by
 obtain⟨st,sat⟩:=Yf (w':=w) (t:=E) (k:=k) (ver1:=0) (xs':=[]) (ob':=none) hs.sat (.inl hid) rfl rfl ⟨rfl,Nat.le_refl _⟩ (Nat.le_refl _) (fun _ _ _=>rfl) (.inl rfl)
 have h1:Rf N w0 β0 L0 a w (Q5 β id none) l ((id,.vec E k 0 [])::L):=⟨sat ⟨by simp,.inl ⟨rfl,rfl⟩⟩,hs.step.trans st,hs.frame.step st,hs.size,hs.base,hs.defers.step st⟩
 have hne:id≠i:=fun e=>by subst e; rw [hi] at hid; cases hid
 refine⟨_,h1.redescribe (i:=i) (t:=t) (cs:=cs) (by rw [Gm,if_neg hne]; exact hi) (by rw [← hcs]; simp) fun vs q u v hall hsz hu hv=>?_⟩
 rw [← hcs] at hu
 by_cases e:j=q
 ·subst e
  have hjl:j < cs.length:=(List.getElem?_eq_some_iff.1 hj).1
  simp [List.getElem?_set,hjl] at hu
  subst hu
  have:=hall j _ v hj hv
  rw [this.inv_sc]
  exact .vec ⟨E,0,[],(by rw [Gm,if_pos rfl]:lk ((id,Jf.vec E k 0 [])::L) id=_),Nat.le_refl _,fun _=>⟨rfl,.inl ⟨rfl,rfl,by rw [show (Q5 β id none).at_ id=none by simp [Q5]]⟩⟩⟩ rfl
 ·rw [List.getElem?_set_ne e] at hu
  exact hall q u v hu hv
theorem Qe5 {P:Program} {N:G30} {ops:Array Oper} {rest:List Oper} {Q:Post} {l:Fr} {L:Loc} (i j id E k:Nat) {t:TypeId} {cs cs':List AV} (hi:lk L i=some (.box t cs)) (hid:lk L id=none) (hj:cs[j]? = some (.sc (.slice none 0 0)))
  (hcs:cs.set j (.vec id 0 k 0)=cs') (hk:JL P N ops rest Q l ((i,.box t cs')::(id,.vec E k 0 [])::L)):JL P N ops rest Q l L:=
 fun n w0 β0 L0 a w β hs=>by
  obtain⟨β',h⟩:=hs.vecCell i j id E k hi hid hj hcs
  exact hk n w0 β0 L0 a w β' h

theorem A_store0 {P:Program} {o:Oper} {l:Fr} {L:Loc} {u:AV} {x y:Operand} {T i:Nat} {t:TypeId} (hT:R6 P T 0=true) (ho:o.op=.store T x y) (hu:ev l y=u) (hx:ev l x=.ptr i 0) (hi:lk L i=some (.box t []))
  (hc:u.flatOk=true) (hk:u.cells=[]):H1 P o l L (Is .junk ((i,.box t [])::L)):=by
 subst hu
 intro a w β K Q hsat hf hK
 have h1:=hf.ev x
 rw [hx] at h1
 obtain⟨b,hb,hax⟩:=h1.inv_ptr
 obtain⟨old,ho1,ho2,ho3⟩:=Hd7 hsat hi hb
 obtain⟨c1,c2,c3⟩:=(hf.ev y).cells hc
 rw [hk] at c1
 have hr:=H56 (P:=P) (off:=0) hT c1 c3 ho1 (by omega)
 unfold Oper.wp
 have hr':(execOp a.eval o).run P w=.ok .skip (w.setRow b (old.toList.take 0++(a.eval y).cells.toList++old.toList.drop (0+0)).toArray):=by
  simp [execOp,ho,hax,hr]
 rw [hr']
 have ho2':old.size=0:=by simpa using ho2
 have hcz:(a.eval y).cells.size=0:=by simpa using c1
 refine hK _ _ _ _ β ⟨rfl,rfl⟩ (hsat.set hi hb ho1 _ ?_ ?_) (Step.set hsat hi hb _) .junk
 ·simp [hcz,ho2']
 ·intro j u v hu hv
  simp at hu

theorem Jn.ver {P:Program} {f:FuncId} {args:List AV} {i t k n:Nat} {xs:List AV} (h:Jn P f args [] (fun u L'=>∃ p:Nat,u=.vec i p k n∧L'=[(i,.vec t k p xs)])) (q:Nat):Jn P f args [] (fun u L'=>u=.vec i q k n∧L'=[(i,.vec t k q xs)]):=by
 intro w β vs hsat hl hv
 refine(h w β vs hsat hl hv).mono fun e w' hr=>?_
 obtain⟨v,r,β',L',rfl,hs,st,hvr,p,rfl,rfl⟩:=hr
 have hlk:∀ id,(lk [(i,Jf.vec t k p xs)] id).isSome=(lk [(i,Jf.vec t k q xs)] id).isSome:=fun id=>by
  rw [Gm,Gm]; split <;> rfl
 have hstab:∀ b j,Jv w' β' [(i,Jf.vec t k p xs)] b j→Jv w' β' [(i,Jf.vec t k q xs)] b j:=fun b j h=>⟨h.lt,h.seen,fun id o ho hb=>by
  rw [Gm] at ho
  by_cases e:i=id
  ·subst e
   rw [if_pos rfl] at ho; cases ho
   exact(show False from h.kept i (.vec t k p xs) (by rw [Gm,if_pos rfl]) hb).elim
  ·rw [if_neg e] at ho; cases ho⟩
 refine⟨v,_,β',_,rfl,⟨hs.hid,fun id b h1=>hs.bnd id b (by rw [hlk]; exact h1),fun id b j h1=>hs.apart id b j (by rw [hlk]; exact h1),fun id id' b h1 h2=>hs.inj id id' b (by rw [hlk]; exact h1) (by rw [hlk]; exact h2),fun id o ho=>?_⟩,
  ⟨st.os,st.tape,st.output,st.size,st.hid,fun b j h=>⟨hstab b j (st.stab b j h).1,(st.stab b j h).2⟩,fun b hb hf=>⟨(st.far b hb hf).1,fun id hid=>(st.far b hb hf).2 id (by rw [hlk]; exact hid)⟩,fun id t cs h=>by simp [lk] at h,fun id t cs h=>by simp [lk] at h,fun id t n cs h=>by simp [lk] at h,fun id t k ver xs h=>by simp [lk] at h,fun id t k ver xs h=>by simp [lk] at h⟩,?_,rfl,rfl⟩
 ·rw [Gm] at ho
  by_cases e:i=id
  ·subst e
   rw [if_pos rfl] at ho; cases ho
   have h0:=hs.obj i _ (by rw [Gm,if_pos rfl])
   refine⟨h0.1,h0.2.imp_right ?_⟩
   rintro⟨b,hb,vs,a1,a2,a3⟩
   exact⟨b,hb,vs,a1,a2,fun j u v hu hv=>(a3 j u v hu hv).mono fun b i hs=>⟨hstab b i hs,rfl⟩⟩
  ·rw [if_neg e] at ho; cases ho
 ·cases hvr with
  | data h=>cases h
  | vec hp hone=>
   obtain⟨t',ver',xs',h1,_,h3⟩:=hp
   rw [Gm,if_pos rfl] at h1; cases h1
   exact .vec ⟨t,q,xs,by rw [Gm,if_pos rfl],Nat.le_refl _,fun _=>h3 rfl⟩ hone
theorem Jn.data0 {P:Program} {f:FuncId} {args:List AV} {i E k n:Nat} {xs:List AV} (h:Jn P f args [] (fun av L'=>∃ p,av=.vec i p k n∧L'=[(i,.vec E k p xs)])):Pure P f args (·=.list k xs):=by
 intro w β vs hsat hl hv
 refine(h w β vs hsat hl hv).mono fun e w' hh=>?_
 obtain⟨v,r,β',L',rfl,hs,st,hvr,p,rfl,rfl⟩:=hh
 have hd:V w' β' [] (.list k xs) v:=V.vfreeze hs (by rw [Gm,if_pos rfl]) ⟨fun id o h=>by simp [lk] at h⟩ rfl hvr
 refine⟨v,_,β',[],rfl,⟨hs.hid,fun id b h=>by simp [lk] at h,fun id b j h=>by simp [lk] at h,fun id id' b h=>by simp [lk] at h,fun id o h=>by simp [lk] at h⟩,
  ⟨st.os,st.tape,st.output,st.size,st.hid,fun b j hb=>⟨⟨(st.stab b j hb).1.lt,(st.stab b j hb).1.seen,fun id o h=>by simp [lk] at h⟩,(st.stab b j hb).2⟩,fun b hb hf=>⟨(st.far b hb hf).1,fun id h=>by simp [lk] at h⟩,fun id t cs h=>by simp [lk] at h,fun id t cs h=>by simp [lk] at h,fun id m n es h=>by simp [lk] at h,fun id t k ver xs h=>by simp [lk] at h,fun id t k ver hw h=>by simp [lk] at h⟩,hd,rfl,rfl⟩

def G97 (l:Fr):List Operand→List AV→Prop
 | [],[]=>True
 | x::r,u::s=>((ev l x).plain=u∨∃ k,u=.list k []∧ev l x=.sc (.slice none 0 0))∧u.isData=true∧G97 l r s
 | _,_=>False
theorem G97.length {l:Fr}:∀ {xs:List Operand} {us:List AV},G97 l xs us→xs.length=us.length
 | [],[],_=>rfl
 | _::_,_::_,h=>by simp [G97.length h.2.2]
 | [],_::_,h=>h.elim
 | _::_,[],h=>h.elim
theorem G97.get {l:Fr}:∀ {xs:List Operand} {us:List AV},G97 l xs us→∀ {j:Nat} {x:Operand} {u:AV},xs[j]? = some x→us[j]? = some u→((ev l x).plain=u∨∃ k,u=.list k []∧ev l x=.sc (.slice none 0 0))∧u.isData=true
 | x::r,u::s,h,j,x',u',hx,hu=>by
  cases j with
  | zero=>simp at hx hu; subst hx; subst hu; exact⟨h.1,h.2.1⟩
  | succ j=>simp at hx hu; exact h.2.2.get hx hu
 | [],[],_,j,_,_,hx,_=>by simp at hx
 | [],_::_,h,_,_,_,_,_=>h.elim
 | _::_,[],h,_,_,_,_,_=>h.elim
/-! ### A variable of a map's type is set anew: the new map takes the old one's name -/
theorem Gaa.conv {w:World} {β:H2} {L L':Loc} {ob:Option Nat} {o o':Jf} (hd:J3b L L') (hc:Gb1 (fun i=>(lk L' i).isSome) o o') (h0:Gaa w β L ob o):Gaa w β L' ob o':=by
 cases hc with
 | same=>exact h0
 | map=>
  obtain⟨b,h1,ents,h2,h3,h4⟩:=h0
  exact⟨b,h1,ents,h2,h3,fun i e k u he hu=>⟨(h4 i e k u he hu).1,(h4 i e k u he hu).2.1.mono fun b i hs=>⟨hd.stab hs,rfl⟩,(h4 i e k u he hu).2.2⟩⟩
 | vec=>
  obtain⟨h00,h0⟩:=h0
  refine⟨h00,?_⟩
  rcases h0 with h0 | ⟨b,h1,vs,h2,h3,h4⟩
  ·exact .inl h0
  ·exact .inr ⟨b,h1,vs,h2,h3,fun j u v hu hv=>(h4 j u v hu hv).mono fun b i hs=>⟨hd.stab hs,rfl⟩⟩
 | iter hm=>
  obtain⟨b,h1,bm,t,es,h2,h3,h4⟩:=h0
  obtain⟨o',ho'⟩:=Option.isSome_iff_exists.1 hm
  obtain⟨o2,ho2,hl⟩:=hd.like _ o' ho'
  rw [h2] at ho2; cases ho2
  cases o' <;> simp [Jf.like] at hl
  subst hl
  exact⟨b,h1,bm,_,_,ho',h3,h4⟩
 | box hl hc=>
  obtain⟨b,h1,vs,h2,h3,h4⟩:=h0
  refine⟨b,h1,vs,h2,h3.trans hl,fun j u' v hu' hv=>?_⟩
  rename_i cs cs'
  have hj:j < cs.length:=by
   rcases Nat.lt_or_ge j cs'.length with h | h
   ·omega
   ·simp [List.getElem?_eq_none h] at hu'
  exact(h4 j cs[j] v (by simp [hj]) hv).conv hd (hc j _ _ (by simp [hj]) hu')

def RenF (i j:Nat) (ok:Nat→Bool) (l:Fr):Fr→Prop
 | []=>True
 | (s,u)::r=>((look l s=.mp j∧u=.mp i)∨(look l s=u∧u.refs ok=true))∧RenF i j ok l r
theorem RenF.get {i j:Nat} {ok:Nat→Bool} {l:Fr}:∀ {l':Fr},RenF i j ok l l'→∀ t,look l' t=.junk∨(look l t=.mp j∧look l' t=.mp i)∨(look l t=look l' t∧(look l' t).refs ok=true)
 | [],_,t=>.inl (by simp [look])
 | (s,u)::r,h,t=>by
  by_cases e:s=t
  ·subst e
   have e1:look ((s,u)::r) s=u:=by simp [look]
   rw [e1]; exact .inr h.1
  ·have hb:Nat.beq s t=false:=by
    cases hb:Nat.beq s t with
    | false=>rfl
    | true=>exact absurd (Nat.eq_of_beq_eq_true hb) e
   have e1:look ((s,u)::r) t=look r t:=by simp [look,hb]
   rw [e1]; exact RenF.get h.2 t

theorem Rf.rename {N:G30} {w0 w:World} {β0 β:H2} {L0 L3:Loc} {a:Act} {l l':Fr} {i j t:Nat} {es:List (Value×AV)} (hs:Rf N w0 β0 L0 a w β l ((j,.map t es)::L3)) (hi:lk L3 i=none) (hj:lk L3 j=none) (hij:Nat.beq i j=false)
  (hib:N.base.contains i=false) (hjb:N.base.contains j=false) (h3:Gd1 (fun id=>(lk ((i,Jf.map t es)::L3) id).isSome) L3 L3) (hl:RenF i j (fun id=>(lk ((i,Jf.map t es)::L3) id).isSome) l l') :
  Rf N w0 β0 L0 a w (Q5 β i (β.at_ j)) l' ((i,.map t es)::L3):=by
 have hne:i≠j:=fun e=>by subst e; simp at hij
 have ib:i ∉ N.base:=fun h=>by simp [List.contains_iff_mem,h] at hib
 have jb:j ∉ N.base:=fun h=>by simp [List.contains_iff_mem,h] at hjb
 have l1i:lk ((j,Jf.map t es)::L3) i=none:=by rw [Gm,if_neg (Ne.symm hne)]; exact hi
 have l1j:lk ((j,Jf.map t es)::L3) j=some (.map t es):=by rw [Gm,if_pos rfl]
 have li:lk ((i,Jf.map t es)::L3) i=some (.map t es):=by rw [Gm,if_pos rfl]
 have lj:lk ((i,Jf.map t es)::L3) j=none:=by rw [Gm,if_neg hne]; exact hj
 have lo:∀ id,id≠i→id≠j→lk ((i,Jf.map t es)::L3) id=lk ((j,Jf.map t es)::L3) id:=fun id h1 h2=>by rw [Gm,if_neg (Ne.symm h1),Gm,if_neg (Ne.symm h2)]
 have bi:(Q5 β i (β.at_ j)).at_ i=β.at_ j:=by simp [Q5]
 have bo:∀ id,id≠i→(Q5 β i (β.at_ j)).at_ id=β.at_ id:=fun id h=>by simp [Q5,h]
 -- where what is called id lay before
 have old:∀ id o,lk ((i,Jf.map t es)::L3) id=some o→∃ id',lk ((j,Jf.map t es)::L3) id'=some o∧(Q5 β i (β.at_ j)).at_ id=β.at_ id'∧((id=i∧id'=j)∨(id≠i∧id≠j∧id'=id)):=fun id o ho=>by
  by_cases e:id=i
  ·subst e; rw [li] at ho; cases ho; exact⟨j,l1j,bi,.inl ⟨rfl,rfl⟩⟩
  ·have e2:id≠j:=fun e2=>by subst e2; rw [lj] at ho; cases ho
   exact⟨id,by rw [← lo id e e2]; exact ho,bo id e,.inr ⟨e,e2,rfl⟩⟩
 have stab:∀ b k,Jv w β ((j,Jf.map t es)::L3) b k→Jv w (Q5 β i (β.at_ j)) ((i,Jf.map t es)::L3) b k:=fun b k h=>⟨h.lt,h.seen,fun id o ho hb=>by
  obtain⟨id',h1,h2,_⟩:=old id o ho
  exact h.kept id' o h1 (by rw [← h2]; exact hb)⟩
 -- both names at once
 have stabB:∀ b k,Jv w β ((j,Jf.map t es)::L3) b k→Jv w (Q5 β i (β.at_ j)) ((i,Jf.map t es)::(j,Jf.map t es)::L3) b k:=fun b k h=>⟨h.lt,h.seen,fun id o ho hb=>by
  rw [Gm] at ho
  by_cases e:i=id
  ·subst e; rw [if_pos rfl] at ho; cases ho
   exact h.kept j _ l1j (by rw [← bi]; exact hb)
  ·rw [if_neg e] at ho
   exact h.kept id o ho (by rw [← bo id (Ne.symm e)]; exact hb)⟩
 have keep:∀ id o,lk ((j,Jf.map t es)::L3) id=some o→(Q5 β i (β.at_ j)).at_ id=β.at_ id∧lk ((i,Jf.map t es)::(j,Jf.map t es)::L3) id=some o:=fun id o ho=>by
  have e:id≠i:=fun e=>by subst e; rw [l1i] at ho; cases ho
  exact⟨bo id e,by rw [Gm,if_neg (Ne.symm e)]; exact ho⟩
 have stw:H82 w β ((j,Jf.map t es)::L3) w (Q5 β i (β.at_ j)) ((i,Jf.map t es)::(j,Jf.map t es)::L3):=⟨fun b k h=>⟨stabB b k h,rfl⟩,fun id _ cs h=>⟨(keep id _ h).1,cs,(keep id _ h).2⟩,fun id _ es h=>⟨(keep id _ h).1,es,(keep id _ h).2⟩,fun id _ n es h=>⟨(keep id _ h).1,n,es,(keep id _ h).2⟩,
  fun id _ _ ver xs h=>⟨ver,xs,(keep id _ h).2,Nat.le_refl _,fun _=>⟨rfl,(keep id _ h).1,fun b hb=>rfl⟩⟩,fun id _ _ ver hw h=>⟨ver,hw,(keep id _ h).2,Nat.le_refl _,fun _=>⟨rfl,(keep id _ h).1,fun b hb=>rfl⟩⟩⟩
 have dr:J3b ((i,Jf.map t es)::(j,Jf.map t es)::L3) ((i,Jf.map t es)::L3):=⟨fun id o ho=>⟨o,by
  rw [Gm] at ho ⊢
  by_cases e:i=id
  ·rw [if_pos e] at ho ⊢; exact ho
  ·rw [if_neg e] at ho ⊢
   rw [Gm,if_neg (fun e2=>by subst e2; rw [hj] at ho; cases ho)]; exact ho,by cases o <;> simp [Jf.like]⟩⟩
 have val:∀ {u v},V w β ((j,Jf.map t es)::L3) u v→u.refs (fun id=>(lk ((i,Jf.map t es)::L3) id).isSome)=true→V w (Q5 β i (β.at_ j)) ((i,Jf.map t es)::L3) u v:=fun h hr=>(h.stepW stw).drop dr hr
 have some1:∀ id,(lk ((i,Jf.map t es)::L3) id).isSome=true→∃ id',(lk ((j,Jf.map t es)::L3) id').isSome=true∧(Q5 β i (β.at_ j)).at_ id=β.at_ id'∧((id=i∧id'=j)∨(id≠i∧id≠j∧id'=id)):=fun id h=>by
  obtain⟨o,ho⟩:=Option.isSome_iff_exists.1 h
  obtain⟨id',h1,h2,h3⟩:=old id o ho
  exact⟨id',by rw [h1]; rfl,h2,h3⟩
 have base0:∀ id o,lk L0 id=some o→id≠i∧id≠j:=fun id o h=>by
  have:=hs.base id (by rw [h]; rfl)
  exact⟨fun e=>ib (e ▸ this),fun e=>jb (e ▸ this)⟩
 have st:=hs.step
 refine⟨⟨hs.sat.hid,fun id b h1 h2=>?_,fun id b k h1 h2=>?_,fun id id2 b h1 h2 h3 h4=>?_,fun id o ho=>?_⟩,
  ⟨st.os,st.tape,st.output,st.size,st.hid,fun b k h=>⟨stab b k (st.stab b k h).1,(st.stab b k h).2⟩,fun b hb hf=>⟨(st.far b hb hf).1,fun id h1 h2=>?_⟩,fun id t cs h=>?_,fun id t cs h=>?_,fun id m n es h=>?_,fun id t k ver xs h=>?_,fun id t k ver hw h=>?_⟩,⟨fun s=>?_⟩,hs.size,hs.base,⟨hs.defers.top,hs.defers.nodup,fun d hd=>?_⟩⟩
 ·obtain⟨id',g1,g2,_⟩:=some1 id h1
  exact hs.sat.bnd id' b g1 (g2.symm.trans h2)
 ·obtain⟨id',g1,g2,_⟩:=some1 id h1
  exact hs.sat.apart id' b k g1 (g2.symm.trans h2)
 ·obtain⟨id',g1,g2,g3⟩:=some1 id h1
  obtain⟨id2',k1,k2,k3⟩:=some1 id2 h2
  have:=hs.sat.inj id' id2' b g1 k1 (g2.symm.trans h3) (k2.symm.trans h4)
  rcases g3 with ⟨rfl,rfl⟩ | ⟨ga,gb,rfl⟩ <;> rcases k3 with ⟨rfl,rfl⟩ | ⟨ka,kb,rfl⟩
  ·rfl
  ·exact(kb this.symm).elim
  ·exact(gb this).elim
  ·exact this
 ·obtain⟨id',g1,g2,g3⟩:=old id o ho
  have h0:=hs.sat.obj id' o g1
  rw [g2]
  have h1:=h0.stepW stw (fun b hb=>rfl)
  refine h1.conv dr ?_
  rcases g3 with ⟨rfl,rfl⟩ | ⟨ga,gb,rfl⟩
  ·rw [li] at ho; cases ho; exact .map
  ·have h4:lk L3 id'=some o:=by rw [Gm,if_neg (Ne.symm ga)] at ho; exact ho
   obtain⟨o2,h5,h6⟩:=h3.get h4
   rw [h4] at h5; cases h5; exact h6
 ·obtain⟨id',g1,g2,_⟩:=some1 id h1
  exact(st.far b hb hf).2 id' g1 (g2.symm.trans h2)
 ·obtain⟨h1,cs',h2⟩:=st.box id t cs h
  obtain⟨n1,n2⟩:=base0 id _ h
  exact⟨(bo id n1).trans h1,cs',by rw [lo id n1 n2]; exact h2⟩
 ·obtain⟨h1,cs',h2⟩:=st.map id t cs h
  obtain⟨n1,n2⟩:=base0 id _ h
  exact⟨(bo id n1).trans h1,cs',by rw [lo id n1 n2]; exact h2⟩
 ·obtain⟨h1,n',es',h2⟩:=st.iter id m n es h
  obtain⟨n1,n2⟩:=base0 id _ h
  exact⟨(bo id n1).trans h1,n',es',by rw [lo id n1 n2]; exact h2⟩
 ·obtain⟨v1,xs1,h1,h2,h3⟩:=st.vec id t k ver xs h
  obtain⟨n1,n2⟩:=base0 id _ h
  exact⟨v1,xs1,by rw [lo id n1 n2]; exact h1,h2,fun e=>⟨(h3 e).1,(bo id n1).trans (h3 e).2.1,(h3 e).2.2⟩⟩
 ·obtain⟨v1,hw1,h1,h2,h3⟩:=st.spare id t k ver hw h
  obtain⟨n1,n2⟩:=base0 id _ h
  exact⟨v1,hw1,by rw [lo id n1 n2]; exact h1,h2,fun e=>⟨(h3 e).1,(bo id n1).trans (h3 e).2.1,(h3 e).2.2⟩⟩
 ·have hv:=hs.frame.tmp s
  rcases hl.get s with e | ⟨e1,e2⟩ | ⟨e1,e2⟩
  ·rw [e]; exact .junk
  ·rw [e2]; rw [e1] at hv
   generalize a.tmps.getD s undef=vv at hv ⊢
   cases hv with
   | data h=>cases h
   | mp h1 h2=>
    rw [l1j] at h1; cases h1
    exact .mp li (bi.trans h2)
  ·rw [e1] at hv; exact val hv e2
 ·obtain⟨D,h1,h2,h3,h4⟩:=hs.defers.each d hd
  refine⟨D,h1,h2,h3,fun id g1 g2=>?_⟩
  obtain⟨id',k1,k2,_⟩:=some1 id g1
  exact h4 id' k1 (k2.symm.trans g2)
theorem JL_rename {P:Program} {N:G30} {ops:Array Oper} {rest:List Oper} {Q:Post} {l:Fr} {L:Loc} (i j:Nat) (o:Jf) (l1 l':Fr) (L3:Loc) (ho:∃ t es,o=.map t es) (h1:Fits N.base l L l1 ((j,o)::L3)) (hi:lk L3 i=none) (hj:lk L3 j=none) (hij:Nat.beq i j=false)
  (hib:N.base.contains i=false) (hjb:N.base.contains j=false) (h3:Gd1 (fun id=>(lk ((i,o)::L3) id).isSome) L3 L3) (hl:RenF i j (fun id=>(lk ((i,o)::L3) id).isSome) l1 l')
  (hk:JL P N ops rest Q l' ((i,o)::L3)):JL P N ops rest Q l L:=fun n w0 β0 L0 a w β hs=>by
 obtain⟨t,es,rfl⟩:=ho
 exact hk n w0 β0 L0 a w _ ((hs.fits h1).rename hi hj hij hib hjb h3 hl)

theorem A_makeD {P:Program} {o:Oper} {l:Fr} {L:Loc} {x y:Operand} {T E k by_ n:Nat} {kd kd':IntKind} {nx ny:Int} (zs:List Value) (ho:o.op=.makeSlice T x y) (hx:ev l x=.sc (.int kd nx)) (hy:ev l y=.sc (.int kd' ny))
  (hT:sliceB P T E k=true) (hE:Y2 P E k by_=true) (hz:(P.info? E).bind (fun i=>i.zero.map Value.cells)=some zs.toArray) (hn:nx=(n:Int)) (hm:ny=(n:Int)) (hb:decide (by_*n≤281474976710656∧n≤maxLen∧n*k≤16777216)=true)
  (z:AV) (hzz:∀ (w:World) (S:Nat→Nat→Prop) (j:Nat) a b,z.cells[j]? = some a→zs[j]? = some b→D w S a b) (hzk:z.cells.length=k) :
  H1 P o l L (Is (.list k (List.replicate n z)) L):=by
 subst hn hm
 intro a w β K Q hsat hf hK
 have hb':=of_decide_eq_true hb
 obtain⟨inf,zv,e1,e2,e3,e4,e5,e6⟩:=Y2.out hE
 have hvx:=hf.ev x
 rw [hx] at hvx
 have hvy:=hf.ev y
 rw [hy] at hvy
 have h63':(n:Int)≤9223372036854775807:=by
  have h:=hb'.2.1
  simp [maxLen] at h
  omega
 have hb2:(inf.bytes:Int)*(n:Int)≤281474976710656:=by
  have h:((inf.bytes*n:Nat):Int)≤281474976710656:=by rw [e3]; have:=hb'.1; omega
  rwa [Int.natCast_mul] at h
 have hr:=run_make (P:=P) w T E inf zv (sliceB.out hT).1 e1 e4 kd kd' n n (by omega) (Int.le_refl _) hb2 h63'
 simp only [Int.toNat_natCast] at hr
 have hrun:(execOp a.eval o).run P w=.ok (.value (.slice (some ⟨w.heap.size,0,none⟩) n n)) (w.alloc (.cells (madeCells zv.cells (n*inf.size)) E)):=by
  simp [execOp,ho,hvx.inv_sc,hvy.inv_sc,hr]
 unfold Oper.wp
 rw [hrun]
 have hzs:zv.cells=zs.toArray:=by
  rw [e1] at hz
  simp [e4] at hz
  exact hz
 have hkl0:∀ x∈List.replicate n z,x.cells.length=k:=fun y hy=>by rw [List.eq_of_mem_replicate hy]; exact hzk
 have hd:=D.newRow (E:=E) (vs:=madeCells zv.cells (n*inf.size)) hsat hkl0 (by rw [List.length_replicate]; exact hb'.2.1) (by rw [Jc hkl0,List.length_replicate,size_madeCells,e2]) (fun j u v hu hv=>by
  rw [e2] at hv
  -- the cells
  have hkl:∀ x∈List.replicate n z,x.cells.length=k:=fun y hy=>by rw [List.eq_of_mem_replicate hy]; exact hzk
  have hj:j < n*k:=by
   have:=(List.getElem?_eq_some_iff.1 hu).1
   rw [Jc hkl] at this
   simpa using this
  have hdm:j=j / k*k+j % k:=by rw [Nat.mul_comm]; exact(Nat.div_add_mod j k).symm
  have hq:j / k < n:=Nat.div_lt_of_lt_mul (by rw [Nat.mul_comm]; exact hj)
  have hzi:(List.replicate n z)[j / k]? = some z:=by simp [hq]
  rw [hdm,G8c hkl hzi (Nat.mod_lt _ e6)] at hu
  have hzsl:zs.length=k:=by
   have:=e5
   rw [hzs] at this
   simpa using this
  refine hzz _ _ (j % k) u v hu ?_
  rw [madeCells] at hv
  simp [hj] at hv
  rw [← hv,hzs]
  have hmk:j % k < zs.length:=by rw [hzsl]; exact Nat.mod_lt _ e6
  simp [hzsl,hmk]
  rw [List.getElem?_eq_getElem hmk]; rfl)
 rw [List.length_replicate] at hd
 exact hK _ _ _ _ β ⟨rfl,rfl⟩ (hsat.new _) (Step.new hsat _) (.data hd)
theorem A_makeDM {P:Program} {o:Oper} {l:Fr} {L:Loc} {x y:Operand} {T E k by_ n:Nat} {kd kd':IntKind} {nx ny:Int} {α:Type} {f:α→AV} (z:α) (zs:List Value) (ho:o.op=.makeSlice T x y) (hx:ev l x=.sc (.int kd nx)) (hy:ev l y=.sc (.int kd' ny))
  (hT:sliceB P T E k=true) (hE:Y2 P E k by_=true) (hz:(P.info? E).bind (fun i=>i.zero.map Value.cells)=some zs.toArray) (hn:nx=(n:Int)) (hm:ny=(n:Int)) (hb:decide (by_*n≤281474976710656∧n≤maxLen∧n*k≤16777216)=true)
  (hzz:ZOk (f z).cells zs) (hzk:(f z).cells.length=k):H1 P o l L (Is (.list k ((List.replicate n z).map f)) L):=by
 have h:=A_makeD (P:=P) (T:=T) (E:=E) (L:=L) zs ho hx hy hT hE hz hn hm hb (f z) (fun w S j a b ha hb'=>by
  have:=ZOk.get (w:=w) (β:=⟨fun _=>none,fun b i=>¬ S b i⟩) (L:=[]) hzz j a b ha hb'
  refine(this.data_of_nil).mono fun b i hs=>⟨Classical.byContradiction fun hn=>hs.seen hn,rfl⟩) hzk
 simpa only [List.map_replicate] using h
end Go.Proofs.YtknalejjpofoaaaGreat
