/-
 More steps: cells of boxes that hold slices which the call may write in place. Slices that begin as an empty literal and are appended to; appends of whole lists to an own slice; the least of three numbers.
-/
import Derived.Test.YtidpfkmbfgihlaaGreatRangeF
set_option linter.unusedSimpArgs false
namespace Go.Proofs.YtidpfkmbfgihlaaGreat
open Go.RowKit

theorem Ri.vecCell {N:Cfg} {w0 w:World} {β0 β:H4} {L0 L:Loc} {a:Act} {l:Fr} (hs:Ri N w0 β0 L0 a w β l L) (i j id E k:Nat) {t:TypeId} {cs cs':List AV} (hi:lk L i=some (.box t cs)) (hid:lk L id=none) (hj:cs[j]? = some (.sc (.slice none 0 0)))
  (hcs:cs.set j (.vec id 0 k 0)=cs'):∃ β',Ri N w0 β0 L0 a w β' l ((i,.box t cs')::(id,.vec E k 0 [])::L):=by
 obtain⟨st,sat⟩:=Ru (w':=w) (t:=E) (k:=k) (ver1:=0) (xs':=[]) (ob':=none) hs.sat (.inl hid) rfl rfl ⟨rfl,Nat.le_refl _⟩ (Nat.le_refl _) (fun _ _ _=>rfl) (.inl rfl)
 have h1:Ri N w0 β0 L0 a w (upP β id none) l ((id,.vec E k 0 [])::L):=⟨sat ⟨by simp,.inl ⟨rfl,rfl⟩⟩,hs.step.trans st,hs.frame.step st,hs.size,hs.base,hs.defers.step st⟩
 have hne:id≠i:=fun e=>by subst e; rw [hi] at hid; cases hid
 refine⟨_,h1.redescribe (i:=i) (t:=t) (cs:=cs) (by rw [Gh,if_neg hne]; exact hi) (by rw [← hcs]; simp) fun vs q u v hall hsz hu hv=>?_⟩
 rw [← hcs] at hu
 by_cases e:j=q
 ·subst e
  have hjl:j < cs.length:=(List.getElem?_eq_some_iff.1 hj).1
  simp [List.getElem?_set,hjl] at hu
  subst hu
  have:=hall j _ v hj hv
  rw [this.inv_sc]
  exact .vec ⟨E,0,[],(by rw [Gh,if_pos rfl]:lk ((id,Jh.vec E k 0 [])::L) id=_),Nat.le_refl _,fun _=>⟨rfl,.inl ⟨rfl,rfl,by rw [show (upP β id none).at_ id=none by simp [upP]]⟩⟩⟩ rfl
 ·rw [List.getElem?_set_ne e] at hu
  exact hall q u v hu hv
theorem Y01 {P:Program} {N:Cfg} {ops:Array Oper} {rest:List Oper} {Q:Post} {l:Fr} {L:Loc} (i j id E k:Nat) {t:TypeId} {cs cs':List AV} (hi:lk L i=some (.box t cs)) (hid:lk L id=none) (hj:cs[j]? = some (.sc (.slice none 0 0)))
  (hcs:cs.set j (.vec id 0 k 0)=cs') (hk:JL P N ops rest Q l ((i,.box t cs')::(id,.vec E k 0 [])::L)):JL P N ops rest Q l L:=
 fun n w0 β0 L0 a w β hs=>by
  obtain⟨β',h⟩:=hs.vecCell i j id E k hi hid hj hcs
  exact hk n w0 β0 L0 a w β' h

theorem Jg.ver {P:Program} {f:FuncId} {args:List AV} {i t k n:Nat} {xs:List AV} (h:Jg P f args [] (fun u L'=>∃ p:Nat,u=.vec i p k n∧L'=[(i,.vec t k p xs)])) (q:Nat):Jg P f args [] (fun u L'=>u=.vec i q k n∧L'=[(i,.vec t k q xs)]):=by
 intro w β vs hsat hl hv
 refine(h w β vs hsat hl hv).mono fun e w' hr=>?_
 obtain⟨v,r,β',L',rfl,hs,st,hvr,p,rfl,rfl⟩:=hr
 have hlk:∀ id,(lk [(i,Jh.vec t k p xs)] id).isSome=(lk [(i,Jh.vec t k q xs)] id).isSome:=fun id=>by
  rw [Gh,Gh]; split <;> rfl
 have hstab:∀ b j,Jt w' β' [(i,Jh.vec t k p xs)] b j→Jt w' β' [(i,Jh.vec t k q xs)] b j:=fun b j h=>⟨h.lt,h.seen,fun id o ho hb=>by
  rw [Gh] at ho
  by_cases e:i=id
  ·subst e
   rw [if_pos rfl] at ho; cases ho
   exact(show False from h.kept i (.vec t k p xs) (by rw [Gh,if_pos rfl]) hb).elim
  ·rw [if_neg e] at ho; cases ho⟩
 refine⟨v,_,β',_,rfl,⟨hs.hid,fun id b h1=>hs.bnd id b (by rw [hlk]; exact h1),fun id b j h1=>hs.apart id b j (by rw [hlk]; exact h1),fun id id' b h1 h2=>hs.inj id id' b (by rw [hlk]; exact h1) (by rw [hlk]; exact h2),fun id o ho=>?_⟩,
  ⟨st.os,st.tape,st.output,st.size,st.hid,fun b j h=>⟨hstab b j (st.stab b j h).1,(st.stab b j h).2⟩,fun b hb hf=>⟨(st.far b hb hf).1,fun id hid=>(st.far b hb hf).2 id (by rw [hlk]; exact hid)⟩,fun id t cs h=>by simp [lk] at h,fun id t cs h=>by simp [lk] at h,fun id t n cs h=>by simp [lk] at h,fun id t k ver xs h=>by simp [lk] at h,fun id t k ver xs h=>by simp [lk] at h⟩,?_,rfl,rfl⟩
 ·rw [Gh] at ho
  by_cases e:i=id
  ·subst e
   rw [if_pos rfl] at ho; cases ho
   have h0:=hs.obj i _ (by rw [Gh,if_pos rfl])
   refine⟨h0.1,h0.2.imp_right ?_⟩
   rintro⟨b,hb,vs,a1,a2,a3⟩
   exact⟨b,hb,vs,a1,a2,fun j u v hu hv=>(a3 j u v hu hv).mono fun b i hs=>⟨hstab b i hs,rfl⟩⟩
  ·rw [if_neg e] at ho; cases ho
 ·cases hvr with
  | data h=>cases h
  | vec hp hone=>
   obtain⟨t',ver',xs',h1,_,h3⟩:=hp
   rw [Gh,if_pos rfl] at h1; cases h1
   exact .vec ⟨t,q,xs,by rw [Gh,if_pos rfl],Nat.le_refl _,fun _=>h3 rfl⟩ hone
theorem Jg.fresh0 {P:Program} {f:FuncId} {args:List AV} {i E k n:Nat} {xs:List AV} (h:Jg P f args [] (fun av L'=>∃ p,av=.vec i p k n∧L'=[(i,.vec E k p xs)])):Jg P f args [] (fun av L'=>av=.vec i 0 k n∧L'=[(i,.vec E k 0 xs)]):=h.ver 0

def Gca (l:Fr):List Operand→List AV→Prop
 | [],[]=>True
 | x::r,u::s=>((ev l x).plain=u∨∃ k,u=.list k []∧ev l x=.sc (.slice none 0 0))∧u.isData=true∧Gca l r s
 | _,_=>False
theorem Gca.length {l:Fr}:∀ {xs:List Operand} {us:List AV},Gca l xs us→xs.length=us.length
 | [],[],_=>rfl
 | _::_,_::_,h=>by simp [Gca.length h.2.2]
 | [],_::_,h=>h.elim
 | _::_,[],h=>h.elim
theorem Gca.get {l:Fr}:∀ {xs:List Operand} {us:List AV},Gca l xs us→∀ {j:Nat} {x:Operand} {u:AV},xs[j]? = some x→us[j]? = some u→((ev l x).plain=u∨∃ k,u=.list k []∧ev l x=.sc (.slice none 0 0))∧u.isData=true
 | x::r,u::s,h,j,x',u',hx,hu=>by
  cases j with
  | zero=>simp at hx hu; subst hx; subst hu; exact⟨h.1,h.2.1⟩
  | succ j=>simp at hx hu; exact h.2.2.get hx hu
 | [],[],_,j,_,_,hx,_=>by simp at hx
 | [],_::_,h,_,_,_,_,_=>h.elim
 | _::_,[],h,_,_,_,_,_=>h.elim
/-! ### A variable of a map's type is set anew: the new map takes the old one's name -/
theorem Gdd.conv {w:World} {β:H4} {L L':Loc} {ob:Option Nat} {o o':Jh} (hd:J82 L L') (hc:Ge6 (fun i=>(lk L' i).isSome) o o') (h0:Gdd w β L ob o):Gdd w β L' ob o':=by
 cases hc with
 | same=>exact h0
 | map=>
  obtain⟨b,h1,h2⟩:=h0
  exact⟨b,h1,h2.mono rfl fun h=>h.mono fun b i hs=>⟨hd.stab hs,rfl⟩⟩
 | vec=>
  obtain⟨h00,h0⟩:=h0
  refine⟨h00,?_⟩
  rcases h0 with h0 | ⟨b,h1,vs,h2,h3,h4⟩
  ·exact .inl h0
  ·exact .inr ⟨b,h1,vs,h2,h3,fun j u v hu hv=>(h4 j u v hu hv).mono fun b i hs=>⟨hd.stab hs,rfl⟩⟩
 | iter hm=>
  obtain⟨b,h1,bm,h2,h4⟩:=h0
  exact⟨b,h1,bm,h2.drop hd hm,h4⟩
 | box hl hc=>
  obtain⟨b,h1,vs,h2,h3,h4⟩:=h0
  refine⟨b,h1,vs,h2,h3.trans hl,fun j u' v hu' hv=>?_⟩
  rename_i cs cs'
  have hj:j < cs.length:=by
   rcases Nat.lt_or_ge j cs'.length with h | h
   ·omega
   ·simp [List.getElem?_eq_none h] at hu'
  exact(h4 j cs[j] v (by simp [hj]) hv).conv hd (hc j _ _ (by simp [hj]) hu')

def Y66 (i j:Nat) (ok:Nat→Bool) (l:Fr):Fr→Prop
 | []=>True
 | (s,u)::r=>((look l s=.mp j∧u=.mp i)∨(look l s=u∧u.refs ok=true))∧Y66 i j ok l r
theorem Y66.get {i j:Nat} {ok:Nat→Bool} {l:Fr}:∀ {l':Fr},Y66 i j ok l l'→∀ t,look l' t=.junk∨(look l t=.mp j∧look l' t=.mp i)∨(look l t=look l' t∧(look l' t).refs ok=true)
 | [],_,t=>.inl (by simp [look])
 | (s,u)::r,h,t=>by
  by_cases e:s=t
  ·subst e
   have e1:look ((s,u)::r) s=u:=by simp [look]
   rw [e1]; exact .inr h.1
  ·have hb:Nat.beq s t=false:=by
    cases hb:Nat.beq s t with
    | false=>rfl
    | true=>exact absurd (Nat.eq_of_beq_eq_true hb) e
   have e1:look ((s,u)::r) t=look r t:=by simp [look,hb]
   rw [e1]; exact Y66.get h.2 t

theorem Ri.rename {N:Cfg} {w0 w:World} {β0 β:H4} {L0 L3:Loc} {a:Act} {l l':Fr} {i j t:Nat} {es:List (Value×AV)} (hs:Ri N w0 β0 L0 a w β l ((j,.map t es)::L3)) (hi:lk L3 i=none) (hj:lk L3 j=none) (hij:Nat.beq i j=false)
  (hib:N.base.contains i=false) (hjb:N.base.contains j=false) (h3:H01 (fun id=>(lk ((i,Jh.map t es)::L3) id).isSome) L3 L3) (hl:Y66 i j (fun id=>(lk ((i,Jh.map t es)::L3) id).isSome) l l') :
  Ri N w0 β0 L0 a w (upP β i (β.at_ j)) l' ((i,.map t es)::L3):=by
 have hne:i≠j:=fun e=>by subst e; simp at hij
 have ib:i ∉ N.base:=fun h=>by simp [List.contains_iff_mem,h] at hib
 have jb:j ∉ N.base:=fun h=>by simp [List.contains_iff_mem,h] at hjb
 have l1i:lk ((j,Jh.map t es)::L3) i=none:=by rw [Gh,if_neg (Ne.symm hne)]; exact hi
 have l1j:lk ((j,Jh.map t es)::L3) j=some (.map t es):=by rw [Gh,if_pos rfl]
 have li:lk ((i,Jh.map t es)::L3) i=some (.map t es):=by rw [Gh,if_pos rfl]
 have lj:lk ((i,Jh.map t es)::L3) j=none:=by rw [Gh,if_neg hne]; exact hj
 have lo:∀ id,id≠i→id≠j→lk ((i,Jh.map t es)::L3) id=lk ((j,Jh.map t es)::L3) id:=fun id h1 h2=>by rw [Gh,if_neg (Ne.symm h1),Gh,if_neg (Ne.symm h2)]
 have bi:(upP β i (β.at_ j)).at_ i=β.at_ j:=by simp [upP]
 have bo:∀ id,id≠i→(upP β i (β.at_ j)).at_ id=β.at_ id:=fun id h=>by simp [upP,h]
 -- where what is called id lay before
 have old:∀ id o,lk ((i,Jh.map t es)::L3) id=some o→∃ id',lk ((j,Jh.map t es)::L3) id'=some o∧(upP β i (β.at_ j)).at_ id=β.at_ id'∧((id=i∧id'=j)∨(id≠i∧id≠j∧id'=id)):=fun id o ho=>by
  by_cases e:id=i
  ·subst e; rw [li] at ho; cases ho; exact⟨j,l1j,bi,.inl ⟨rfl,rfl⟩⟩
  ·have e2:id≠j:=fun e2=>by subst e2; rw [lj] at ho; cases ho
   exact⟨id,by rw [← lo id e e2]; exact ho,bo id e,.inr ⟨e,e2,rfl⟩⟩
 have stab:∀ b k,Jt w β ((j,Jh.map t es)::L3) b k→Jt w (upP β i (β.at_ j)) ((i,Jh.map t es)::L3) b k:=fun b k h=>⟨h.lt,h.seen,fun id o ho hb=>by
  obtain⟨id',h1,h2,_⟩:=old id o ho
  exact h.kept id' o h1 (by rw [← h2]; exact hb)⟩
 -- both names at once
 have stabB:∀ b k,Jt w β ((j,Jh.map t es)::L3) b k→Jt w (upP β i (β.at_ j)) ((i,Jh.map t es)::(j,Jh.map t es)::L3) b k:=fun b k h=>⟨h.lt,h.seen,fun id o ho hb=>by
  rw [Gh] at ho
  by_cases e:i=id
  ·subst e; rw [if_pos rfl] at ho; cases ho
   exact h.kept j _ l1j (by rw [← bi]; exact hb)
  ·rw [if_neg e] at ho
   exact h.kept id o ho (by rw [← bo id (Ne.symm e)]; exact hb)⟩
 have keep:∀ id o,lk ((j,Jh.map t es)::L3) id=some o→(upP β i (β.at_ j)).at_ id=β.at_ id∧lk ((i,Jh.map t es)::(j,Jh.map t es)::L3) id=some o:=fun id o ho=>by
  have e:id≠i:=fun e=>by subst e; rw [l1i] at ho; cases ho
  exact⟨bo id e,by rw [Gh,if_neg (Ne.symm e)]; exact ho⟩
 have stw:Hb9 w β ((j,Jh.map t es)::L3) w (upP β i (β.at_ j)) ((i,Jh.map t es)::(j,Jh.map t es)::L3):=⟨fun b k h=>⟨stabB b k h,rfl⟩,fun id _ cs h=>⟨(keep id _ h).1,cs,(keep id _ h).2⟩,fun id _ es h=>⟨(keep id _ h).1,es,(keep id _ h).2⟩,fun id _ n es h=>⟨(keep id _ h).1,n,es,(keep id _ h).2⟩,
  fun id _ _ ver xs h=>⟨ver,xs,(keep id _ h).2,Nat.le_refl _,fun _=>⟨rfl,(keep id _ h).1,fun b hb=>rfl⟩⟩,fun id _ _ ver hw h=>⟨ver,hw,(keep id _ h).2,Nat.le_refl _,fun _=>⟨rfl,(keep id _ h).1,fun b hb=>rfl⟩⟩⟩
 have dr:J82 ((i,Jh.map t es)::(j,Jh.map t es)::L3) ((i,Jh.map t es)::L3):=⟨fun id o ho=>⟨o,by
  rw [Gh] at ho ⊢
  by_cases e:i=id
  ·rw [if_pos e] at ho ⊢; exact ho
  ·rw [if_neg e] at ho ⊢
   rw [Gh,if_neg (fun e2=>by subst e2; rw [hj] at ho; cases ho)]; exact ho,by cases o <;> simp [Jh.like]⟩⟩
 have val:∀ {u v},V w β ((j,Jh.map t es)::L3) u v→u.refs (fun id=>(lk ((i,Jh.map t es)::L3) id).isSome)=true→V w (upP β i (β.at_ j)) ((i,Jh.map t es)::L3) u v:=fun h hr=>(h.stepW stw).drop dr hr
 have some1:∀ id,(lk ((i,Jh.map t es)::L3) id).isSome=true→∃ id',(lk ((j,Jh.map t es)::L3) id').isSome=true∧(upP β i (β.at_ j)).at_ id=β.at_ id'∧((id=i∧id'=j)∨(id≠i∧id≠j∧id'=id)):=fun id h=>by
  obtain⟨o,ho⟩:=Option.isSome_iff_exists.1 h
  obtain⟨id',h1,h2,h3⟩:=old id o ho
  exact⟨id',by rw [h1]; rfl,h2,h3⟩
 have base0:∀ id o,lk L0 id=some o→id≠i∧id≠j:=fun id o h=>by
  have:=hs.base id (by rw [h]; rfl)
  exact⟨fun e=>ib (e ▸ this),fun e=>jb (e ▸ this)⟩
 have st:=hs.step
 refine⟨⟨hs.sat.hid,fun id b h1 h2=>?_,fun id b k h1 h2=>?_,fun id id2 b h1 h2 h3 h4=>?_,fun id o ho=>?_⟩,
  ⟨st.os,st.tape,st.output,st.size,st.hid,fun b k h=>⟨stab b k (st.stab b k h).1,(st.stab b k h).2⟩,fun b hb hf=>⟨(st.far b hb hf).1,fun id h1 h2=>?_⟩,fun id t cs h=>?_,fun id t cs h=>?_,fun id m n es h=>?_,fun id t k ver xs h=>?_,fun id t k ver hw h=>?_⟩,⟨fun s=>?_⟩,hs.size,hs.base,⟨hs.defers.top,hs.defers.nodup,fun d hd=>?_⟩⟩
 ·obtain⟨id',g1,g2,_⟩:=some1 id h1
  exact hs.sat.bnd id' b g1 (g2.symm.trans h2)
 ·obtain⟨id',g1,g2,_⟩:=some1 id h1
  exact hs.sat.apart id' b k g1 (g2.symm.trans h2)
 ·obtain⟨id',g1,g2,g3⟩:=some1 id h1
  obtain⟨id2',k1,k2,k3⟩:=some1 id2 h2
  have:=hs.sat.inj id' id2' b g1 k1 (g2.symm.trans h3) (k2.symm.trans h4)
  rcases g3 with ⟨rfl,rfl⟩ | ⟨ga,gb,rfl⟩ <;> rcases k3 with ⟨rfl,rfl⟩ | ⟨ka,kb,rfl⟩
  ·rfl
  ·exact(kb this.symm).elim
  ·exact(gb this).elim
  ·exact this
 ·obtain⟨id',g1,g2,g3⟩:=old id o ho
  have h0:=hs.sat.obj id' o g1
  rw [g2]
  have h1:=h0.stepW stw (fun b hb=>rfl)
  refine h1.conv dr ?_
  rcases g3 with ⟨rfl,rfl⟩ | ⟨ga,gb,rfl⟩
  ·rw [li] at ho; cases ho; exact .map
  ·have h4:lk L3 id'=some o:=by rw [Gh,if_neg (Ne.symm ga)] at ho; exact ho
   obtain⟨o2,h5,h6⟩:=h3.get h4
   rw [h4] at h5; cases h5; exact h6
 ·obtain⟨id',g1,g2,_⟩:=some1 id h1
  exact(st.far b hb hf).2 id' g1 (g2.symm.trans h2)
 ·obtain⟨h1,cs',h2⟩:=st.box id t cs h
  obtain⟨n1,n2⟩:=base0 id _ h
  exact⟨(bo id n1).trans h1,cs',by rw [lo id n1 n2]; exact h2⟩
 ·obtain⟨h1,cs',h2⟩:=st.map id t cs h
  obtain⟨n1,n2⟩:=base0 id _ h
  exact⟨(bo id n1).trans h1,cs',by rw [lo id n1 n2]; exact h2⟩
 ·obtain⟨h1,n',es',h2⟩:=st.iter id m n es h
  obtain⟨n1,n2⟩:=base0 id _ h
  exact⟨(bo id n1).trans h1,n',es',by rw [lo id n1 n2]; exact h2⟩
 ·obtain⟨v1,xs1,h1,h2,h3⟩:=st.vec id t k ver xs h
  obtain⟨n1,n2⟩:=base0 id _ h
  exact⟨v1,xs1,by rw [lo id n1 n2]; exact h1,h2,fun e=>⟨(h3 e).1,(bo id n1).trans (h3 e).2.1,(h3 e).2.2⟩⟩
 ·obtain⟨v1,hw1,h1,h2,h3⟩:=st.spare id t k ver hw h
  obtain⟨n1,n2⟩:=base0 id _ h
  exact⟨v1,hw1,by rw [lo id n1 n2]; exact h1,h2,fun e=>⟨(h3 e).1,(bo id n1).trans (h3 e).2.1,(h3 e).2.2⟩⟩
 ·have hv:=hs.frame.tmp s
  rcases hl.get s with e | ⟨e1,e2⟩ | ⟨e1,e2⟩
  ·rw [e]; exact .junk
  ·rw [e2]; rw [e1] at hv
   generalize a.tmps.getD s undef=vv at hv ⊢
   cases hv with
   | data h=>cases h
   | mp h1 h2=>
    rw [l1j] at h1; cases h1
    exact .mp li (bi.trans h2)
  ·rw [e1] at hv; exact val hv e2
 ·obtain⟨D,h1,h2,h3,h4⟩:=hs.defers.each d hd
  refine⟨D,h1,h2,h3,fun id g1 g2=>?_⟩
  obtain⟨id',k1,k2,_⟩:=some1 id g1
  exact h4 id' k1 (k2.symm.trans g2)
end Go.Proofs.YtidpfkmbfgihlaaGreat
set_option linter.unusedSimpArgs false
namespace Go.Proofs.YtidpfkmbfgihlaaGreat
open Go.RowKit

theorem Q77 {P:Program} {o:Oper} {a:Act} {w:World} {T E k:Nat} (ho:o.op=.buildSlice T 0 #[]) (hT:sliceB P T E k=true):(execOp a.eval o).run P w=.ok (.value (.slice (some ⟨w.heap.size,0,none⟩) 0 0)) (w.alloc (.cells #[] E)):=by
 have hsz:=Qe (sliceB.out hT).2 w
 simp [execOp,ho,Instr.buildSlice,underlying,(sliceB.out hT).1,run_program,Sem.run_bind,Result.andThen_ok,hsz,newRow,Instr.fill]
 exact congrArg (fun x=>w.alloc (Obj.cells x E)) (Array.toList_inj.1 (by simp))

theorem Y16 {w:World} {β:H4} {L:Loc} {i:Nat} (E k:Nat) (vs:Array Value) (cap:Nat) (hcap:cap≤maxLen) (hrow:(w.alloc (.cells vs E)).ownsRow 0 E k (.slice (some ⟨w.heap.size,0,none⟩) 0 cap) 0 []) (hsat:Sat w β L) (hi:lk L i=none) :
  Step w β L (w.alloc (.cells vs E)) (upP β i (some w.heap.size)) ((i,.spare E k 0 0)::L)∧Sat (w.alloc (.cells vs E)) (upP β i (some w.heap.size)) ((i,.spare E k 0 0)::L) ∧
  V (w.alloc (.cells vs E)) (upP β i (some w.heap.size)) ((i,.spare E k 0 0)::L) (.own i 0 k []) (.slice (some ⟨w.heap.size,0,none⟩) 0 cap):=by
 have hne:∀ id,(lk L id).isSome=true→i≠id:=fun id h e=>by subst e; rw [hi] at h; cases h
 have hlt:∀ b,b < w.heap.size→(w.alloc (.cells vs E)).heap[b]? = w.heap[b]? := fun b hb=>Q6 w _ hb
 have hsz:w.heap.size < (w.alloc (.cells vs E)).heap.size:=by simp
 have st:Step w β L (w.alloc (.cells vs E)) (upP β i (some w.heap.size)) ((i,.spare E k 0 0)::L):=by
  refine⟨rfl,rfl,⟨rfl,Nat.le_refl _⟩,Nat.le_of_lt hsz,fun _ _ _=>Iff.rfl,fun b j hs=>⟨⟨Nat.lt_trans hs.lt hsz,hs.seen,fun id ob hid hb=>?_⟩,Q2 (w:=w) (hlt b hs.lt)⟩,fun b hb hfar=>⟨hlt b hb,fun id hid e=>?_⟩,fun id t cs hid=>?_,fun id t cs hid=>?_,fun id t n cs hid=>?_,fun id t k' ver xs hid=>?_,fun id t k' ver hw hid=>?_⟩
  ·rw [Gh] at hid
   by_cases e:i=id
   ·subst e; simp only [upP,if_true] at hb; cases hb; exact absurd hs.lt (Nat.lt_irrefl _)
   ·rw [if_neg e] at hid; simp only [upP,if_neg (Ne.symm e)] at hb; exact hs.kept id ob hid hb
  ·rw [Gh] at hid
   by_cases e':i=id
   ·subst e'; simp only [upP,if_true] at e; cases e; exact absurd hb (Nat.lt_irrefl _)
   ·rw [if_neg e'] at hid; simp only [upP,if_neg (Ne.symm e')] at e; exact hfar id hid e
  all_goals
   have e:=hne id (by rw [hid]; rfl)
  ·exact⟨by simp [upP,Ne.symm e],cs,by rw [Gh,if_neg e]; exact hid⟩
  ·exact⟨by simp [upP,Ne.symm e],cs,by rw [Gh,if_neg e]; exact hid⟩
  ·exact⟨by simp [upP,Ne.symm e],n,cs,by rw [Gh,if_neg e]; exact hid⟩
  ·exact⟨ver,xs,by rw [Gh,if_neg e]; exact hid,Nat.le_refl _,fun _=>⟨rfl,by simp [upP,Ne.symm e],fun b hb=>G12 (hlt b (hsat.bnd id b (by rw [hid]; rfl) hb))⟩⟩
  ·exact⟨ver,hw,by rw [Gh,if_neg e]; exact hid,Nat.le_refl _,fun _=>⟨rfl,by simp [upP,Ne.symm e],fun b hb=>hlt b (hsat.bnd id b (by rw [hid]; rfl) hb)⟩⟩
 refine⟨st,⟨fun b j h=>Nat.lt_trans (hsat.hid b j h) hsz,fun id b hid hb=>?_,fun id b j hid hb hh=>?_,fun id id' b h1 h2 h3 h4=>?_,fun id ob hid=>?_⟩,?_⟩
 ·rw [Gh] at hid
  by_cases e:i=id
  ·subst e; simp only [upP,if_true] at hb; cases hb; exact hsz
  ·rw [if_neg e] at hid; simp only [upP,if_neg (Ne.symm e)] at hb; exact Nat.lt_trans (hsat.bnd id b hid hb) hsz
 ·rw [Gh] at hid
  by_cases e:i=id
  ·subst e; simp only [upP,if_true] at hb; cases hb; exact absurd (hsat.hid _ _ hh) (Nat.lt_irrefl _)
  ·rw [if_neg e] at hid; simp only [upP,if_neg (Ne.symm e)] at hb; exact hsat.apart id b j hid hb hh
 ·by_cases e:i=id
  ·by_cases e':i=id'
   ·rw [← e,e']
   ·subst e
    rw [Gh,if_neg e'] at h2
    simp only [upP,if_true] at h3
    simp only [upP,if_neg (Ne.symm e')] at h4
    cases h3
    exact absurd (hsat.bnd id' _ h2 h4) (Nat.lt_irrefl _)
  ·by_cases e':i=id'
   ·subst e'
    rw [Gh,if_neg e] at h1
    simp only [upP,if_true] at h4
    simp only [upP,if_neg (Ne.symm e)] at h3
    cases h4
    exact absurd (hsat.bnd id _ h1 h3) (Nat.lt_irrefl _)
   ·rw [Gh,if_neg e] at h1
    rw [Gh,if_neg e'] at h2
    simp only [upP,if_neg (Ne.symm e)] at h3
    simp only [upP,if_neg (Ne.symm e')] at h4
    exact hsat.inj id id' b h1 h2 h3 h4
 ·rw [Gh] at hid
  by_cases e:i=id
  ·subst e; simp at hid; subst hid
   exact .inr ⟨w.heap.size,by simp [upP],vs,heap_alloc_new w _,by simp⟩
  ·rw [if_neg e] at hid
   simp only [upP,if_neg (Ne.symm e)]
   exact(hsat.obj id ob hid).step st (fun b hb=>hlt b (hsat.bnd id b (by rw [hid]; rfl) hb))
 ·exact .own (.nil hcap) ⟨E,0,0,by rw [Gh,if_pos rfl],Nat.le_refl _,fun _=>⟨rfl,by simp [Value.ownBlock,upP],[],hrow,fun j u hu=>by simp [flat] at hu⟩⟩

theorem Yc4 {w:World} {β:H4} {L:Loc} {i:Nat} (E k:Nat) (hsat:Sat w β L) (hi:lk L i=none) :
  Step w β L (w.alloc (.cells #[] E)) (upP β i (some w.heap.size)) ((i,.spare E k 0 0)::L)∧Sat (w.alloc (.cells #[] E)) (upP β i (some w.heap.size)) ((i,.spare E k 0 0)::L) ∧
  V (w.alloc (.cells #[] E)) (upP β i (some w.heap.size)) ((i,.spare E k 0 0)::L) (.own i 0 k []) (.slice (some ⟨w.heap.size,0,none⟩) 0 0):=
 Y16 E k #[] 0 (Nat.zero_le _) (World.ownsRow_lit w #[] 0 (Nat.zero_le _) (Nat.zero_le _) (by simp)) hsat hi

def Ja7 (P:Program) (T f off:Nat):Bool:=
 match P.underlying T with
 | some (.struct fs)=>match fs[f]? with
  | some fld=>fld.offset==off&&Y4 P fld.type
  | none=>false
 | _=>false
theorem Ja7.out {P:Program} {T f off:Nat} (h:Ja7 P T f off=true):∃ fs fld,P.underlying T=some (.struct fs)∧fs[f]? = some fld∧fld.offset=off∧Y4 P fld.type=true:=by
 unfold Ja7 at h
 split at h
 ·rename_i fs h1
  split at h
  ·rename_i fld h2
   simp only [Bool.and_eq_true,beq_iff_eq] at h
   exact⟨fs,fld,h1,h2,h.1,h.2⟩
  ·cases h
 ·cases h

def R03 (P:Program) (T n k:Nat):Bool:=
 match P.underlying T with
 | some (.array m e)=>m==n&&Yt P e k
 | _=>false
theorem R03.out {P:Program} {T n k:Nat} (h:R03 P T n k=true):∃ e,P.underlying T=some (.array n e)∧Yt P e k=true:=by
 unfold R03 at h
 split at h
 ·rename_i m e h1
  simp only [Bool.and_eq_true,beq_iff_eq] at h
  obtain⟨rfl,h2⟩:=h
  exact⟨_,h1,h2⟩
 ·cases h
section ops
variable {P:Program} {N:Cfg} {o:Oper} {l:Fr} {L L':Loc} {u:AV} {α:Type}

theorem Hc4 (i E k:Nat) {T:Nat} (ho:o.op=.buildSlice T 0 #[]) (hi:lk L i=none) (hT:sliceB P T E k=true):H0 P o l L (Is (.own i 0 k []) ((i,.spare E k 0 0)::L)):=by
 intro a w β K Q hsat hf hK
 unfold Oper.wp
 rw [Q77 (E:=E) (k:=k) ho hT]
 obtain⟨st,sat,hv⟩:=Yc4 E k hsat hi
 exact hK _ _ _ _ _ ⟨rfl,rfl⟩ sat st hv

theorem Q26 (w:World) (base:Nat) (t ty e:TypeId) (i:TypeInfo) (size:Nat) (ht:P.underlying t=some (.slice e)) (hi:P.info? e=some i)
  (v:Value) (n:Nat) (xs:List Value) (hown:w.ownsRow base e size v n xs) (ao:Option Addr) (c:Nat) :
  (Builtin.append_ #[t,t] ty #[v,.slice ao 0 c]).run P w=.ok v w:=by
 rcases hown.2 with ⟨rfl,rfl⟩ | ⟨g,cap,cur,rfl,_,_,hnc,_⟩
 ·cases ao <;> simp [Builtin.append_,run_underlying ht,sizeOf,typeInfo,hi,Builtin.lenOf,Builtin.firstCells,loadCells,loadCellsFrom]
 ·cases ao <;> simp [Builtin.append_,run_underlying ht,sizeOf,typeInfo,hi,Builtin.lenOf,Builtin.firstCells,hnc,storeCells,loadCells,loadCellsFrom]

theorem Y6d {s x:Operand} {T E k by_ i ver n:Nat} {kx:Nat} {xs:List AV} (ho:o.op=.call { callee:=.builtin .append,args:=#[s,x],argTypes:=#[T,T] }) (hs:ev l s=.own i ver k xs) (hi:lk L i=some (.spare E k ver n)) (hx:Qf (ev l x)=some (kx,[]))
  (hT:sliceB P T E k=true) (hE:Z5 P E k by_=true):H0 P o l L (Is (.own i ver k xs) L):=
 Hi fun a w β hsat hf=>by
  have hv:=hf.ev s
  rw [hs] at hv
  have hxd:=(hf.ev x).Qf hx
  obtain⟨ao,cap,hxv,_⟩:=hxd.len
  obtain⟨inf,z,e1,e2,e3,e4,e5,e6⟩:=Z5.out hE
  have hv':=hv
  cases hv with
  | data h=>cases h
  | own hd hp=>
   obtain⟨t,ver',hw,h1,h2,h3⟩:=hp
   rw [hi] at h1
   cases h1
   obtain⟨rfl,hob,vals,hown,hvD⟩:=h3 rfl
   have hr:=Q26 (P:=P) w 0 T o.type E inf k (sliceB.out hT).1 e1 (a.eval s) _ _ hown ao cap
   exact⟨a.eval s,by simp [execOp,ho,resolve,invoke,builtin,hxv,hr],hv'⟩

theorem H5e {L:Loc} {s x:Operand} {T E k by_ i kx:Nat} {f:α→AV} {xs ys:List α} (ho:o.op=.call { callee:=.builtin .append,args:=#[s,x],argTypes:=#[T,T] }) (hs:ev l s=OW i k f xs) (hi:lk L i=some (.spare E k xs.length xs.length)) (hx:Qf (ev l x)=some (kx,ys.map f))
  (hT:sliceB P T E k=true) (hE:Z5 P E k by_=true) (hb:decide ((xs.length+ys.length)*by_≤140737488355328∧xs.length+ys.length≤maxLen)=true) (hcell:∀ y,(f y).flatOk=true) (hk:kx=k∨ys=[]) :
  H0 P o l L (Is (OW i k f (xs++ys)) ((i,.spare E k (xs++ys).length (xs++ys).length)::L)):=by
 have hb':=of_decide_eq_true hb
 by_cases h0:ys=[]
 ·subst h0
  have h:=Y6d (P:=P) (o:=o) (by_:=by_) ho hs hi (by simpa using hx) hT hE
  rw [List.append_nil]
  intro a w β K Q hsat hf hK
  refine h a w β K Q hsat hf (fun u L1 v w1 β1 hu hs1 st1 hv1=>?_)
  obtain⟨rfl,rfl⟩:=hu
  have hle:H9d L1 ((i,.spare E k xs.length xs.length)::L1):=fun j=>by
   rw [Gh]
   by_cases e:i=j
   ·subst e; rw [if_pos rfl,hi]
   ·rw [if_neg e]
  exact hK _ _ v w1 β1 ⟨rfl,rfl⟩ (hs1.locEq hle) (st1.locEq hle) (hv1.locEq hle)
 ·have h:=Jed (ver1:=(xs++ys).length) (xs:=xs.map f) (ys:=ys.map f) ho hs hi hx hT hE (by simpa using hb'.1) (by simpa using hb'.2) (fun y hy=>by
   obtain⟨z,_,rfl⟩:=List.mem_map.1 hy
   exact hcell z) (hk.imp id (fun e=>by rw [e]; rfl)) (by
   have:=List.length_pos_iff.2 h0
   rw [List.length_append]; omega)
  simpa only [OW,List.map_append,List.length_append,List.length_map] using h
def R04 (P:Program) (T n:Nat):Bool:=
 match P.underlying T with
 | some (.array m e)=>m==n&&(Y4 P e&&Yt P e 1)
 | _=>false
theorem R04.out {P:Program} {T n:Nat} (h:R04 P T n=true):∃ e,P.underlying T=some (.array n e)∧Y4 P e=true∧Yt P e 1=true:=by
 unfold R04 at h
 split at h
 ·rename_i m e h1
  simp only [Bool.and_eq_true,beq_iff_eq] at h
  obtain⟨rfl,h2,h3⟩:=h
  exact⟨_,h1,h2,h3⟩
 ·cases h
theorem R0c {x y:Operand} {T i ver m t k kk fo:Nat} {f:α→AV} {xs:List α} {e z:α} {u:AV} (hT:Yt P T kk=true) (ho:o.op=.store T x y) (hu:ev l y=u) (hx:ev l x=.vptr i ver m fo) (hi:lk L i=some (.vec t k ver (xs.map f))) (he:xs[m]? = some e)
  (hc:u.flatOk=true) (hd:u.isData=true) (hds:J4c fo u.cells (f e).cells=some (f z).cells) (hk:u.cells.length=kk) (hpos:Nat.blt 0 kk=true) :
  H0 P o l L (Is .junk ((i,.vec t k ver ((xs.set m z).map f))::L)):=by
 have h:=R97 (P:=P) (e:=f e) (z:=f z) (ds:=(f z).cells) hT ho hu hx hi (Ycc he) hc hd hds rfl hk hpos
 rw [← List.map_set] at h
 exact h
end ops
end Go.Proofs.YtidpfkmbfgihlaaGreat
