/-
 More steps: Slices that begin aQ an empty literal and are appended to; Is a slice nil: Appending to a part from the front of a slice of the call's A slice of slices of the call's own,whose last slice still g Drawn orders whose last operation,behind all the others,is g The typed steps of slices of slices whose last slice grows. Slices with known cells behind them: What slices.Insert and slices.Delete do to a slice of the ca Fresh results that bear a slice which may be written in plac A slice that is laid out in the text,and is written later: Iterators:
-/
import Derived.Test.YtibhpogonkdiaaaGreatRangeF
import Derived.Lib.Overlaps
import Derived.Lib.AppendZerosOnto
set_option linter.unusedVariables false
set_option linter.unusedSimpArgs false
set_option linter.unnecessarySimpa false
namespace Go.Proofs.YtibhpogonkdiaaaGreat
open Go.RowKit

theorem R1.vecCell {N:Cfg} {w0 w:World} {β0 β:Gu} {L0 L:Loc} {a:Act} {l:Fr} (hs:R1 N w0 β0 L0 a w β l L) (i j id E k:Nat) {t:TypeId} {cs cs':List AV} (hi:lk L i=some (.box t cs)) (hid:lk L id=none) (hj:cs[j]? = some (.sc (.slice none 0 0)))
  (h2:cs.set j (.vec id 0 k 0)=cs'):∃ β',R1 N w0 β0 L0 a w β' l ((i,.box t cs')::(id,.vec E k 0 [])::L):=by
 obtain⟨st,sat⟩:=Qu (w':=w) (t:=E) (k:=k) (ver1:=0) (xs':=[]) (ob':=none) hs.sat (.inl hid) rfl rfl ⟨rfl,M1⟩ (M1) (fun _ _ _=>rfl) (.inl rfl)
 have h1:R1 N w0 β0 L0 a w (upP β id none) l ((id,.vec E k 0 [])::L):=⟨sat ⟨by simp,.inl ⟨rfl,rfl⟩⟩,hs.step.trans st,hs.frame.step st,hs.size,hs.base,hs.defers.step st⟩
 have h3:id≠i:=fun e=>by subst e; rw [hi] at hid; cases hid
 refine⟨_,h1.redescribe (i:=i) (t:=t) (cs:=cs) (by rw [Gd,if_neg h3]; exact hi) (by rw [← h2]; simp) fun vs q u v h0 h5 hu hv=>?_⟩
 rw [← h2] at hu
 by_cases e:j=q
 ·subst e
  have h4:j < cs.length:=(Kw hj).1
  simp [List.getElem?_set,h4] at hu
  subst hu
  have:=h0 j _ v hj hv
  rw [this.inv_sc]
  exact .vec ⟨E,0,[],(by rw [Gd,if_pos rfl]:lk ((id,Je.vec E k 0 [])::L) id=_),M1,fun _=>⟨rfl,.inl ⟨rfl,rfl,by rw [show (upP β id none).at_ id=none by simp [upP]]⟩⟩⟩ rfl
 ·rw [List.getElem?_set_ne e] at hu
  exact h0 q u v hu hv
theorem Hf6 {P:Program} {N:Cfg} {ops:Array Oper} {rest:List Oper} {Q:Post} {l:Fr} {L:Loc} (i j id E k:Nat) {t:TypeId} {cs cs':List AV} (hi:lk L i=some (.box t cs)) (hid:lk L id=none) (hj:cs[j]? = some (.sc (.slice none 0 0)))
  (h0:cs.set j (.vec id 0 k 0)=cs') (hk:JL P N ops rest Q l ((i,.box t cs')::(id,.vec E k 0 [])::L)):JL P N ops rest Q l L:=
 fun n w0 β0 L0 a w β hs=>by
  obtain⟨β',h⟩:=hs.vecCell i j id E k hi hid hj h0
  exact hk n w0 β0 L0 a w β' h

theorem Rf2 {P:Program} {o:Oper} {l:Fr} {L:Loc} {u:AV} {x y:Operand} {T i:Nat} {t:TypeId} (hT:Re P T 0=true) (ho:o.op=.store T x y) (hu:ev l y=u) (hx:ev l x=.ptr i 0) (hi:lk L i=some (.box t []))
  (hc:u.flatOk=true) (hk:u.cells=[]):Gz P o l L (Is .junk ((i,.box t [])::L)):=by
 subst hu
 intro a w β K Q h0 hf hK
 have h1:=hf.ev x
 rw [hx] at h1
 obtain⟨b,hb,h4⟩:=h1.inv_ptr
 obtain⟨old,h2,h5,h8⟩:=H99 h0 hi hb
 obtain⟨c1,c2,c3⟩:=(hf.ev y).cells hc
 rw [hk] at c1
 have hr:=H27 (P:=P) (off:=0) hT c1 c3 h2 (by omega)
 unfold Oper.wp
 have h6:(execOp a.eval o).run P w=.ok .skip (w.setRow b (old.toList.take 0++(a.eval y).cells.toList++old.toList.drop (0+0)).toArray):=by
  simp [execOp,ho,h4,hr]
 rw [h6]
 have h3:old.size=0:=by simpa using h5
 have h7:(a.eval y).cells.size=0:=by simpa using c1
 refine hK _ _ _ _ β ⟨rfl,rfl⟩ (h0.set hi hb h2 _ ?_ ?_) (Step.set h0 hi hb _) .junk
 ·simp [h7,h3]
 ·intro j u v hu hv
  simp at hu

theorem Q2.ver {P:Program} {f:FuncId} {args:List AV} {i t k n:Nat} {xs:List AV} (h:Q2 P f args [] (fun u L'=>∃ p:Nat,u=.vec i p k n∧L'=[(i,.vec t k p xs)])) (q:Nat):Q2 P f args [] (fun u L'=>u=.vec i q k n∧L'=[(i,.vec t k q xs)]):=by
 intro w β vs h6 hl hv
 refine(h w β vs h6 hl hv).mono fun e w' hr=>?_
 obtain⟨v,r,β',L',rfl,hs,st,h8,p,rfl,rfl⟩:=hr
 have h4:∀ id,(lk [(i,Je.vec t k p xs)] id).isSome=(lk [(i,Je.vec t k q xs)] id).isSome:=fun id=>by
  rw [Gd,Gd]; split <;> rfl
 have h5:∀ b j,Hv w' β' [(i,Je.vec t k p xs)] b j→Hv w' β' [(i,Je.vec t k q xs)] b j:=fun b j h=>⟨h.lt,h.seen,fun id o ho hb=>by
  rw [Gd] at ho
  by_cases e:i=id
  ·subst e
   rw [if_pos rfl] at ho; cases ho
   exact(show False from h.kept i (.vec t k p xs) (by rw [Gd,if_pos rfl]) hb).elim
  ·rw [if_neg e] at ho; cases ho⟩
 refine⟨v,_,β',_,rfl,⟨hs.hid,fun id b h1=>hs.bnd id b (by rw [h4]; exact h1),fun id b j h1=>hs.apart id b j (by rw [h4]; exact h1),fun id id' b h1 h2=>hs.inj id id' b (by rw [h4]; exact h1) (by rw [h4]; exact h2),fun id o ho=>?_⟩,
  ⟨st.os,st.tape,st.output,st.size,st.hid,fun b j h=>⟨h5 b j (st.stab b j h).1,(st.stab b j h).2⟩,fun b hb hf=>⟨(st.far b hb hf).1,fun id hid=>(st.far b hb hf).2 id (by rw [h4]; exact hid)⟩,fun id t cs h=>by simp [lk] at h,fun id t cs h=>by simp [lk] at h,fun id t n cs h=>by simp [lk] at h,fun id t k ver xs h=>by simp [lk] at h,fun id t k ver xs h=>by simp [lk] at h⟩,?_,rfl,rfl⟩
 ·rw [Gd] at ho
  by_cases e:i=id
  ·subst e
   rw [if_pos rfl] at ho; cases ho
   have h0:=hs.obj i _ (by rw [Gd,if_pos rfl])
   refine⟨h0.1,h0.2.imp_right ?_⟩
   rintro⟨b,hb,vs,a1,a2,a3⟩
   exact⟨b,hb,vs,a1,a2,fun j u v hu hv=>(a3 j u v hu hv).mono fun b i hs=>⟨h5 b i hs,rfl⟩⟩
  ·rw [if_neg e] at ho; cases ho
 ·cases h8 with
  | data h=>cases h
  | vec hp h7=>
   obtain⟨t',ver',xs',h1,_,h3⟩:=hp
   rw [Gd,if_pos rfl] at h1; cases h1
   exact .vec ⟨t,q,xs,by rw [Gd,if_pos rfl],M1,fun _=>h3 rfl⟩ h7
theorem Q2.fresh0 {P:Program} {f:FuncId} {args:List AV} {i E k n:Nat} {xs:List AV} (h:Q2 P f args [] (fun av L'=>∃ p,av=.vec i p k n∧L'=[(i,.vec E k p xs)])):Q2 P f args [] (fun av L'=>av=.vec i 0 k n∧L'=[(i,.vec E k 0 xs)]):=h.ver 0

def G7e (l:Fr):List Operand→List AV→Prop
 | [],[]=>True
 | x::r,u::s=>((ev l x).plain=u∨∃ k,u=.list k []∧ev l x=.sc (.slice none 0 0))∧u.isData=true∧G7e l r s
 | _,_=>False
theorem G7e.length {l:Fr}:∀ {xs:List Operand} {us:List AV},G7e l xs us→xs.length=us.length
 | [],[],_=>rfl
 | _::_,_::_,h=>by simp [G7e.length h.2.2]
 | [],_::_,h=>h.elim
 | _::_,[],h=>h.elim
theorem G7e.get {l:Fr}:∀ {xs:List Operand} {us:List AV},G7e l xs us→∀ {j:Nat} {x:Operand} {u:AV},xs[j]? = some x→us[j]? = some u→((ev l x).plain=u∨∃ k,u=.list k []∧ev l x=.sc (.slice none 0 0))∧u.isData=true
 | x::r,u::s,h,j,x',u',hx,hu=>by
  cases j with
  | zero=>simp at hx hu; subst hx; subst hu; exact⟨h.1,h.2.1⟩
  | succ j=>simp at hx hu; exact h.2.2.get hx hu
 | [],[],_,j,_,_,hx,_=>by simp at hx
 | [],_::_,h,_,_,_,_,_=>h.elim
 | _::_,[],h,_,_,_,_,_=>h.elim
/-! ### A variable of a map's type is set anew: the new map takes the old one's name -/
theorem G95.conv {w:World} {β:Gu} {L L':Loc} {ob:Option Nat} {o o':Je} (hd:Hc2 L L') (hc:G7d (fun i=>(lk L' i).isSome) o o') (h0:G95 w β L ob o):G95 w β L' ob o':=by
 cases hc with
 | same=>exact h0
 | map=>
  obtain⟨b,h1,h2⟩:=h0
  exact⟨b,h1,h2.mono rfl fun h=>h.mono fun b i hs=>⟨hd.stab hs,rfl⟩⟩
 | vec=>
  obtain⟨h6,h0⟩:=h0
  refine⟨h6,?_⟩
  rcases h0 with h0 | ⟨b,h1,vs,h2,h3,h4⟩
  ·exact .inl h0
  ·exact .inr ⟨b,h1,vs,h2,h3,fun j u v hu hv=>(h4 j u v hu hv).mono fun b i hs=>⟨hd.stab hs,rfl⟩⟩
 | pin=>
  obtain⟨h1,vs,h2,h3,h4⟩:=h0
  exact⟨h1,vs,h2,h3,fun j u v hu hv=>(h4 j u v hu hv).mono fun b i hs=>⟨hd.stab hs,rfl⟩⟩
 | iter hm=>
  obtain⟨b,h1,bm,h2,h4⟩:=h0
  exact⟨b,h1,bm,h2.drop hd hm,h4⟩
 | box hl hc=>
  obtain⟨b,h1,vs,h2,h3,h4⟩:=h0
  refine⟨b,h1,vs,h2,h3.trans hl,fun j u' v h5 hv=>?_⟩
  rename_i cs cs'
  have hj:j < cs.length:=by
   rcases Kq j cs'.length with h | h
   ·omega
   ·simp [List.getElem?_eq_none h] at h5
  exact(h4 j cs[j] v (by simp [hj]) hv).conv hd (hc j _ _ (by simp [hj]) h5)

def Rae (i j:Nat) (ok:Nat→Bool) (l:Fr):Fr→Prop
 | []=>True
 | (s,u)::r=>((look l s=.mp j∧u=.mp i)∨(look l s=u∧u.refs ok=true))∧Rae i j ok l r
theorem Rae.get {i j:Nat} {ok:Nat→Bool} {l:Fr}:∀ {l':Fr},Rae i j ok l l'→∀ t,look l' t=.junk∨(look l t=.mp j∧look l' t=.mp i)∨(look l t=look l' t∧(look l' t).refs ok=true)
 | [],_,t=>.inl (by simp [look])
 | (s,u)::r,h,t=>by
  by_cases e:s=t
  ·subst e
   have e1:look ((s,u)::r) s=u:=by simp [look]
   rw [e1]; exact .inr h.1
  ·have hb:Nat.beq s t=false:=by
    cases hb:Nat.beq s t with
    | false=>rfl
    | true=>exact absurd (Ko hb) e
   have e1:look ((s,u)::r) t=look r t:=by simp [look,hb]
   rw [e1]; exact Rae.get h.2 t

theorem R1.rename {N:Cfg} {w0 w:World} {β0 β:Gu} {L0 L3:Loc} {a:Act} {l l':Fr} {i j t:Nat} {es:List (Value×AV)} (hs:R1 N w0 β0 L0 a w β l ((j,.map t es)::L3)) (hi:lk L3 i=none) (hj:lk L3 j=none) (h8:Nat.beq i j=false)
  (h9:N.base.contains i=false) (a0:N.base.contains j=false) (h3:G53 (fun id=>(lk ((i,Je.map t es)::L3) id).isSome) L3 L3) (hl:Rae i j (fun id=>(lk ((i,Je.map t es)::L3) id).isSome) l l') :
  R1 N w0 β0 L0 a w (upP β i (β.at_ j)) l' ((i,.map t es)::L3):=by
 have h7:i≠j:=fun e=>by subst e; simp at h8
 have ib:i ∉ N.base:=fun h=>by simp [List.contains_iff_mem,h] at h9
 have jb:j ∉ N.base:=fun h=>by simp [List.contains_iff_mem,h] at a0
 have l1i:lk ((j,Je.map t es)::L3) i=none:=by rw [Gd,if_neg (Ne.symm h7)]; exact hi
 have l1j:lk ((j,Je.map t es)::L3) j=some (.map t es):=by rw [Gd,if_pos rfl]
 have li:lk ((i,Je.map t es)::L3) i=some (.map t es):=by rw [Gd,if_pos rfl]
 have lj:lk ((i,Je.map t es)::L3) j=none:=by rw [Gd,if_neg h7]; exact hj
 have lo:∀ id,id≠i→id≠j→lk ((i,Je.map t es)::L3) id=lk ((j,Je.map t es)::L3) id:=fun id h1 h2=>by rw [Gd,if_neg (Ne.symm h1),Gd,if_neg (Ne.symm h2)]
 have bi:(upP β i (β.at_ j)).at_ i=β.at_ j:=by simp [upP]
 have bo:∀ id,id≠i→(upP β i (β.at_ j)).at_ id=β.at_ id:=fun id h=>by simp [upP,h]
 -- where what is called id lay bf
 have old:∀ id o,lk ((i,Je.map t es)::L3) id=some o→∃ id',lk ((j,Je.map t es)::L3) id'=some o∧(upP β i (β.at_ j)).at_ id=β.at_ id'∧((id=i∧id'=j)∨(id≠i∧id≠j∧id'=id)):=fun id o ho=>by
  by_cases e:id=i
  ·subst e; rw [li] at ho; cases ho; exact⟨j,l1j,bi,.inl ⟨rfl,rfl⟩⟩
  ·have e2:id≠j:=fun e2=>by subst e2; rw [lj] at ho; cases ho
   exact⟨id,by rw [← lo id e e2]; exact ho,bo id e,.inr ⟨e,e2,rfl⟩⟩
 have stab:∀ b k,Hv w β ((j,Je.map t es)::L3) b k→Hv w (upP β i (β.at_ j)) ((i,Je.map t es)::L3) b k:=fun b k h=>⟨h.lt,h.seen,fun id o ho hb=>by
  obtain⟨id',h1,h2,_⟩:=old id o ho
  exact h.kept id' o h1 (by rw [← h2]; exact hb)⟩
 -- both names at once
 have stabB:∀ b k,Hv w β ((j,Je.map t es)::L3) b k→Hv w (upP β i (β.at_ j)) ((i,Je.map t es)::(j,Je.map t es)::L3) b k:=fun b k h=>⟨h.lt,h.seen,fun id o ho hb=>by
  rw [Gd] at ho
  by_cases e:i=id
  ·subst e; rw [if_pos rfl] at ho; cases ho
   exact h.kept j _ l1j (by rw [← bi]; exact hb)
  ·rw [if_neg e] at ho
   exact h.kept id o ho (by rw [← bo id (Ne.symm e)]; exact hb)⟩
 have keep:∀ id o,lk ((j,Je.map t es)::L3) id=some o→(upP β i (β.at_ j)).at_ id=β.at_ id∧lk ((i,Je.map t es)::(j,Je.map t es)::L3) id=some o:=fun id o ho=>by
  have e:id≠i:=fun e=>by subst e; rw [l1i] at ho; cases ho
  exact⟨bo id e,by rw [Gd,if_neg (Ne.symm e)]; exact ho⟩
 have stw:Gba w β ((j,Je.map t es)::L3) w (upP β i (β.at_ j)) ((i,Je.map t es)::(j,Je.map t es)::L3):=⟨fun b k h=>⟨stabB b k h,rfl⟩,fun id _ cs h=>⟨(keep id _ h).1,cs,(keep id _ h).2⟩,fun id _ es h=>⟨(keep id _ h).1,es,(keep id _ h).2⟩,fun id _ n es h=>⟨(keep id _ h).1,n,es,(keep id _ h).2⟩,
  fun id _ _ ver xs h=>⟨ver,xs,(keep id _ h).2,M1,fun _=>⟨rfl,(keep id _ h).1,fun b hb=>rfl⟩⟩,fun id _ _ ver hw h=>⟨ver,hw,(keep id _ h).2,M1,fun _=>⟨rfl,(keep id _ h).1,fun b hb=>rfl⟩⟩⟩
 have dr:Hc2 ((i,Je.map t es)::(j,Je.map t es)::L3) ((i,Je.map t es)::L3):=⟨fun id o ho=>⟨o,by
  rw [Gd] at ho ⊢
  by_cases e:i=id
  ·rw [if_pos e] at ho ⊢; exact ho
  ·rw [if_neg e] at ho ⊢
   rw [Gd,if_neg (fun e2=>by subst e2; rw [hj] at ho; cases ho)]; exact ho,by cases o <;> simp [Je.like]⟩⟩
 have val:∀ {u v},V w β ((j,Je.map t es)::L3) u v→u.refs (fun id=>(lk ((i,Je.map t es)::L3) id).isSome)=true→V w (upP β i (β.at_ j)) ((i,Je.map t es)::L3) u v:=fun h hr=>(h.stepW stw).drop dr hr
 have some1:∀ id,(lk ((i,Je.map t es)::L3) id).isSome=true→∃ id',(lk ((j,Je.map t es)::L3) id').isSome=true∧(upP β i (β.at_ j)).at_ id=β.at_ id'∧((id=i∧id'=j)∨(id≠i∧id≠j∧id'=id)):=fun id h=>by
  obtain⟨o,ho⟩:=Kj h
  obtain⟨id',h1,h2,h3⟩:=old id o ho
  exact⟨id',by rw [h1]; rfl,h2,h3⟩
 have base0:∀ id o,lk L0 id=some o→id≠i∧id≠j:=fun id o h=>by
  have:=hs.base id (by rw [h]; rfl)
  exact⟨fun e=>ib (e ▸ this),fun e=>jb (e ▸ this)⟩
 have st:=hs.step
 refine⟨⟨hs.sat.hid,fun id b h1 h2=>?_,fun id b k h1 h2=>?_,fun id id2 b h1 h2 h3 h4=>?_,fun id o ho=>?_⟩,
  ⟨st.os,st.tape,st.output,st.size,st.hid,fun b k h=>⟨stab b k (st.stab b k h).1,(st.stab b k h).2⟩,fun b hb hf=>⟨(st.far b hb hf).1,fun id h1 h2=>?_⟩,fun id t cs h=>?_,fun id t cs h=>?_,fun id m n es h=>?_,fun id t k ver xs h=>?_,fun id t k ver hw h=>?_⟩,⟨fun s=>?_⟩,hs.size,hs.base,⟨hs.defers.top,hs.defers.nodup,fun d hd=>?_⟩⟩
 ·obtain⟨id',g1,g2,_⟩:=some1 id h1
  exact hs.sat.bnd id' b g1 (g2.symm.trans h2)
 ·obtain⟨id',g1,g2,_⟩:=some1 id h1
  exact hs.sat.apart id' b k g1 (g2.symm.trans h2)
 ·obtain⟨id',g1,g2,g3⟩:=some1 id h1
  obtain⟨id2',k1,k2,k3⟩:=some1 id2 h2
  have:=hs.sat.inj id' id2' b g1 k1 (g2.symm.trans h3) (k2.symm.trans h4)
  rcases g3 with ⟨rfl,rfl⟩ | ⟨ga,gb,rfl⟩ <;> rcases k3 with ⟨rfl,rfl⟩ | ⟨ka,kb,rfl⟩
  ·rfl
  ·exact(kb this.symm).elim
  ·exact(gb this).elim
  ·exact this
 ·obtain⟨id',g1,g2,g3⟩:=old id o ho
  have h0:=hs.sat.obj id' o g1
  rw [g2]
  have h1:=h0.stepW stw (fun b hb=>rfl)
  refine h1.conv dr ?_
  rcases g3 with ⟨rfl,rfl⟩ | ⟨ga,gb,rfl⟩
  ·rw [li] at ho; cases ho; exact .map
  ·have h4:lk L3 id'=some o:=by rw [Gd,if_neg (Ne.symm ga)] at ho; exact ho
   obtain⟨o2,h5,h6⟩:=h3.get h4
   rw [h4] at h5; cases h5; exact h6
 ·obtain⟨id',g1,g2,_⟩:=some1 id h1
  exact(st.far b hb hf).2 id' g1 (g2.symm.trans h2)
 ·obtain⟨h1,cs',h2⟩:=st.box id t cs h
  obtain⟨n1,n2⟩:=base0 id _ h
  exact⟨(bo id n1).trans h1,cs',by rw [lo id n1 n2]; exact h2⟩
 ·obtain⟨h1,cs',h2⟩:=st.map id t cs h
  obtain⟨n1,n2⟩:=base0 id _ h
  exact⟨(bo id n1).trans h1,cs',by rw [lo id n1 n2]; exact h2⟩
 ·obtain⟨h1,n',es',h2⟩:=st.iter id m n es h
  obtain⟨n1,n2⟩:=base0 id _ h
  exact⟨(bo id n1).trans h1,n',es',by rw [lo id n1 n2]; exact h2⟩
 ·obtain⟨v1,xs1,h1,h2,h3⟩:=st.vec id t k ver xs h
  obtain⟨n1,n2⟩:=base0 id _ h
  exact⟨v1,xs1,by rw [lo id n1 n2]; exact h1,h2,fun e=>⟨(h3 e).1,(bo id n1).trans (h3 e).2.1,(h3 e).2.2⟩⟩
 ·obtain⟨v1,hw1,h1,h2,h3⟩:=st.spare id t k ver hw h
  obtain⟨n1,n2⟩:=base0 id _ h
  exact⟨v1,hw1,by rw [lo id n1 n2]; exact h1,h2,fun e=>⟨(h3 e).1,(bo id n1).trans (h3 e).2.1,(h3 e).2.2⟩⟩
 ·have hv:=hs.frame.tmp s
  rcases hl.get s with e | ⟨e1,e2⟩ | ⟨e1,e2⟩
  ·rw [e]; exact .junk
  ·rw [e2]; rw [e1] at hv
   generalize a.tmps.getD s undef=vv at hv ⊢
   cases hv with
   | data h=>cases h
   | mp h1 h2=>
    rw [l1j] at h1; cases h1
    exact .mp li (bi.trans h2)
  ·rw [e1] at hv; exact val hv e2
 ·obtain⟨D,h1,h2,h3,h4⟩:=hs.defers.each d hd
  refine⟨D,h1,h2,h3,fun id g1 g2=>?_⟩
  obtain⟨id',k1,k2,_⟩:=some1 id g1
  exact h4 id' k1 (k2.symm.trans g2)
theorem Raf {P:Program} {N:Cfg} {ops:Array Oper} {rest:List Oper} {Q:Post} {l:Fr} {L:Loc} (i j:Nat) (o:Je) (l1 l':Fr) (L3:Loc) (ho:∃ t es,o=.map t es) (h1:Fits N.base l L l1 ((j,o)::L3)) (hi:lk L3 i=none) (hj:lk L3 j=none) (h0:Nat.beq i j=false)
  (h2:N.base.contains i=false) (h4:N.base.contains j=false) (h3:G53 (fun id=>(lk ((i,o)::L3) id).isSome) L3 L3) (hl:Rae i j (fun id=>(lk ((i,o)::L3) id).isSome) l1 l')
  (hk:JL P N ops rest Q l' ((i,o)::L3)):JL P N ops rest Q l L:=fun n w0 β0 L0 a w β hs=>by
 obtain⟨t,es,rfl⟩:=ho
 exact hk n w0 β0 L0 a w _ ((hs.fits h1).rename hi hj h0 h2 h4 h3 hl)

theorem Y30 {P:Program} {o:Oper} {l:Fr} {L:Loc} {x y:Operand} {T E k by_ n:Nat} {kd kd':IntKind} {nx ny:Int} (zs:List Value) (ho:o.op=.makeSlice T x y) (hx:ev l x=.sc (.int kd nx)) (hy:ev l y=.sc (.int kd' ny))
  (hT:sliceB P T E k=true) (hE:Rw P E k by_=true) (hz:(P.info? E).bind (fun i=>i.zero.map Value.cells)=some zs.toArray) (hn:nx=(n:Int)) (hm:ny=(n:Int)) (hb:decide (by_*n≤281474976710656∧n≤maxLen∧n*k≤16777216)=true)
  (z:AV) (a2:∀ (w:World) (S:Nat→Nat→Prop) (j:Nat) a b,z.cells[j]? = some a→zs[j]? = some b→D w S a b) (h4:z.cells.length=k) :
  Gz P o l L (Is (.list k (List.replicate n z)) L):=by
 subst hn hm
 intro a w β K Q h0 hf hK
 have h1:=Ks hb
 obtain⟨inf,zv,e1,e2,e3,e4,e5,e6⟩:=Rw.out hE
 have h5:=hf.ev x
 rw [hx] at h5
 have h6:=hf.ev y
 rw [hy] at h6
 have a0:(n:Int)≤9223372036854775807:=by
  have h:=h1.2.1
  simp [maxLen] at h
  omega
 have a3:(inf.bytes:Int)*(n:Int)≤281474976710656:=by
  have h:((inf.bytes*n:Nat):Int)≤281474976710656:=by rw [e3]; have:=h1.1; omega
  rwa [Int.natCast_mul] at h
 have hr:=run_make (P:=P) w T E inf zv (sliceB.out hT).1 e1 e4 kd kd' n n (by omega) (Int.le_refl _) a3 a0
 simp only [Int.toNat_natCast] at hr
 have a1:(execOp a.eval o).run P w=.ok (.value (.slice (some ⟨w.heap.size,0,none⟩) n n)) (w.alloc (.cells (madeCells zv.cells (n*inf.size)) E)):=by
  simp [execOp,ho,h5.inv_sc,h6.inv_sc,hr]
 unfold Oper.wp
 rw [a1]
 have h7:zv.cells=zs.toArray:=by
  rw [e1] at hz
  simp [e4] at hz
  exact hz
 have h2:∀ x∈List.replicate n z,x.cells.length=k:=fun y hy=>by rw [List.eq_of_mem_replicate hy]; exact h4
 have hd:=D.newRow (E:=E) (vs:=madeCells zv.cells (n*inf.size)) h0 h2 (by rw [List.length_replicate]; exact h1.2.1) (by rw [J0 h2,List.length_replicate,size_madeCells,e2]) (fun j u v hu hv=>by
  rw [e2] at hv
  -- the cells
  have h8:∀ x∈List.replicate n z,x.cells.length=k:=fun y hy=>by rw [List.eq_of_mem_replicate hy]; exact h4
  have hj:j < n*k:=by
   have:=(Kw hu).1
   rw [J0 h8] at this
   simpa using this
  have a4:j=j / k*k+j % k:=by rw [Nat.mul_comm]; exact(Nat.div_add_mod j k).symm
  have hq:j / k < n:=Nat.div_lt_of_lt_mul (by rw [Nat.mul_comm]; exact hj)
  have a5:(List.replicate n z)[j / k]? = some z:=by simp [hq]
  rw [a4,G77 h8 a5 (Nat.mod_lt _ e6)] at hu
  have h3:zs.length=k:=by
   have:=e5
   rw [h7] at this
   simpa using this
  refine a2 _ _ (j % k) u v hu ?_
  rw [madeCells] at hv
  simp [hj] at hv
  rw [← hv,h7]
  have h9:j % k < zs.length:=by rw [h3]; exact Nat.mod_lt _ e6
  simp [h3,h9]
  rw [Kx h9]; rfl)
 rw [List.length_replicate] at hd
 exact hK _ _ _ _ β ⟨rfl,rfl⟩ (h0.new _) (Step.new h0 _) (.data hd)
theorem Qdb {P:Program} {o:Oper} {l:Fr} {L:Loc} {x y:Operand} {T E k by_ n:Nat} {kd kd':IntKind} {nx ny:Int} {α:Type} {f:α→AV} (z:α) (zs:List Value) (ho:o.op=.makeSlice T x y) (hx:ev l x=.sc (.int kd nx)) (hy:ev l y=.sc (.int kd' ny))
  (hT:sliceB P T E k=true) (hE:Rw P E k by_=true) (hz:(P.info? E).bind (fun i=>i.zero.map Value.cells)=some zs.toArray) (hn:nx=(n:Int)) (hm:ny=(n:Int)) (hb:decide (by_*n≤281474976710656∧n≤maxLen∧n*k≤16777216)=true)
  (h0:ZOk (f z).cells zs) (h1:(f z).cells.length=k):Gz P o l L (Is (.list k ((List.replicate n z).map f)) L):=by
 have h:=Y30 (P:=P) (T:=T) (E:=E) (L:=L) zs ho hx hy hT hE hz hn hm hb (f z) (fun w S j a b ha h2=>by
  have:=ZOk.get (w:=w) (β:=⟨fun _=>none,fun b i=>¬ S b i⟩) (L:=[]) h0 j a b ha h2
  refine(this.data_of_nil).mono fun b i hs=>⟨Classical.byContradiction fun hn=>hs.seen hn,rfl⟩) h1
 simpa only [List.map_replicate] using h

theorem Jb7 {P:Program} {o:Oper} {a:Act} {w:World} {T E k:Nat} (ho:o.op=.buildSlice T 0 #[]) (hT:sliceB P T E k=true):(execOp a.eval o).run P w=.ok (.value (.slice (some ⟨w.heap.size,0,none⟩) 0 0)) (w.alloc (.cells #[] E)):=by
 have h0:=Jv (sliceB.out hT).2 w
 simp [execOp,ho,Instr.buildSlice,underlying,(sliceB.out hT).1,run_program,Sem.run_bind,Result.andThen_ok,h0,newRow,Instr.fill]
 exact congrArg (fun x=>w.alloc (Obj.cells x E)) (Array.toList_inj.1 (by simp))

def H67 (P:Program) (T f off:Nat):Bool:=
 match P.underlying T with
 | some (.struct fs)=>match fs[f]? with
  | some fld=>fld.offset==off&&R9 P fld.type
  | none=>false
 | _=>false
theorem H67.out {P:Program} {T f off:Nat} (h:H67 P T f off=true):∃ fs fld,P.underlying T=some (.struct fs)∧fs[f]? = some fld∧fld.offset=off∧R9 P fld.type=true:=by
 unfold H67 at h
 split at h
 ·rename_i fs h1
  split at h
  ·rename_i fld h2
   simp only [Ma,beq_iff_eq] at h
   exact⟨fs,fld,h1,h2,h.1,h.2⟩
  ·cases h
 ·cases h

section ops
variable {P:Program} {N:Cfg} {o:Oper} {l:Fr} {L L':Loc} {u:AV} {α:Type}

theorem H53 {x:Operand} {T f off:Nat} {cs:List AV} (hT:H67 P T f off=true) (ho:o.op=.field T x f) (hx:ev l x=.agg cs) (hn:cs[off]? = some u):Gz P o l L (Is u L):=
 Hj fun a w β _ hf=>by
  have h1:=hf.ev x
  rw [hx] at h1
  obtain⟨vs,he,hl,hv⟩:=h1.inv_agg
  have h0:off < vs.size:=by
   rw [hl]
   rcases Kq off cs.length with h | h
   ·exact h
   ·simp [List.getElem?_eq_none h] at hn
  obtain⟨fs,fld,g1,g2,rfl,g4⟩:=H67.out hT
  exact⟨vs[fld.offset],by simp [execOp,ho,Instr.field,underlying,g1,g2,he,asAgg,part,Ge5 g4,h0],hv fld.offset u _ hn (by simp [h0])⟩
end ops

theorem R8a {P:Program} {T E k:Nat} (hT:sliceB P T E k=true) (a:Option Addr) (n c:Nat) (w:World):(Op.equal T (.slice a n c) (.slice none 0 0)).run P w=.ok a.isNone w:=by
 have h:=(sliceB.out hT).1
 unfold Op.equal
 generalize hd:Op.maxDepth=d
 obtain⟨d,rfl⟩:∃ m,d=m+1:=⟨Op.maxDepth - 1,by rw [← hd]; rfl⟩
 clear hd
 cases a with
 | none=>rw [Op.equalIn]; simp [underlying,h]
 | some a=>rw [Op.equalIn]; simp [underlying,h]

def Y0e {α β:Type} [DecidableEq β] (xs:List α) (k:Bool→Option β):Option β:=
 match xs with
 | []=>if k true=k false then k false else none
 | _=>k false
theorem Qb3 {α β γ:Type} [DecidableEq β] {xs:List α} {k:Bool→Option β} {r:β} {f:α→γ} (h:Y0e xs k=some r) (b:Bool) (hb:b=true→xs.map f=[]):k b=some r:=by
 cases xs with
 | nil=>
  have h:(if k true=k false then k false else none)=some r:=h
  by_cases e:k true=k false
  ·rw [if_pos e] at h
   cases b with
   | true=>rw [e]; exact h
   | false=>exact h
  ·rw [if_neg e] at h; cases h
 | cons x l=>
  cases b with
  | true=>have:=hb rfl; cases this
  | false=>exact h
section
variable {P:Program} {o:Oper} {l:Fr} {L:Loc}
theorem R75 {x:Operand} {T T' E k k':Nat} {xs:List AV} (hT:sliceB P T E k'=true) (ho:o.op=.binOp .eql T x (.const (.slice none 0 0)) T') (hx:Q0 (ev l x)=some (k,xs)):Gz P o l L (fun u L'=>∃ b:Bool,(b=true→xs=[])∧u=BL b∧L'=L):=by
 intro a w β K Q h0 hf hK
 have hd:=(hf.ev x).Q0 hx
 have key:∀ ao n c,a.eval x=.slice ao n c→(execOp a.eval o).run P w=.ok (.value (.bool ao.isNone)) w:=fun ao n c e=>by
  have e2:a.eval (.const (.slice none 0 0))=.slice none 0 0:=rfl
  simp [execOp,ho,eqGuard,binOp,e,e2,R8a hT]
 generalize hv:a.eval x=v at hd
 cases hd with
 | nil h=>
  rename_i cap ao
  unfold Oper.wp
  rw [key _ _ _ hv]
  exact hK _ _ _ _ _ ⟨ao.isNone,fun _=>rfl,rfl,rfl⟩ h0 (Step.refl _ _ _) .sc
 | list vals h1 hm hk hS h=>
  unfold Oper.wp
  rw [key _ _ _ hv]
  exact hK _ _ _ _ _ ⟨false,fun e=>(by cases e),rfl,rfl⟩ h0 (Step.refl _ _ _) .sc
theorem Y29 (i E k:Nat) {x:Operand} {ver:Nat} {xs:List AV} (ho:o.op=.assign x) (hx:ev l x=.sc (.slice none 0 0)) (hi:lk L i=some (.vec E k ver xs)):Gz P o l L (Is (.vec i (ver+1) k 0) ((i,.vec E k (ver+1) [])::L)):=by
 intro a w β K Q h0 hf hK
 have hv:=hf.ev x
 rw [hx] at hv
 have hr:(execOp a.eval o).run P w=.ok (.value (.slice none 0 0)) w:=by simp [execOp,ho,hv.inv_sc]
 unfold Oper.wp
 rw [hr]
 obtain⟨st,sat⟩:=Qu (w':=w) (t:=E) (k:=k) (ver1:=ver+1) (xs':=[]) (ob':=none) h0 (.inr ⟨ver,xs,hi,by omega,fun e=>by omega⟩) rfl rfl ⟨rfl,M1⟩ (M1) (fun _ _ _=>rfl) (.inl rfl)
 exact hK _ _ _ w _ ⟨rfl,rfl⟩ (sat ⟨by simp,.inl ⟨rfl,rfl⟩⟩) st (.vec ⟨E,ver+1,[],by rw [Gd,if_pos rfl],M1,fun _=>⟨rfl,.inl ⟨rfl,rfl,by simp [upP]⟩⟩⟩ rfl)
theorem Y2c (i E k:Nat) {T ver:Nat} {xs:List AV} (ho:o.op=.buildSlice T 0 #[]) (hi:lk L i=some (.vec E k ver xs)) (hT:sliceB P T E k=true):Gz P o l L (Is (.vec i (ver+1) k 0) ((i,.vec E k (ver+1) [])::L)):=by
 intro a w β K Q h1 hf hK
 unfold Oper.wp
 rw [Jb7 (E:=E) (k:=k) ho hT]
 have h0:w.heap.size < (w.alloc (.cells #[] E)).heap.size:=by simp
 obtain⟨st,sat⟩:=Qu (w':=w.alloc (.cells #[] E)) (t:=E) (k:=k) (ver1:=ver+1) (xs':=[]) (ob':=some w.heap.size) h1 (.inr ⟨ver,xs,hi,by omega,fun e=>by omega⟩) rfl rfl ⟨rfl,M1⟩ (Nat.le_of_lt h0) (fun b hb _=>Ji w _ hb) (.inr (.inr ⟨_,rfl,M1,h0⟩))
 have hn:=heap_alloc_new w (.cells #[] E)
 exact hK _ _ _ _ _ ⟨rfl,rfl⟩ (sat ⟨by simp,.inr ⟨_,rfl,#[],hn,by simp,fun j u v hu=>by simp [flat] at hu⟩⟩) st (.vec ⟨E,ver+1,[],by rw [Gd,if_pos rfl],M1,fun _=>⟨rfl,.inr ⟨w.heap.size,0,rfl,by simp [upP],M1,Nat.zero_le _,by simp only [World.shape?,hn,Option.bind_some]; simp⟩⟩⟩ rfl)
end

section
variable {P:Program} {o:Oper} {l:Fr} {L:Loc}
theorem J04 {T E k:Nat} (hT:sliceB P T E k=true) {ty:Nat} (w:World) (a s:Option Addr) (m cap q cap2:Nat) (cs:List Value) (h0:m+q≤cap) (hs:s=none→q=0) (h4:cs.length=q*k) (h5:∀ (ad:Addr) (j:Nat) u,s=some ad→cs[j]? = some u→w.cell? (ad.add j)=some u) :
  (Builtin.append_ #[T,T] ty #[.slice a m cap,.slice s q cap2]).run P w=(match a with | some ad=>((storeCells (ad.add (m*k)) cs).run P w).andThen fun _ w=>.ok (.slice a (m+q) cap) w | none=>.ok (.slice a (m+q) cap) w):=by
 obtain⟨h1,h2⟩:=sliceB.out hT
 have h3:=Jv h2 w
 cases s with
 | none=>
  have hq:=hs rfl
  subst hq
  have:cs=[]:=Kn (by rw [h4]; simp)
  subst this
  have h6:m≤cap:=by omega
  cases a <;> simp [Builtin.append_,run_underlying h1,Builtin.lenOf,Builtin.firstCells,h3,storeCells,Result.andThen,h6]
 | some ad=>
  have hl:=run_loadCells_list (P:=P) w ad cs (fun j v h=>h5 ad j v rfl h)
  rw [h4] at hl
  cases a with
  | none=>simp [Builtin.append_,run_underlying h1,Builtin.lenOf,Builtin.firstCells,h3,hl,h0]
  | some a2=>simp [Builtin.append_,run_underlying h1,Builtin.lenOf,Builtin.firstCells,h3,hl,h0]
theorem R4e {d x:Operand} {T E k i ver m:Nat} {xs ys:List AV} (ho:o.op=.call { callee:=.builtin .append,args:=#[d,x],argTypes:=#[T,T] }) (hT:sliceB P T E k=true) (hd:ev l d=.vsl i ver k 0 m) (hi:lk L i=some (.vec E k ver xs)) (hs:Ha0 L k (ev l x) ys) (hc:∀ y∈ys,y.flatOk=true) (h4:m+ys.length≤xs.length) (a4:Nat.blt 0 k=true) :
  Gz P o l L (Is (.vsl i ver k 0 (m+ys.length)) ((i,.vec E k ver (xs.take m++ys++xs.drop (m+ys.length)))::L)):=by
 intro a w β K Q h0 hf hK
 have h6:=hf.ev d
 rw [hd] at h6
 have a5:=h6.inv_vsl0 hi
 obtain⟨h9,asx,cap2,cs,a0,a7,h1,h5,a8⟩:=hs.reads h0 (hf.ev x)
 have b5:(xs.take m++ys++xs.drop (m+ys.length)).length=xs.length:=by
  simp only [M8,List.length_take,List.length_drop]; omega
 have h7:=h0.obj i _ hi
 rcases a5 with ⟨e1,e2,e3⟩ | ⟨b,cap,e1,e2,e3,e4,e5⟩
 ·-- nil: nothing there, nothing to append
  have a9:xs=[]:=by
   rcases h7.2 with ⟨_,h⟩ | ⟨b,h,_⟩
   ·exact h
   ·rw [show β.at_ i=β i from rfl] at e3; rw [e3] at h; cases h
  subst a9
  subst e2
  have b0:ys=[]:=by simpa using h4
  subst b0
  have hr:=J04 (P:=P) hT (ty:=o.type) w none asx 0 0 0 cap2 cs (by omega) (fun _=>rfl) (by simpa using h1) h5
  have h8:(execOp a.eval o).run P w=.ok (.value (.slice none 0 0)) w:=by
   simp [execOp,ho,resolve,invoke,builtin,e1,a0,hr]
  unfold Oper.wp
  rw [h8]
  have hq:G98 L ((i,Je.vec E k ver [])::L):=fun id=>by
   rw [Gd]
   by_cases e:i=id
   ·subst e; rw [if_pos rfl,hi]
   ·rw [if_neg e]
  exact hK _ _ _ w β ⟨rfl,rfl⟩ (h0.locEq hq) ((Step.refl w β L).locEq hq) (.vsl ⟨E,ver,[],by rw [Gd,if_pos rfl]; rfl,M1,fun _=>⟨by simp,⟨none,0,rfl,by simp,Nat.zero_le _,.inl rfl⟩,fun _=>.inl ⟨rfl,rfl,e3⟩⟩⟩ rfl)
 ·have b1:0 < k:=by simpa [Nat.blt_eq] using a4
  have hb:β.at_ i=some b:=e2
  have b3:xs.length≤cap:=by
   rcases h7.2 with ⟨_,hx⟩ | ⟨b',h,vs,h2,h3,_⟩
   ·subst hx; simp
   ·rw [show β i=some b from e2] at h
    cases h
    have hs:vs.size=cap*k:=by
     have:=e5
     simp [World.shape?,h2] at this
     exact this
    rw [hs] at h3
    exact Nat.le_of_mul_le_mul_right h3 b1
  have hr:=J04 (P:=P) hT (ty:=o.type) w (some ⟨b,0,none⟩) asx m cap ys.length cap2 cs (by omega) (fun e=>by rw [a7 e]; rfl) h1 h5
  have h8:(execOp a.eval o).run P w=((Builtin.append_ #[T,T] o.type #[.slice (some ⟨b,0,none⟩) m cap,.slice asx ys.length cap2]).run P w).andThen fun v w=>.ok (.value v) w:=by
   simp [execOp,ho,resolve,invoke,builtin,e1,a0]
   try rfl
  have hV:V w β L (.vsl i ver k 0 (m+ys.length)) (.slice (some ⟨b,0,none⟩) (m+ys.length) cap):=
   .vsl ⟨E,ver,xs,hi,M1,fun _=>⟨by omega,⟨_,cap,rfl,by omega,e4,.inr ⟨b,e2,by simp⟩⟩,fun _=>.inr ⟨b,cap,rfl,e2,by omega,e4,e5⟩⟩⟩ rfl
  obtain⟨q1,vs,q2,q3,q4⟩:=Gcb h0 hi hb
  have b4:m*k+ys.length*k≤xs.length*k:=by rw [← Nat.add_mul]; exact Nat.mul_le_mul_right _ h4
  have a1:∀ (j:Nat) u x,(flat ys)[j]? = some u→cs[j]? = some x→D w (Hv w β L) u x:=fun j u x hu hx=>a8 j u x hu hx
  have b2:∀ v∈cs,v.oneCell'=true:=fun v hv=>by
   obtain⟨j,hj⟩:=List.mem_iff_getElem?.1 hv
   have a2:=(Kw hj).1
   rw [h1] at a2
   have hu:(flat ys)[j]? = some ((flat ys)[j]'(by rw [J0 h9]; exact a2)):=Kx _
   exact(V.data (a1 j _ v hu hj)).cell (H4a hc (Kz hu))
  have a3:=run_storeCells_at P b (m*k) E cs 0 vs w q2 (by rw [h1]; omega) b2
  simp only [Nat.add_zero] at a3
  obtain⟨st,sat⟩:=J28 (off:=m) (zs:=ys) (cs:=cs) h0 hi hb q2 h9 (by rw [h1]) h4 a1
  unfold Oper.wp
  rw [h8,hr]
  have a6:(⟨b,0,none⟩:Addr).add (m*k)=⟨b,m*k,none⟩:=by simp [Addr.add_lit]
  simp only [a6,a3,Result.andThen]
  exact hK _ _ _ _ _ ⟨rfl,rfl⟩ sat st (hV.step st)
end
set_option linter.unusedVariables false

section moves
variable {w w':World} {β:Gu} {L:Loc} {i t k ver1 hw1:Nat}
end moves

section ops
variable {P:Program} {N:Cfg} {Q:Post} {o:Oper} {ops:Array Oper} {rest:List Oper} {l:Fr} {L:Loc}

end ops

section freeze
variable {P:Program} {N:Cfg} {Q:Post} {l l':Fr} {L L':Loc}

inductive Y26 (i ver n:Nat) (pre:List AV) (last:AV) (ys:List AV) (ok:Nat→Bool):AV→AV→Prop
 | conv {u u':AV} (h:Conv ok u u'):Y26 i ver n pre last ys ok u u'
 | nst:Y26 i ver n pre last ys ok (.nst i ver n pre last) (.list 1 ys)
def J75 (i ver n:Nat) (pre:List AV) (last:AV) (ys:List AV) (ok:Nat→Bool) (l:Fr):Fr→Prop
 | []=>True
 | (t,u)::r=>Y26 i ver n pre last ys ok (look l t) u∧J75 i ver n pre last ys ok l r
theorem J75.get {i ver n:Nat} {pre:List AV} {last:AV} {ys:List AV} {ok:Nat→Bool} {l:Fr}:∀ {l':Fr},J75 i ver n pre last ys ok l l'→∀ t,Y26 i ver n pre last ys ok (look l t) (look l' t)
 | [],_,t=>.conv .junk
 | (s,u)::r,h,t=>by
  simp only [look]
  cases hb:Nat.beq s t with
  | true=>have:=Ko hb; subst this; exact h.1
  | false=>exact J75.get h.2 t

end freeze

/-! ### Typed -/
section typed
variable {α:Type}
end typed
set_option linter.unusedVariables false

section sound
variable {P:Program} {N:Cfg} {ops:List Oper} {ws los his:List Nat} {Ls:List Loc} {l0:Fr} {val:Nat→AV}

end sound
set_option linter.unusedVariables false

section typed
variable {P:Program} {N:Cfg} {Q:Post} {o:Oper} {ops:Array Oper} {rest:List Oper} {l:Fr} {L:Loc} {α:Type}

end typed
set_option linter.unusedVariables false

inductive Cv:AV→AV→Prop
 | same {u:AV}:Cv u u
 | agg {cs ds:List AV} (hl:ds.length=cs.length) (h:∀ (j:Nat) u u',cs[j]? = some u→ds[j]? = some u'→Cv u u'):Cv (.agg cs) (.agg ds)
 | list {k:Nat} {xs ys:List AV} (hl:ys.length=xs.length) (hk:∀ (j:Nat) x y,xs[j]? = some x→ys[j]? = some y→y.cells.length=x.cells.length) (h:∀ (j:Nat) u u',(flat xs)[j]? = some u→(flat ys)[j]? = some u'→Cv u u'):Cv (.list k xs) (.list k ys)
 | lst {k:Nat} {xs ys zs:List AV} (h:Cv (.list k xs) (.list k ys)):Cv (.lst k xs zs) (.list k ys)
 | tail {k:Nat} {xs ys:List AV} (h:Cv (.list k xs) (.list k ys)):Cv (.list k xs) (.lst k ys [])
def CvL:List AV→List AV→Prop
 | [],[]=>True
 | u::r,u'::r'=>Cv u u'∧CvL r r'
 | _,_=>False
theorem CvL.len:∀ {cs ds:List AV},CvL cs ds→ds.length=cs.length
 | [],[],_=>rfl
 | _::_,_::_,h=>by rw [M4,M4,CvL.len h.2]
 | [],_::_,h=>h.elim
 | _::_,[],h=>h.elim
theorem CvL.get:∀ {cs ds:List AV},CvL cs ds→∀ (j:Nat) u u',cs[j]? = some u→ds[j]? = some u'→Cv u u'
 | [],[],_,j,u,u',h,_=>by simp at h
 | _::_,_::_,h,0,u,u',h1,h2=>by simp at h1 h2; subst h1 h2; exact h.1
 | _::_,_::_,h,j+1,u,u',h1,h2=>CvL.get h.2 j u u' (by simpa using h1) (by simpa using h2)
 | [],_::_,h,_,_,_,_,_=>h.elim
 | _::_,[],h,_,_,_,_,_=>h.elim
section typed
variable {α β:Type} {f:α→AV} {g:β→AV} {k:Nat}
abbrev Ln (α:Type):=List α×List α
abbrev LT {α:Type} (k:Nat) (f:α→AV) (e:Ln α):AV:=.lst k (e.1.map f) (e.2.map f)
end typed

section ops
variable {P:Program} {N:Cfg} {o:Oper} {l:Fr} {L L':Loc} {u u':AV} {α:Type}
theorem D.cut {w:World} {S:Nat→Nat→Prop} {k n:Nat} {xs:List AV} {a:Option Addr} {len cap:Nat} (h:D w S (.list k xs) (.slice a len cap)) (hn:n≤xs.length) :
  D w S (.lst k (xs.take n) (xs.drop n)) (.slice (if cap=0 then a else a.map (·.add (0*k))) n cap):=by
 cases h with
 | nil h=>
  have:n=0:=by simpa using hn
  subst this
  simp only [List.take_nil,List.drop_nil]
  exact .lnil h
 | @list _ b off _ _ vals h0 hm hk hS h=>
  have e:(if cap=0 then some (⟨b,off,none⟩:Addr) else (some (⟨b,off,none⟩:Addr)).map (·.add (0*k)))=some ⟨b,off,none⟩:=by
   split <;> simp [Addr.add_lit]
  rw [e]
  have hl:(xs.take n).length=n:=by rw [List.length_take]; omega
  have:=D.lst (w:=w) (S:=S) (k:=k) (b:=b) (off:=off) (cap:=cap) (xs:=xs.take n) (ys:=xs.drop n) vals (by rw [← M8,List.take_append_drop]; exact h0) hm (by rw [List.take_append_drop]; exact hk) (by rw [List.take_append_drop]; exact hS) (by rw [List.take_append_drop]; exact h)
  rwa [hl] at this
end ops

theorem H10 {P:Program} {T E k:Nat} (hT:sliceB P T E k=true) (a:Option Addr) (len cap m n:Nat) (lo hi:Option Value) (w:World) (h0:m≤n) (hn:n≤cap)
  (h4:(lo=none∧m=0)∨∃ kd,lo=some (.int kd m)) (h5:(hi=none∧n=len)∨∃ kd,hi=some (.int kd n)) :
  (Instr.sliceAt T (.slice a len cap) lo hi none).run P w=.ok (.slice (if cap=m then a else a.map (·.add (m*k))) (n - m) (cap - m)) w:=by
 obtain⟨h1,h2⟩:=sliceB.out hT
 have h3:=Jv h2 w
 have hb:∀ (kd:IntKind) (i:Nat) (y:Nat) (c:BoundsCode),i≤y→(Instr.sliceBound (.int kd (i:Int)) y c).run P w=.ok i w:=fun kd i y c hi=>by
  have:(0:Int)≤i∧(i:Int)≤y:=⟨by omega,by omega⟩
  simp [Instr.sliceBound,asIntOf,this]
 have hs:(Instr.sliceBounds true len cap lo hi none).run P w=.ok (m,n,cap) w:=by
  rcases h4 with ⟨rfl,rfl⟩ | ⟨kd,rfl⟩ <;> rcases h5 with ⟨rfl,rfl⟩ | ⟨kd',rfl⟩
  ·simp [Instr.sliceBounds]
  ·simp [Instr.sliceBounds,hb _ n cap _ (by omega)]
  ·simp [Instr.sliceBounds,hb _ m n _ h0]
  ·simp [Instr.sliceBounds,hb _ m n _ h0,hb _ n cap _ (by omega)]
 simp [Instr.sliceAt,Instr.slice,run_underlying h1,hs,h3]
theorem R2b {P:Program} {T E k:Nat} (hT:sliceB P T E k=true) (a:Option Addr) (len cap m n x:Nat) (k1 k2 k3:IntKind) (w:World) (h0:m≤n) (hn:n≤x) (hx:x≤cap) :
  ∃ v,(Instr.sliceAt T (.slice a len cap) (some (.int k1 m)) (some (.int k2 n)) (some (.int k3 x))).run P w=.ok v w:=by
 obtain⟨h1,h2⟩:=sliceB.out hT
 have h3:=Jv h2 w
 have hb:∀ (kd:IntKind) (i:Nat) (y:Nat) (c:BoundsCode),i≤y→(Instr.sliceBound (.int kd (i:Int)) y c).run P w=.ok i w:=fun kd i y c hi=>by
  have:(0:Int)≤i∧(i:Int)≤y:=⟨by omega,by omega⟩
  simp [Instr.sliceBound,asIntOf,this]
 have hs:(Instr.sliceBounds true len cap (some (.int k1 m)) (some (.int k2 n)) (some (.int k3 x))).run P w=.ok (m,n,x) w:=by
  simp [Instr.sliceBounds,hb _ m n _ h0,hb _ n x _ hn,hb _ x cap _ hx]
 exact⟨_,by simp [Instr.sliceAt,Instr.slice,run_underlying h1,hs,h3]; rfl⟩

theorem Jf3.one {w:World} {ob:Option Nat} {t k n c:Nat} {v:Value} (h:Jf3 w ob t k n c v):v.oneCell'=true:=by
 rcases h with ⟨rfl,_⟩ | ⟨b,rfl,_⟩ <;> rfl

section state
variable {N:Cfg} {l:Fr} {L:Loc} {w0 w:World} {β0 β:Gu} {L0:Loc} {a:Act}
theorem Jt.over {s:Nat} {u:AV} (h:Jt a w β L l) (hv:V w β L u (a.tmps.getD s undef)):Jt a w β L ((s,u)::l):=⟨fun t=>by
 rw [look]
 cases hb:Nat.beq s t with
 | true=>have:=Ko hb; subst this; exact hv
 | false=>exact h.tmp t⟩
theorem R1.vcap (hs:R1 N w0 β0 L0 a w β l L) {s i ver k n t:Nat} {xs:List AV} (h1:look l s=.vec i ver k n) (hi:lk L i=some (.vec t k ver xs)):∃ c,xs.length≤c∧c≤maxLen∧R1 N w0 β0 L0 a w β ((s,.vcap i ver k xs.length c)::l) L:=by
 have hv:=hs.frame.tmp s
 rw [h1] at hv
 obtain⟨rfl,_,h⟩:=G37 hs.sat hi hv
 suffices h0:∃ c,xs.length≤c∧c≤maxLen∧Jf3 w (β.at_ i) t k xs.length c (a.tmps.getD s undef) from by
  obtain⟨c,c1,c2,c3⟩:=h0
  exact⟨c,c1,c2,hs.sat,hs.step,hs.frame.over (.vcap ⟨t,ver,xs,hi,M1,fun _=>c3⟩ c3.one),hs.size,hs.base,hs.defers⟩
 rcases h with ⟨e1,rfl,e3⟩ | ⟨b,cap,vs,e1,e2,e3,e4,e5,e6,_⟩
 ·exact⟨0,M1,Nat.zero_le _,.inl ⟨e1,rfl,rfl,e3⟩⟩
 ·exact⟨cap,e3,e4,.inr ⟨b,e1,e2,e3,e4,by simp [World.shape?,e5,e6]⟩⟩

theorem R1.vcut (hs:R1 N w0 β0 L0 a w β l L) {s i ver k m t:Nat} {xs:List AV} (h1:look l s=.vsl i ver k 0 m) (hi:lk L i=some (.vec t k ver xs)) :
  ∃ β',R1 N w0 β0 L0 a w β' ((s,.vec i (ver+1) k m)::l) ((i,.vec t k (ver+1) (xs.take m))::L):=by
 have hv:=hs.frame.tmp s
 rw [h1] at hv
 have hc:=hv.inv_vsl0 hi
 obtain⟨_,hm,_⟩:=hv.inv_vsl hi
 rw [Nat.zero_add] at hm
 obtain⟨o1,o2⟩:=hs.sat.obj i _ hi
 have h0:(xs.take m).length=m:=by rw [List.length_take]; omega
 have hk:∀ y∈xs.take m,y.cells.length=k:=fun y hy=>o1 y (List.mem_of_mem_take hy)
 obtain⟨st,sat⟩:=Qu (w':=w) (t:=t) (k:=k) (ver1:=ver+1) (xs':=xs.take m) (ob':=β.at_ i) hs.sat (.inr ⟨ver,xs,hi,by omega,fun e=>by omega⟩) rfl rfl ⟨rfl,M1⟩ (M1) (fun _ _ _=>rfl) (.inr (.inl ⟨by rw [inL,hi]; rfl,rfl⟩))
 have h2:(a.tmps.getD s undef).oneCell'=true:=by
  rcases hc with ⟨e,_⟩ | ⟨b,cap,e,_⟩ <;> rw [e] <;> rfl
 have sat':=sat ⟨hk,?_⟩
 ·refine⟨_,sat',hs.step.trans st,(hs.frame.step st).over (.vec ⟨t,ver+1,_,by rw [Gd,if_pos rfl],M1,fun _=>⟨h0.symm,?_⟩⟩ h2),hs.size,hs.base,hs.defers.step st⟩
  rcases hc with ⟨e1,e2,e3⟩ | ⟨b,cap,e1,e2,e3,e4,e5⟩
  ·exact .inl ⟨e1,e2,by simpa [upP] using e3⟩
  ·exact .inr ⟨b,cap,e1,by simpa [upP] using e2,e3,e4,e5⟩
 ·rcases o2 with ⟨o2,rfl⟩ | ⟨b',o2,vs,o3,o4,o5⟩
  ·exact .inl ⟨o2,by simp⟩
  ·refine .inr ⟨b',o2,vs,o3,Nat.le_trans (Nat.mul_le_mul_right _ (by rw [h0]; exact hm)) o4,fun j u v hu hv=>?_⟩
   rw [G4c o1] at hu
   have hj:=(Kw hu).1
   rw [List.length_take] at hj
   rw [M6,if_pos (by omega)] at hu
   exact(o5 j u v hu hv).mono st.stab
theorem R1.vgive (hs:R1 N w0 β0 L0 a w β l L) {s i ver k n t:Nat} {xs:List AV} (ver1:Nat) (h1:look l s=.vec i ver k n) (hi:lk L i=some (.vec t k ver xs)) (h7:ver < ver1) :
  ∃ β',R1 N w0 β0 L0 a w β' ((s,.list k xs)::l) ((i,.vec t k ver1 [])::L):=by
 have hv:=hs.frame.tmp s
 rw [h1] at hv
 obtain⟨rfl,hk,h⟩:=G37 hs.sat hi hv
 obtain⟨st,sat⟩:=Qu (w':=w) (t:=t) (k:=k) (ver1:=ver1) (xs':=[]) (ob':=none) hs.sat (.inr ⟨ver,xs,hi,by omega,fun e=>by omega⟩) rfl rfl ⟨rfl,M1⟩ (M1) (fun _ _ _=>rfl) (.inl rfl)
 have sat':=sat ⟨by simp,.inl ⟨rfl,rfl⟩⟩
 refine⟨_,sat',hs.step.trans st,(hs.frame.step st).over ?_,hs.size,hs.base,hs.defers.step st⟩
 rcases h with ⟨e,rfl,_⟩ | ⟨b,cap,vs,e,hb,h1,h2,h3,h4,h5⟩
 ·rw [e]; exact .data (.nil (Nat.zero_le _))
 ·rw [e]
  have h0:∀ j,j < (flat xs).length→j < vs.size:=fun j hj=>by
   rw [J0 hk] at hj
   have:=Nat.mul_le_mul_right k h1
   omega
  refine .data (.list (fun j=>vs.getD j undef) h1 h2 hk (fun j hj=>⟨⟨(Kk h3).1,hs.sat.apart i b _ (by rw [hi]; rfl) hb,fun id o ho h6=>?_⟩,?_⟩) (fun j u hu=>?_))
  ·rw [Gd] at ho
   by_cases e:i=id
   ·subst e; simp [upP] at h6
   ·rw [if_neg e] at ho
    have hb'':β.at_ id=some b:=by simpa [upP,Ne.symm e] using h6
    exact absurd (hs.sat.inj i id b (by rw [hi]; rfl) (by rw [ho]; rfl) hb hb'') e
  ·have:=h0 j hj
   simp [World.cell?,h3,this]
  ·have hj:=(Kw hu).1
   have:=h0 j hj
   refine(h5 j u _ hu ?_).mono st.stab
   simp [this]
end state

section ghosts
variable {P:Program} {N:Cfg} {Q:Post} {l:Fr} {L:Loc} {ops:Array Oper} {rest:List Oper} {c:Code}
theorem Y24 (s:Nat) {i ver k m t:Nat} {xs:List AV} (h1:look l s=.vsl i ver k 0 m) (hi:lk L i=some (.vec t k ver xs)) (hk:JC P N c Q ((s,.vec i (ver+1) k m)::l) ((i,.vec t k (ver+1) (xs.take m))::L)):JC P N c Q l L:=
 fun n w0 β0 L0 a w β hs=>by
  obtain⟨β',h⟩:=hs.vcut h1 hi
  exact hk n w0 β0 L0 a w β' h
theorem Re5 (s:Nat) {i ver k m t:Nat} {xs:List AV} (ver1:Nat) (h1:look l s=.vec i ver k m) (hi:lk L i=some (.vec t k ver xs)) (h0:ver < ver1) (hk:JL P N ops rest Q ((s,.list k xs)::l) ((i,.vec t k ver1 [])::L)):JL P N ops rest Q l L:=
 fun n w0 β0 L0 a w β hs=>by
  obtain⟨β',h⟩:=hs.vgive ver1 h1 hi h0
  exact hk n w0 β0 L0 a w β' h
end ghosts

section ops
variable {P:Program} {N:Cfg} {o:Oper} {l:Fr} {L:Loc} {u:AV}
theorem Rba {x p q r:Operand} {T E k i ver n lo hi mx:Nat} {k1 k2 k3:IntKind} {z1 z2 z3:Int} {xs:List AV} (ho:o.op=.slice T x (some p) (some q) (some r)) (hT:sliceB P T E k=true) (hx:ev l x=.vec i ver k n) (hL:lk L i=some (.vec E k ver xs))
  (hp:ev l p=.sc (.int k1 z1)) (hq:ev l q=.sc (.int k2 z2)) (hr:ev l r=.sc (.int k3 z3)) (e1:z1=(lo:Int)) (e2:z2=(hi:Int)) (e3:z3=(mx:Int)) (h1:lo≤hi) (h2:hi≤mx) (h3:mx≤xs.length):Gz P o l L (Is .junk L):=
 Hj fun a w β h0 hf=>by
  subst e1 e2 e3
  have hv:=hf.ev x
  rw [hx] at hv
  have v1:=hf.ev p; rw [hp] at v1
  have v2:=hf.ev q; rw [hq] at v2
  have v3:=hf.ev r; rw [hr] at v3
  obtain⟨rfl,a',cap,he,h5,h6,h7⟩:=Hfa h0 hL hv
  obtain⟨v,h4⟩:=R2b (P:=P) hT a' xs.length cap lo hi mx k1 k2 k3 w h1 h2 (by omega)
  refine⟨v,?_,.junk⟩
  simp only [execOp,ho,he,Sem.run_bind,Option.map_some,v1.inv_sc,v2.inv_sc,v3.inv_sc]
  rw [h4]
  rfl
theorem Qd7 {x:Operand} {T E k i ver n lo hi:Nat} {lop h0:Option Operand} {xs:List AV} (ho:o.op=.slice T x lop h0 none) (hT:sliceB P T E k=true) (hx:ev l x=.vsl i ver k 0 n) (hL:lk L i=some (.vec E k ver xs))
  (h7:(lop=none∧lo=0)∨∃ kd p,lop=some p∧ev l p=.sc (.int kd lo)) (h8:(h0=none∧hi=n)∨∃ kd p,h0=some p∧ev l p=.sc (.int kd hi)) (h1:lo≤hi) (h2:hi≤xs.length) (h5:Nat.blt 0 k=true) :
  Gz P o l L (Is (.vsl i ver k lo (hi - lo)) L):=
 Hj fun a w β h6 hf=>by
  have h9:0 < k:=by simpa [Nat.blt_eq] using h5
  have hv:=hf.ev x
  rw [hx] at hv
  obtain⟨_,hn,_⟩:=hv.inv_vsl hL
  obtain⟨_,o2⟩:=h6.obj i _ hL
  have h3:(lop.map a.eval=none∧lo=0)∨∃ kd,lop.map a.eval=some (.int kd lo):=by
   rcases h7 with ⟨rfl,h⟩ | ⟨kd,p,rfl,hp⟩
   ·exact .inl ⟨rfl,h⟩
   ·have:=hf.ev p; rw [hp] at this
    exact .inr ⟨kd,by simp [this.inv_sc]⟩
  have h4:(h0.map a.eval=none∧hi=n)∨∃ kd,h0.map a.eval=some (.int kd hi):=by
   rcases h8 with ⟨rfl,h⟩ | ⟨kd,p,rfl,hp⟩
   ·exact .inl ⟨rfl,h⟩
   ·have:=hf.ev p; rw [hp] at this
    exact .inr ⟨kd,by simp [this.inv_sc]⟩
  rcases hv.inv_vsl0 hL with ⟨e1,e2,e3⟩ | ⟨b,cap,e1,e2,e3,e4,e5⟩
  ·have a0:xs=[]:=by
    rcases o2 with ⟨_,o2⟩ | ⟨b',o2,_⟩
    ·exact o2
    ·rw [show β i=β.at_ i from rfl,e3] at o2; cases o2
   subst a0
   have:hi=0:=by simpa using h2
   subst this
   have:lo=0:=by omega
   subst this
   refine⟨.slice none 0 0,?_,.vsl ⟨E,ver,[],hL,M1,fun _=>⟨by simp,⟨none,0,rfl,M1,Nat.zero_le _,.inl rfl⟩,fun _=>.inl ⟨rfl,rfl,e3⟩⟩⟩ rfl⟩
   simp only [execOp,ho,e1,Sem.run_bind,Option.map_none]
   rw [H10 hT none 0 0 0 0 _ _ w (M1) (M1) h3 (h4.imp (fun h=>⟨h.1,rfl⟩) id)]
   rfl
  ·have a1:xs.length≤cap:=by
    rcases o2 with ⟨_,o2⟩ | ⟨b',o2,vs,o3,o4,_⟩
    ·subst o2; simp
    ·rw [show β i=β.at_ i from rfl,e2] at o2; cases o2
     have hs:vs.size=cap*k:=by simpa [World.shape?,o3] using e5
     rw [hs] at o4
     exact Nat.le_of_mul_le_mul_right o4 h9
   refine⟨.slice (if cap=lo then some ⟨b,0,none⟩ else (some ⟨b,0,none⟩:Option Addr).map (·.add (lo*k))) (hi - lo) (cap - lo),?_,.vsl ⟨E,ver,xs,hL,M1,fun _=>⟨by omega,⟨_,_,rfl,by omega,by omega,?_⟩,fun h=>?_⟩⟩ rfl⟩
   ·simp only [execOp,ho,e1,Sem.run_bind,Option.map_none]
    rw [H10 hT (some ⟨b,0,none⟩) n cap lo hi _ _ w h1 (by omega) h3 h4]
    rfl
   ·by_cases h:hi - lo=0
    ·exact .inl h
    ·refine .inr ⟨b,e2,?_⟩
     rw [if_neg (by omega)]
     simp [Addr.add_lit]
   ·subst h
    refine .inr ⟨b,cap,?_,e2,by omega,e4,e5⟩
    split <;> simp [Addr.add_lit]
theorem Rf1 {x:Operand} {T E k k' i ver off n:Nat} {xs:List AV} (ho:o.op=.call { callee:=.builtin .len,args:=#[x],argTypes:=#[T] }) (hT:sliceB P T E k'=true) (hx:ev l x=.vsl i ver k off n) (hL:lk L i=some (.vec E k ver xs)):Gz P o l L (Is (I64 (n:Int)) L):=
 Hj fun a w β h0 hf=>by
  have hv:=hf.ev x
  rw [hx] at hv
  obtain⟨_,_,a',cap,e1,_⟩:=hv.inv_vsl hL
  refine⟨.int .i64 n,?_,.sc⟩
  simp [execOp,ho,resolve,invoke,builtin,Builtin.len_,underlying,(sliceB.out hT).1,e1,goInt]

/-! ### Typed elements -/
theorem Qdf {α:Type} {d x:Operand} {T E k i ver m:Nat} {f:α→AV} {xs ys:List α} (ho:o.op=.call { callee:=.builtin .append,args:=#[d,x],argTypes:=#[T,T] }) (hT:sliceB P T E k=true) (hd:ev l d=.vsl i ver k 0 m) (hi:lk L i=some (.vec E k ver (xs.map f))) (hs:Ha0 L k (ev l x) (ys.map f)) (hc:∀ y,(f y).flatOk=true) (h0:m+ys.length≤xs.length) (h1:Nat.blt 0 k=true) :
  Gz P o l L (Is (.vsl i ver k 0 (m+ys.length)) ((i,.vec E k ver ((xs.take m++ys++xs.drop (m+ys.length)).map f))::L)):=by
 have h:=R4e (P:=P) (m:=m) ho hT hd hi hs (fun y hy=>by
  obtain⟨z,_,rfl⟩:=Me.1 hy
  exact hc z) (by simpa using h0) h1
 simp only [List.map_append,List.map_take,List.map_drop]
 simpa only [Mc] using h
end ops

section lits
variable {P:Program} {o:Oper} {l:Fr} {L:Loc}
end lits

section lits
variable {P:Program} {o:Oper} {l:Fr} {L:Loc}
theorem Rbe (i:Nat) {T E k n ver1:Nat} {parts:List (Nat×Operand)} {xs:List AV} (ho:o.op=.buildSlice T n parts.toArray) (hd:G2a l (parts.map (·.2)) xs) (hT:sliceB P T E k=true) (hz:Qo P E k=true)
  (h4:parts.map (·.1)=List.range n) (hc:Gaa k xs=true) (hn:Nat.ble (n*k) 16777216=true) (b1:Nat.blt 0 k=true) (hi:lk L i=none):Gz P o l L (Is (.vec i ver1 k xs.length) ((i,.vec E k ver1 xs)::L)):=by
 intro a w β K Q a8 hf hK
 have a9:=hd.length
 have b2:n=xs.length:=by
  have:=congrArg List.length h4
  simp only [Mc,List.length_range] at this a9
  omega
 subst b2
 have a2:=G94 hc
 have a3:∀ x∈xs,x.cells.length=k:=fun x hx=>(a2 x hx).1
 have h8:∀ x∈xs,x.isData=true:=by
  intro x hx
  obtain⟨j,hj,e⟩:=List.mem_iff_getElem.1 hx
  have b3:j < (parts.map (·.2)).length:=by omega
  exact e ▸ (hd.get (j:=j) (x:=(parts.map (·.2))[j]) (u:=xs[j]) (Kx b3) (Kx hj)).2
 have h9:=H18 (k:=k) xs 0 (List.replicate (xs.length*k) .junk) (by simp) a2
 obtain⟨inf,z,b4,b5,b9⟩:=Qo.out hz
 let zs:Array Value:=if xs.length*k=0 then #[] else z.cells
 obtain⟨vs',e1,e2,e3⟩:=Gcf (w:=w) (β:=β) (L:=L) (qs:=parts.map fun p=>(p.1,a.eval p.2)) (vs:=(Array.range (xs.length*k)).map (zs[· % zs.size]!)) h9 (by
   have:=congrArg List.length h4
   simp only [Mc,List.length_range] at this
   simp [this]) (fun j p q hp hq=>by
   simp only [M5,Option.map_eq_some_iff] at hq
   obtain⟨y,hy,rfl⟩:=hq
   rw [List.getElem?_zip_eq_some] at hp
   obtain⟨b6,b7⟩:=hp
   have h3:(parts.map (·.1))[j]? = (List.range xs.length)[j]? := by rw [h4]
   simp only [M5,hy,Option.map_some] at h3
   rw [List.range_eq_range',b6] at h3
   have:=(hd.get (j:=j) (x:=y.2) (u:=p.2) (by rw [M5,hy]; rfl) b7)
   have hv:=(hf.ev y.2).plain
   rw [this.1] at hv
   exact⟨(Ky h3).symm,hv⟩) (by simp) (fun j u v hu _=>by
   have:=List.eq_of_mem_replicate (Kz hu)
   subst this; exact .junk)
 have a0:(List.take (0*k) (List.replicate (xs.length*k) AV.junk))++flat xs=flat xs:=by simp
 rw [a0] at e2 e3
 have hr:(execOp a.eval o).run P w=.ok (.value (.slice (some ⟨w.heap.size,0,none⟩) xs.length xs.length)) (w.alloc (.cells vs' E)):=by
  have a4:=Jv (sliceB.out hT).2 w
  have b8:xs.length*k≤16777216:=by simpa using hn
  have a5:¬ (xs.length*k > 2 ^ 24):=by
   have:(2:Nat) ^ 24=16777216:=by decide
   omega
  have hp:(parts.toArray.map fun(x:Nat×Operand)=>(x.1,a.eval x.2)).toList=parts.map fun p=>(p.1,a.eval p.2):=by simp
  by_cases h0:xs.length*k=0
  ·have h5:zs=#[]:=by simp only [zs,if_pos h0]
   rw [h5] at e1
   simp only [execOp,ho,Instr.buildSlice,underlying,(sliceB.out hT).1,run_program,Sem.run_bind,Result.andThen_ok,a4,a5,if_false,Sem.run_pure,if_pos h0,hp,e1,newRow,run_newObj]
   rfl
  ·have h5:zs=z.cells:=by simp only [zs,if_neg h0]
   rw [h5] at e1
   simp only [execOp,ho,Instr.buildSlice,underlying,(sliceB.out hT).1,run_program,Sem.run_bind,Result.andThen_ok,a4,a5,if_false,Sem.run_pure,if_neg h0,zeroValue,typeInfo,b4,b5,hp,e1,newRow,run_newObj]
   rfl
 unfold Oper.wp
 rw [hr]
 have b0:xs.length≤maxLen:=by
  have h1:xs.length*k≤16777216:=by simpa using hn
  have h2:0 < k:=by simpa [Nat.blt_eq] using b1
  have:xs.length*1≤xs.length*k:=Nat.mul_le_mul_left _ h2
  simp only [maxLen]; omega
 have a6:(flat xs).length=xs.length*k:=J0 a3
 have a1:∀ b',b' < w.heap.size→(w.alloc (.cells vs' E)).heap[b']? = w.heap[b']? := fun b' h6=>Ji w _ h6
 have h7:(w.alloc (.cells vs' E)).heap[w.heap.size]? = some (.cells vs' E (0,0)):=by
  show (w.heap.push (.cells vs' E))[w.heap.size]? = _
  simp
 have a7:(w.alloc (.cells vs' E)).heap.size=w.heap.size+1:=by
  show (w.heap.push (.cells vs' E)).size=_
  simp
 obtain⟨st,sat⟩:=Qu (w':=w.alloc (.cells vs' E)) (t:=E) (k:=k) (ver1:=ver1) (xs':=xs) (ob':=some w.heap.size) a8 (.inl hi) rfl rfl ⟨rfl,M1⟩ (by rw [a7]; omega) (fun b' h6 _=>a1 b' h6) (.inr (.inr ⟨_,rfl,M1,by rw [a7]; omega⟩))
 refine hK _ _ _ _ _ ⟨rfl,rfl⟩ (sat ⟨a3,.inr ⟨_,rfl,vs',h7,by rw [e2,a6]; exact M1,fun j u v hu hv=>?_⟩⟩) st (.vec ⟨E,ver1,xs,by rw [Gd,if_pos rfl],M1,fun _=>⟨rfl,.inr ⟨w.heap.size,xs.length,rfl,by simp [upP],M1,b0,by unfold World.shape?; rw [h7]; simp only [e2,a6]⟩⟩⟩ rfl)
 exact((e3 j u v hu hv).toD (Gfe h8 u (Kz hu))).mono st.stab
theorem Jf8 {α:Type} (i:Nat) {T E k n ver1:Nat} {parts:List (Nat×Operand)} {f:α→AV} (xs:List α) (ho:o.op=.buildSlice T n parts.toArray) (hd:G2a l (parts.map (·.2)) (xs.map f)) (hT:sliceB P T E k=true) (hz:Qo P E k=true)
  (h0:parts.map (·.1)=List.range n) (hc:Gaa k (xs.map f)=true) (hn:Nat.ble (n*k) 16777216=true) (h1:Nat.blt 0 k=true) (hi:lk L i=none):Gz P o l L (Is (.vec i ver1 k xs.length) ((i,.vec E k ver1 (xs.map f))::L)):=by
 have h:=Rbe (P:=P) (ver1:=ver1) i ho hd hT hz h0 hc hn h1 hi
 simpa only [Mc] using h
end lits

section code
variable {κ:Type} {E:G0b κ} {P:Program} {N:Cfg} {Q:G5a κ} {l:Fr} {L:Loc} {k:κ}
theorem Y1e {x y:Code} {X:Type} (I:X→Prop) (F:X→Fr) (M:X→Loc) (kf:X→κ)
  (h1:∀ K:Fr→Loc→κ→Prop,(∀ l L k' v,I v→Fits N.base l L (F v) (M v)→k'=kf v→K l L k')→JI E P N x (Q.seq K) l L k)
  (h2:∀ v,I v→JI E P N y Q (F v) (M v) (kf v)):JI E P N (.seq x y) Q l L k:=
 Qg fun K hK=>h1 K fun l L k' v hv hf hk=>hK l L k' (R6a hf (by subst hk; exact h2 v hv))
end code

section ops
variable {κ:Type} {E:G0b κ} {P:Program} {N:Cfg} {ops:Array Oper} {o:Oper} {rest:List Oper} {Q:G5a κ} {l:Fr} {L L':Loc} {u:AV} {k:κ}
end ops

/-! ### A slice of one's own that is begun anew -/
section mem
variable {P:Program} {o:Oper} {l:Fr} {L:Loc}
end mem
end Go.Proofs.YtibhpogonkdiaaaGreat
