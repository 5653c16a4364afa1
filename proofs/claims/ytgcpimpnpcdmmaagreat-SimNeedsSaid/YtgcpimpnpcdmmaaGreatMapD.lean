/-
 More steps: Slices that begin aQ an empty literal and are appended to; Is a slice nil: Appending to a part from the front of a slice of the call's A slice of slices of the call's own,whose last slice still g Drawn orders whose last operation,behind all the others,is g The typed steps of slices of slices whose last slice grows. Slices with known cells behind them: Maps from which entries are deleted:
-/
import Derived.Test.YtgcpimpnpcdmmaaGreatRangeF
import Derived.Test.YtgcpimpnpcdmmaaGreatSortI
set_option linter.unusedSimpArgs false
namespace Go.Proofs.YtgcpimpnpcdmmaaGreat
open Go.RowKit

theorem R6.vecCell {N:Cfg} {w0 w:World} {β0 β:Gx} {L0 L:Loc} {a:Act} {l:Fr} (hs:R6 N w0 β0 L0 a w β l L) (i j id E k:Nat) {t:TypeId} {cs cs':List AV} (hi:lk L i=some (.box t cs)) (hid:lk L id=none) (hj:cs[j]? = some (.sc (.slice none 0 0)))
  (h2:cs.set j (.vec id 0 k 0)=cs'):∃ β',R6 N w0 β0 L0 a w β' l ((i,.box t cs')::(id,.vec E k 0 [])::L):=by
 obtain⟨st,sat⟩:=R5 (w':=w) (t:=E) (k:=k) (ver1:=0) (xs':=[]) (ob':=none) hs.sat (.inl hid) rfl rfl ⟨rfl,Mb⟩ (Mb) (fun _ _ _=>rfl) (.inl rfl)
 have h1:R6 N w0 β0 L0 a w (upP β id none) l ((id,.vec E k 0 [])::L):=⟨sat ⟨by simp,.inl ⟨rfl,rfl⟩⟩,hs.step.trans st,hs.frame.step st,hs.size,hs.base,hs.defers.step st⟩
 have h3:id≠i:=fun e=>by subst e; rw [hi] at hid; cases hid
 refine⟨_,h1.redescribe (i:=i) (t:=t) (cs:=cs) (by rw [Gh,if_neg h3]; exact hi) (by rw [← h2]; simp) fun vs q u v h0 h5 hu hv=>?_⟩
 rw [← h2] at hu
 by_cases e:j=q
 ·subst e
  have h4:j < cs.length:=(M6 hj).1
  simp [List.getElem?_set,h4] at hu
  subst hu
  have:=h0 j _ v hj hv
  rw [this.inv_sc]
  exact .vec ⟨E,0,[],(by rw [Gh,if_pos rfl]:lk ((id,J5.vec E k 0 [])::L) id=_),Mb,fun _=>⟨rfl,.inl ⟨rfl,rfl,by rw [show (upP β id none).at_ id=none by simp [upP]]⟩⟩⟩ rfl
 ·rw [List.getElem?_set_ne e] at hu
  exact h0 q u v hu hv
theorem R0a {P:Program} {N:Cfg} {ops:Array Oper} {rest:List Oper} {Q:Post} {l:Fr} {L:Loc} (i j id E k:Nat) {t:TypeId} {cs cs':List AV} (hi:lk L i=some (.box t cs)) (hid:lk L id=none) (hj:cs[j]? = some (.sc (.slice none 0 0)))
  (h0:cs.set j (.vec id 0 k 0)=cs') (hk:JL P N ops rest Q l ((i,.box t cs')::(id,.vec E k 0 [])::L)):JL P N ops rest Q l L:=
 fun n w0 β0 L0 a w β hs=>by
  obtain⟨β',h⟩:=hs.vecCell i j id E k hi hid hj h0
  exact hk n w0 β0 L0 a w β' h

theorem Z32 {P:Program} {o:Oper} {l:Fr} {L:Loc} {u:AV} {x y:Operand} {T i:Nat} {t:TypeId} (hT:Yg P T 0=true) (ho:o.op=.store T x y) (hu:ev l y=u) (hx:ev l x=.ptr i 0) (hi:lk L i=some (.box t []))
  (hc:u.flatOk=true) (hk:u.cells=[]):Gy P o l L (Is .junk ((i,.box t [])::L)):=by
 subst hu
 intro a w β K Q h0 hf hK
 have h1:=hf.ev x
 rw [hx] at h1
 obtain⟨b,hb,h4⟩:=h1.inv_ptr
 obtain⟨old,h2,h5,h8⟩:=J65 h0 hi hb
 obtain⟨c1,c2,c3⟩:=(hf.ev y).cells hc
 rw [hk] at c1
 have hr:=Hc3 (P:=P) (off:=0) hT c1 c3 h2 (by omega)
 unfold Oper.wp
 have h6:(execOp a.eval o).run P w=.ok .skip (w.setRow b (old.toList.take 0++(a.eval y).cells.toList++old.toList.drop (0+0)).toArray):=by
  simp [execOp,ho,h4,hr]
 rw [h6]
 have h3:old.size=0:=by simpa using h5
 have h7:(a.eval y).cells.size=0:=by simpa using c1
 refine hK _ _ _ _ β ⟨rfl,rfl⟩ (h0.set hi hb h2 _ ?_ ?_) (Step.set h0 hi hb _) .junk
 ·simp [h7,h3]
 ·intro j u v hu hv
  simp at hu

theorem Hx.ver {P:Program} {f:FuncId} {args:List AV} {i t k n:Nat} {xs:List AV} (h:Hx P f args [] (fun u L'=>∃ p:Nat,u=.vec i p k n∧L'=[(i,.vec t k p xs)])) (q:Nat):Hx P f args [] (fun u L'=>u=.vec i q k n∧L'=[(i,.vec t k q xs)]):=by
 intro w β vs h6 hl hv
 refine(h w β vs h6 hl hv).mono fun e w' hr=>?_
 obtain⟨v,r,β',L',rfl,hs,st,h8,p,rfl,rfl⟩:=hr
 have h4:∀ id,(lk [(i,J5.vec t k p xs)] id).isSome=(lk [(i,J5.vec t k q xs)] id).isSome:=fun id=>by
  rw [Gh,Gh]; split <;> rfl
 have h5:∀ b j,Jk w' β' [(i,J5.vec t k p xs)] b j→Jk w' β' [(i,J5.vec t k q xs)] b j:=fun b j h=>⟨h.lt,h.seen,fun id o ho hb=>by
  rw [Gh] at ho
  by_cases e:i=id
  ·subst e
   rw [if_pos rfl] at ho; cases ho
   exact(show False from h.kept i (.vec t k p xs) (by rw [Gh,if_pos rfl]) hb).elim
  ·rw [if_neg e] at ho; cases ho⟩
 refine⟨v,_,β',_,rfl,⟨hs.hid,fun id b h1=>hs.bnd id b (by rw [h4]; exact h1),fun id b j h1=>hs.apart id b j (by rw [h4]; exact h1),fun id id' b h1 h2=>hs.inj id id' b (by rw [h4]; exact h1) (by rw [h4]; exact h2),fun id o ho=>?_⟩,
  ⟨st.os,st.tape,st.output,st.size,st.hid,fun b j h=>⟨h5 b j (st.stab b j h).1,(st.stab b j h).2⟩,fun b hb hf=>⟨(st.far b hb hf).1,fun id hid=>(st.far b hb hf).2 id (by rw [h4]; exact hid)⟩,fun id t cs h=>by simp [lk] at h,fun id t cs h=>by simp [lk] at h,fun id t n cs h=>by simp [lk] at h,fun id t k ver xs h=>by simp [lk] at h,fun id t k ver xs h=>by simp [lk] at h⟩,?_,rfl,rfl⟩
 ·rw [Gh] at ho
  by_cases e:i=id
  ·subst e
   rw [if_pos rfl] at ho; cases ho
   have h0:=hs.obj i _ (by rw [Gh,if_pos rfl])
   refine⟨h0.1,h0.2.imp_right ?_⟩
   rintro⟨b,hb,vs,a1,a2,a3⟩
   exact⟨b,hb,vs,a1,a2,fun j u v hu hv=>(a3 j u v hu hv).mono fun b i hs=>⟨h5 b i hs,rfl⟩⟩
  ·rw [if_neg e] at ho; cases ho
 ·cases h8 with
  | data h=>cases h
  | vec hp h7=>
   obtain⟨t',ver',xs',h1,_,h3⟩:=hp
   rw [Gh,if_pos rfl] at h1; cases h1
   exact .vec ⟨t,q,xs,by rw [Gh,if_pos rfl],Mb,fun _=>h3 rfl⟩ h7
theorem Hx.fresh0 {P:Program} {f:FuncId} {args:List AV} {i E k n:Nat} {xs:List AV} (h:Hx P f args [] (fun av L'=>∃ p,av=.vec i p k n∧L'=[(i,.vec E k p xs)])):Hx P f args [] (fun av L'=>av=.vec i 0 k n∧L'=[(i,.vec E k 0 xs)]):=h.ver 0

/-! ### A variable of a map's type is set anew: the new map takes the old one's name -/
theorem Ga1.conv {w:World} {β:Gx} {L L':Loc} {ob:Option Nat} {o o':J5} (hd:Jcf L L') (hc:H04 (fun i=>(lk L' i).isSome) o o') (h0:Ga1 w β L ob o):Ga1 w β L' ob o':=by
 cases hc with
 | same=>exact h0
 | map=>
  obtain⟨b,h1,h2⟩:=h0
  exact⟨b,h1,h2.mono rfl fun h=>h.mono fun b i hs=>⟨hd.stab hs,rfl⟩⟩
 | vec=>
  obtain⟨h6,h0⟩:=h0
  refine⟨h6,?_⟩
  rcases h0 with h0 | ⟨b,h1,vs,h2,h3,h4⟩
  ·exact .inl h0
  ·exact .inr ⟨b,h1,vs,h2,h3,fun j u v hu hv=>(h4 j u v hu hv).mono fun b i hs=>⟨hd.stab hs,rfl⟩⟩
 | iter hm=>
  obtain⟨b,h1,bm,h2,h4⟩:=h0
  exact⟨b,h1,bm,h2.drop hd hm,h4⟩
 | box hl hc=>
  obtain⟨b,h1,vs,h2,h3,h4⟩:=h0
  refine⟨b,h1,vs,h2,h3.trans hl,fun j u' v h5 hv=>?_⟩
  rename_i cs cs'
  have hj:j < cs.length:=by
   rcases Kz j cs'.length with h | h
   ·omega
   ·simp [List.getElem?_eq_none h] at h5
  exact(h4 j cs[j] v (by simp [hj]) hv).conv hd (hc j _ _ (by simp [hj]) h5)

def Ydb (i j:Nat) (ok:Nat→Bool) (l:Fr):Fr→Prop
 | []=>True
 | (s,u)::r=>((look l s=.mp j∧u=.mp i)∨(look l s=u∧u.refs ok=true))∧Ydb i j ok l r
theorem Ydb.get {i j:Nat} {ok:Nat→Bool} {l:Fr}:∀ {l':Fr},Ydb i j ok l l'→∀ t,look l' t=.junk∨(look l t=.mp j∧look l' t=.mp i)∨(look l t=look l' t∧(look l' t).refs ok=true)
 | [],_,t=>.inl (by simp [look])
 | (s,u)::r,h,t=>by
  by_cases e:s=t
  ·subst e
   have e1:look ((s,u)::r) s=u:=by simp [look]
   rw [e1]; exact .inr h.1
  ·have hb:Nat.beq s t=false:=by
    cases hb:Nat.beq s t with
    | false=>rfl
    | true=>exact absurd (Kx hb) e
   have e1:look ((s,u)::r) t=look r t:=by simp [look,hb]
   rw [e1]; exact Ydb.get h.2 t

theorem R6.rename {N:Cfg} {w0 w:World} {β0 β:Gx} {L0 L3:Loc} {a:Act} {l l':Fr} {i j t:Nat} {es:List (Value×AV)} (hs:R6 N w0 β0 L0 a w β l ((j,.map t es)::L3)) (hi:lk L3 i=none) (hj:lk L3 j=none) (h8:Nat.beq i j=false)
  (h9:N.base.contains i=false) (a0:N.base.contains j=false) (h3:H2b (fun id=>(lk ((i,J5.map t es)::L3) id).isSome) L3 L3) (hl:Ydb i j (fun id=>(lk ((i,J5.map t es)::L3) id).isSome) l l') :
  R6 N w0 β0 L0 a w (upP β i (β.at_ j)) l' ((i,.map t es)::L3):=by
 have h7:i≠j:=fun e=>by subst e; simp at h8
 have ib:i ∉ N.base:=fun h=>by simp [List.contains_iff_mem,h] at h9
 have jb:j ∉ N.base:=fun h=>by simp [List.contains_iff_mem,h] at a0
 have l1i:lk ((j,J5.map t es)::L3) i=none:=by rw [Gh,if_neg (Ne.symm h7)]; exact hi
 have l1j:lk ((j,J5.map t es)::L3) j=some (.map t es):=by rw [Gh,if_pos rfl]
 have li:lk ((i,J5.map t es)::L3) i=some (.map t es):=by rw [Gh,if_pos rfl]
 have lj:lk ((i,J5.map t es)::L3) j=none:=by rw [Gh,if_neg h7]; exact hj
 have lo:∀ id,id≠i→id≠j→lk ((i,J5.map t es)::L3) id=lk ((j,J5.map t es)::L3) id:=fun id h1 h2=>by rw [Gh,if_neg (Ne.symm h1),Gh,if_neg (Ne.symm h2)]
 have bi:(upP β i (β.at_ j)).at_ i=β.at_ j:=by simp [upP]
 have bo:∀ id,id≠i→(upP β i (β.at_ j)).at_ id=β.at_ id:=fun id h=>by simp [upP,h]
 -- where what is called id lay bf
 have old:∀ id o,lk ((i,J5.map t es)::L3) id=some o→∃ id',lk ((j,J5.map t es)::L3) id'=some o∧(upP β i (β.at_ j)).at_ id=β.at_ id'∧((id=i∧id'=j)∨(id≠i∧id≠j∧id'=id)):=fun id o ho=>by
  by_cases e:id=i
  ·subst e; rw [li] at ho; cases ho; exact⟨j,l1j,bi,.inl ⟨rfl,rfl⟩⟩
  ·have e2:id≠j:=fun e2=>by subst e2; rw [lj] at ho; cases ho
   exact⟨id,by rw [← lo id e e2]; exact ho,bo id e,.inr ⟨e,e2,rfl⟩⟩
 have stab:∀ b k,Jk w β ((j,J5.map t es)::L3) b k→Jk w (upP β i (β.at_ j)) ((i,J5.map t es)::L3) b k:=fun b k h=>⟨h.lt,h.seen,fun id o ho hb=>by
  obtain⟨id',h1,h2,_⟩:=old id o ho
  exact h.kept id' o h1 (by rw [← h2]; exact hb)⟩
 -- both names at once
 have stabB:∀ b k,Jk w β ((j,J5.map t es)::L3) b k→Jk w (upP β i (β.at_ j)) ((i,J5.map t es)::(j,J5.map t es)::L3) b k:=fun b k h=>⟨h.lt,h.seen,fun id o ho hb=>by
  rw [Gh] at ho
  by_cases e:i=id
  ·subst e; rw [if_pos rfl] at ho; cases ho
   exact h.kept j _ l1j (by rw [← bi]; exact hb)
  ·rw [if_neg e] at ho
   exact h.kept id o ho (by rw [← bo id (Ne.symm e)]; exact hb)⟩
 have keep:∀ id o,lk ((j,J5.map t es)::L3) id=some o→(upP β i (β.at_ j)).at_ id=β.at_ id∧lk ((i,J5.map t es)::(j,J5.map t es)::L3) id=some o:=fun id o ho=>by
  have e:id≠i:=fun e=>by subst e; rw [l1i] at ho; cases ho
  exact⟨bo id e,by rw [Gh,if_neg (Ne.symm e)]; exact ho⟩
 have stw:Hf7 w β ((j,J5.map t es)::L3) w (upP β i (β.at_ j)) ((i,J5.map t es)::(j,J5.map t es)::L3):=⟨fun b k h=>⟨stabB b k h,rfl⟩,fun id _ cs h=>⟨(keep id _ h).1,cs,(keep id _ h).2⟩,fun id _ es h=>⟨(keep id _ h).1,es,(keep id _ h).2⟩,fun id _ n es h=>⟨(keep id _ h).1,n,es,(keep id _ h).2⟩,
  fun id _ _ ver xs h=>⟨ver,xs,(keep id _ h).2,Mb,fun _=>⟨rfl,(keep id _ h).1,fun b hb=>rfl⟩⟩,fun id _ _ ver hw h=>⟨ver,hw,(keep id _ h).2,Mb,fun _=>⟨rfl,(keep id _ h).1,fun b hb=>rfl⟩⟩⟩
 have dr:Jcf ((i,J5.map t es)::(j,J5.map t es)::L3) ((i,J5.map t es)::L3):=⟨fun id o ho=>⟨o,by
  rw [Gh] at ho ⊢
  by_cases e:i=id
  ·rw [if_pos e] at ho ⊢; exact ho
  ·rw [if_neg e] at ho ⊢
   rw [Gh,if_neg (fun e2=>by subst e2; rw [hj] at ho; cases ho)]; exact ho,by cases o <;> simp [J5.like]⟩⟩
 have val:∀ {u v},V w β ((j,J5.map t es)::L3) u v→u.refs (fun id=>(lk ((i,J5.map t es)::L3) id).isSome)=true→V w (upP β i (β.at_ j)) ((i,J5.map t es)::L3) u v:=fun h hr=>(h.stepW stw).drop dr hr
 have some1:∀ id,(lk ((i,J5.map t es)::L3) id).isSome=true→∃ id',(lk ((j,J5.map t es)::L3) id').isSome=true∧(upP β i (β.at_ j)).at_ id=β.at_ id'∧((id=i∧id'=j)∨(id≠i∧id≠j∧id'=id)):=fun id h=>by
  obtain⟨o,ho⟩:=Kt h
  obtain⟨id',h1,h2,h3⟩:=old id o ho
  exact⟨id',by rw [h1]; rfl,h2,h3⟩
 have base0:∀ id o,lk L0 id=some o→id≠i∧id≠j:=fun id o h=>by
  have:=hs.base id (by rw [h]; rfl)
  exact⟨fun e=>ib (e ▸ this),fun e=>jb (e ▸ this)⟩
 have st:=hs.step
 refine⟨⟨hs.sat.hid,fun id b h1 h2=>?_,fun id b k h1 h2=>?_,fun id id2 b h1 h2 h3 h4=>?_,fun id o ho=>?_⟩,
  ⟨st.os,st.tape,st.output,st.size,st.hid,fun b k h=>⟨stab b k (st.stab b k h).1,(st.stab b k h).2⟩,fun b hb hf=>⟨(st.far b hb hf).1,fun id h1 h2=>?_⟩,fun id t cs h=>?_,fun id t cs h=>?_,fun id m n es h=>?_,fun id t k ver xs h=>?_,fun id t k ver hw h=>?_⟩,⟨fun s=>?_⟩,hs.size,hs.base,⟨hs.defers.top,hs.defers.nodup,fun d hd=>?_⟩⟩
 ·obtain⟨id',g1,g2,_⟩:=some1 id h1
  exact hs.sat.bnd id' b g1 (g2.symm.trans h2)
 ·obtain⟨id',g1,g2,_⟩:=some1 id h1
  exact hs.sat.apart id' b k g1 (g2.symm.trans h2)
 ·obtain⟨id',g1,g2,g3⟩:=some1 id h1
  obtain⟨id2',k1,k2,k3⟩:=some1 id2 h2
  have:=hs.sat.inj id' id2' b g1 k1 (g2.symm.trans h3) (k2.symm.trans h4)
  rcases g3 with ⟨rfl,rfl⟩ | ⟨ga,gb,rfl⟩ <;> rcases k3 with ⟨rfl,rfl⟩ | ⟨ka,kb,rfl⟩
  ·rfl
  ·exact(kb this.symm).elim
  ·exact(gb this).elim
  ·exact this
 ·obtain⟨id',g1,g2,g3⟩:=old id o ho
  have h0:=hs.sat.obj id' o g1
  rw [g2]
  have h1:=h0.stepW stw (fun b hb=>rfl)
  refine h1.conv dr ?_
  rcases g3 with ⟨rfl,rfl⟩ | ⟨ga,gb,rfl⟩
  ·rw [li] at ho; cases ho; exact .map
  ·have h4:lk L3 id'=some o:=by rw [Gh,if_neg (Ne.symm ga)] at ho; exact ho
   obtain⟨o2,h5,h6⟩:=h3.get h4
   rw [h4] at h5; cases h5; exact h6
 ·obtain⟨id',g1,g2,_⟩:=some1 id h1
  exact(st.far b hb hf).2 id' g1 (g2.symm.trans h2)
 ·obtain⟨h1,cs',h2⟩:=st.box id t cs h
  obtain⟨n1,n2⟩:=base0 id _ h
  exact⟨(bo id n1).trans h1,cs',by rw [lo id n1 n2]; exact h2⟩
 ·obtain⟨h1,cs',h2⟩:=st.map id t cs h
  obtain⟨n1,n2⟩:=base0 id _ h
  exact⟨(bo id n1).trans h1,cs',by rw [lo id n1 n2]; exact h2⟩
 ·obtain⟨h1,n',es',h2⟩:=st.iter id m n es h
  obtain⟨n1,n2⟩:=base0 id _ h
  exact⟨(bo id n1).trans h1,n',es',by rw [lo id n1 n2]; exact h2⟩
 ·obtain⟨v1,xs1,h1,h2,h3⟩:=st.vec id t k ver xs h
  obtain⟨n1,n2⟩:=base0 id _ h
  exact⟨v1,xs1,by rw [lo id n1 n2]; exact h1,h2,fun e=>⟨(h3 e).1,(bo id n1).trans (h3 e).2.1,(h3 e).2.2⟩⟩
 ·obtain⟨v1,hw1,h1,h2,h3⟩:=st.spare id t k ver hw h
  obtain⟨n1,n2⟩:=base0 id _ h
  exact⟨v1,hw1,by rw [lo id n1 n2]; exact h1,h2,fun e=>⟨(h3 e).1,(bo id n1).trans (h3 e).2.1,(h3 e).2.2⟩⟩
 ·have hv:=hs.frame.tmp s
  rcases hl.get s with e | ⟨e1,e2⟩ | ⟨e1,e2⟩
  ·rw [e]; exact .junk
  ·rw [e2]; rw [e1] at hv
   generalize a.tmps.getD s undef=vv at hv ⊢
   cases hv with
   | data h=>cases h
   | mp h1 h2=>
    rw [l1j] at h1; cases h1
    exact .mp li (bi.trans h2)
  ·rw [e1] at hv; exact val hv e2
 ·obtain⟨D,h1,h2,h3,h4⟩:=hs.defers.each d hd
  refine⟨D,h1,h2,h3,fun id g1 g2=>?_⟩
  obtain⟨id',k1,k2,_⟩:=some1 id g1
  exact h4 id' k1 (k2.symm.trans g2)
theorem Yde {P:Program} {N:Cfg} {ops:Array Oper} {rest:List Oper} {Q:Post} {l:Fr} {L:Loc} (i j:Nat) (o:J5) (l1 l':Fr) (L3:Loc) (ho:∃ t es,o=.map t es) (h1:Fits N.base l L l1 ((j,o)::L3)) (hi:lk L3 i=none) (hj:lk L3 j=none) (h0:Nat.beq i j=false)
  (h2:N.base.contains i=false) (h4:N.base.contains j=false) (h3:H2b (fun id=>(lk ((i,o)::L3) id).isSome) L3 L3) (hl:Ydb i j (fun id=>(lk ((i,o)::L3) id).isSome) l1 l')
  (hk:JL P N ops rest Q l' ((i,o)::L3)):JL P N ops rest Q l L:=fun n w0 β0 L0 a w β hs=>by
 obtain⟨t,es,rfl⟩:=ho
 exact hk n w0 β0 L0 a w _ ((hs.fits h1).rename hi hj h0 h2 h4 h3 hl)

theorem Z77 {P:Program} {o:Oper} {l:Fr} {L:Loc} {x y:Operand} {T E k by_ n:Nat} {kd kd':IntKind} {nx ny:Int} (zs:List Value) (ho:o.op=.makeSlice T x y) (hx:ev l x=.sc (.int kd nx)) (hy:ev l y=.sc (.int kd' ny))
  (hT:sliceB P T E k=true) (hE:Yy P E k by_=true) (hz:(P.info? E).bind (fun i=>i.zero.map Value.cells)=some zs.toArray) (hn:nx=(n:Int)) (hm:ny=(n:Int)) (hb:decide (by_*n≤281474976710656∧n≤maxLen∧n*k≤16777216)=true)
  (z:AV) (a2:∀ (w:World) (S:Nat→Nat→Prop) (j:Nat) a b,z.cells[j]? = some a→zs[j]? = some b→D w S a b) (h4:z.cells.length=k) :
  Gy P o l L (Is (.list k (List.replicate n z)) L):=by
 subst hn hm
 intro a w β K Q h0 hf hK
 have h1:=M2 hb
 obtain⟨inf,zv,e1,e2,e3,e4,e5,e6⟩:=Yy.out hE
 have h5:=hf.ev x
 rw [hx] at h5
 have h6:=hf.ev y
 rw [hy] at h6
 have a0:(n:Int)≤9223372036854775807:=by
  have h:=h1.2.1
  simp [maxLen] at h
  omega
 have a3:(inf.bytes:Int)*(n:Int)≤281474976710656:=by
  have h:((inf.bytes*n:Nat):Int)≤281474976710656:=by rw [e3]; have:=h1.1; omega
  rwa [Int.natCast_mul] at h
 have hr:=run_make (P:=P) w T E inf zv (sliceB.out hT).1 e1 e4 kd kd' n n (by omega) (Int.le_refl _) a3 a0
 simp only [Int.toNat_natCast] at hr
 have a1:(execOp a.eval o).run P w=.ok (.value (.slice (some ⟨w.heap.size,0,none⟩) n n)) (w.alloc (.cells (madeCells zv.cells (n*inf.size)) E)):=by
  simp [execOp,ho,h5.inv_sc,h6.inv_sc,hr]
 unfold Oper.wp
 rw [a1]
 have h7:zv.cells=zs.toArray:=by
  rw [e1] at hz
  simp [e4] at hz
  exact hz
 have h2:∀ x∈List.replicate n z,x.cells.length=k:=fun y hy=>by rw [List.eq_of_mem_replicate hy]; exact h4
 have hd:=D.newRow (E:=E) (vs:=madeCells zv.cells (n*inf.size)) h0 h2 (by rw [List.length_replicate]; exact h1.2.1) (by rw [J0 h2,List.length_replicate,size_madeCells,e2]) (fun j u v hu hv=>by
  rw [e2] at hv
  -- the cells
  have h8:∀ x∈List.replicate n z,x.cells.length=k:=fun y hy=>by rw [List.eq_of_mem_replicate hy]; exact h4
  have hj:j < n*k:=by
   have:=(M6 hu).1
   rw [J0 h8] at this
   simpa using this
  have a4:j=j / k*k+j % k:=by rw [Nat.mul_comm]; exact(Nat.div_add_mod j k).symm
  have hq:j / k < n:=Nat.div_lt_of_lt_mul (by rw [Nat.mul_comm]; exact hj)
  have a5:(List.replicate n z)[j / k]? = some z:=by simp [hq]
  rw [a4,Gda h8 a5 (Nat.mod_lt _ e6)] at hu
  have h3:zs.length=k:=by
   have:=e5
   rw [h7] at this
   simpa using this
  refine a2 _ _ (j % k) u v hu ?_
  rw [madeCells] at hv
  simp [hj] at hv
  rw [← hv,h7]
  have h9:j % k < zs.length:=by rw [h3]; exact Nat.mod_lt _ e6
  simp [h3,h9]
  rw [M7 h9]; rfl)
 rw [List.length_replicate] at hd
 exact hK _ _ _ _ β ⟨rfl,rfl⟩ (h0.new _) (Step.new h0 _) (.data hd)
theorem Z38 {P:Program} {o:Oper} {l:Fr} {L:Loc} {x y:Operand} {T E k by_ n:Nat} {kd kd':IntKind} {nx ny:Int} {α:Type} {f:α→AV} (z:α) (zs:List Value) (ho:o.op=.makeSlice T x y) (hx:ev l x=.sc (.int kd nx)) (hy:ev l y=.sc (.int kd' ny))
  (hT:sliceB P T E k=true) (hE:Yy P E k by_=true) (hz:(P.info? E).bind (fun i=>i.zero.map Value.cells)=some zs.toArray) (hn:nx=(n:Int)) (hm:ny=(n:Int)) (hb:decide (by_*n≤281474976710656∧n≤maxLen∧n*k≤16777216)=true)
  (h0:ZOk (f z).cells zs) (h1:(f z).cells.length=k):Gy P o l L (Is (.list k ((List.replicate n z).map f)) L):=by
 have h:=Z77 (P:=P) (T:=T) (E:=E) (L:=L) zs ho hx hy hT hE hz hn hm hb (f z) (fun w S j a b ha h2=>by
  have:=ZOk.get (w:=w) (β:=⟨fun _=>none,fun b i=>¬ S b i⟩) (L:=[]) h0 j a b ha h2
  refine(this.data_of_nil).mono fun b i hs=>⟨Classical.byContradiction fun hn=>hs.seen hn,rfl⟩) h1
 simpa only [List.map_replicate] using h

theorem Qc7 {P:Program} {o:Oper} {a:Act} {w:World} {T E k:Nat} (ho:o.op=.buildSlice T 0 #[]) (hT:sliceB P T E k=true):(execOp a.eval o).run P w=.ok (.value (.slice (some ⟨w.heap.size,0,none⟩) 0 0)) (w.alloc (.cells #[] E)):=by
 have h0:=Q9 (sliceB.out hT).2 w
 simp [execOp,ho,Instr.buildSlice,underlying,(sliceB.out hT).1,run_program,Sem.run_bind,Result.andThen_ok,h0,newRow,Instr.fill]
 exact congrArg (fun x=>w.alloc (Obj.cells x E)) (Array.toList_inj.1 (by simp))

theorem Y8a {w:World} {β:Gx} {L:Loc} {i:Nat} (E k:Nat) (vs:Array Value) (cap:Nat) (h7:cap≤maxLen) (h8:(w.alloc (.cells vs E)).ownsRow 0 E k (.slice (some ⟨w.heap.size,0,none⟩) 0 cap) 0 []) (h0:Sat w β L) (hi:lk L i=none) :
  Step w β L (w.alloc (.cells vs E)) (upP β i (some w.heap.size)) ((i,.spare E k 0 0)::L)∧Sat (w.alloc (.cells vs E)) (upP β i (some w.heap.size)) ((i,.spare E k 0 0)::L) ∧
  V (w.alloc (.cells vs E)) (upP β i (some w.heap.size)) ((i,.spare E k 0 0)::L) (.own i 0 k []) (.slice (some ⟨w.heap.size,0,none⟩) 0 cap):=by
 have a0:∀ id,(lk L id).isSome=true→i≠id:=fun id h e=>by subst e; rw [hi] at h; cases h
 have h5:∀ b,b < w.heap.size→(w.alloc (.cells vs E)).heap[b]? = w.heap[b]? := fun b hb=>Q5 w _ hb
 have h6:w.heap.size < (w.alloc (.cells vs E)).heap.size:=by simp
 have st:Step w β L (w.alloc (.cells vs E)) (upP β i (some w.heap.size)) ((i,.spare E k 0 0)::L):=by
  refine⟨rfl,rfl,⟨rfl,Mb⟩,Nat.le_of_lt h6,fun _ _ _=>Iff.rfl,fun b j hs=>⟨⟨Nat.lt_trans hs.lt h6,hs.seen,fun id ob hid hb=>?_⟩,Q1 (w:=w) (h5 b hs.lt)⟩,fun b hb h9=>⟨h5 b hb,fun id hid e=>?_⟩,fun id t cs hid=>?_,fun id t cs hid=>?_,fun id t n cs hid=>?_,fun id t k' ver xs hid=>?_,fun id t k' ver hw hid=>?_⟩
  ·rw [Gh] at hid
   by_cases e:i=id
   ·subst e; simp only [upP,if_true] at hb; cases hb; exact absurd hs.lt (Nat.lt_irrefl _)
   ·rw [if_neg e] at hid; simp only [upP,if_neg (Ne.symm e)] at hb; exact hs.kept id ob hid hb
  ·rw [Gh] at hid
   by_cases e':i=id
   ·subst e'; simp only [upP,if_true] at e; cases e; exact absurd hb (Nat.lt_irrefl _)
   ·rw [if_neg e'] at hid; simp only [upP,if_neg (Ne.symm e')] at e; exact h9 id hid e
  all_goals
   have e:=a0 id (by rw [hid]; rfl)
  ·exact⟨by simp [upP,Ne.symm e],cs,by rw [Gh,if_neg e]; exact hid⟩
  ·exact⟨by simp [upP,Ne.symm e],cs,by rw [Gh,if_neg e]; exact hid⟩
  ·exact⟨by simp [upP,Ne.symm e],n,cs,by rw [Gh,if_neg e]; exact hid⟩
  ·exact⟨ver,xs,by rw [Gh,if_neg e]; exact hid,Mb,fun _=>⟨rfl,by simp [upP,Ne.symm e],fun b hb=>G23 (h5 b (h0.bnd id b (by rw [hid]; rfl) hb))⟩⟩
  ·exact⟨ver,hw,by rw [Gh,if_neg e]; exact hid,Mb,fun _=>⟨rfl,by simp [upP,Ne.symm e],fun b hb=>h5 b (h0.bnd id b (by rw [hid]; rfl) hb)⟩⟩
 refine⟨st,⟨fun b j h=>Nat.lt_trans (h0.hid b j h) h6,fun id b hid hb=>?_,fun id b j hid hb hh=>?_,fun id id' b h1 h2 h3 h4=>?_,fun id ob hid=>?_⟩,?_⟩
 ·rw [Gh] at hid
  by_cases e:i=id
  ·subst e; simp only [upP,if_true] at hb; cases hb; exact h6
  ·rw [if_neg e] at hid; simp only [upP,if_neg (Ne.symm e)] at hb; exact Nat.lt_trans (h0.bnd id b hid hb) h6
 ·rw [Gh] at hid
  by_cases e:i=id
  ·subst e; simp only [upP,if_true] at hb; cases hb; exact absurd (h0.hid _ _ hh) (Nat.lt_irrefl _)
  ·rw [if_neg e] at hid; simp only [upP,if_neg (Ne.symm e)] at hb; exact h0.apart id b j hid hb hh
 ·by_cases e:i=id
  ·by_cases e':i=id'
   ·rw [← e,e']
   ·subst e
    rw [Gh,if_neg e'] at h2
    simp only [upP,if_true] at h3
    simp only [upP,if_neg (Ne.symm e')] at h4
    cases h3
    exact absurd (h0.bnd id' _ h2 h4) (Nat.lt_irrefl _)
  ·by_cases e':i=id'
   ·subst e'
    rw [Gh,if_neg e] at h1
    simp only [upP,if_true] at h4
    simp only [upP,if_neg (Ne.symm e)] at h3
    cases h4
    exact absurd (h0.bnd id _ h1 h3) (Nat.lt_irrefl _)
   ·rw [Gh,if_neg e] at h1
    rw [Gh,if_neg e'] at h2
    simp only [upP,if_neg (Ne.symm e)] at h3
    simp only [upP,if_neg (Ne.symm e')] at h4
    exact h0.inj id id' b h1 h2 h3 h4
 ·rw [Gh] at hid
  by_cases e:i=id
  ·subst e; simp at hid; subst hid
   exact .inr ⟨w.heap.size,by simp [upP],vs,heap_alloc_new w _,by simp⟩
  ·rw [if_neg e] at hid
   simp only [upP,if_neg (Ne.symm e)]
   exact(h0.obj id ob hid).step st (fun b hb=>h5 b (h0.bnd id b (by rw [hid]; rfl) hb))
 ·exact .own (.nil h7) ⟨E,0,0,by rw [Gh,if_pos rfl],Mb,fun _=>⟨rfl,by simp [Value.ownBlock,upP],[],h8,fun j u hu=>by simp [flat] at hu⟩⟩

theorem Z51 {w:World} {β:Gx} {L:Loc} {i:Nat} (E k:Nat) (h0:Sat w β L) (hi:lk L i=none) :
  Step w β L (w.alloc (.cells #[] E)) (upP β i (some w.heap.size)) ((i,.spare E k 0 0)::L)∧Sat (w.alloc (.cells #[] E)) (upP β i (some w.heap.size)) ((i,.spare E k 0 0)::L) ∧
  V (w.alloc (.cells #[] E)) (upP β i (some w.heap.size)) ((i,.spare E k 0 0)::L) (.own i 0 k []) (.slice (some ⟨w.heap.size,0,none⟩) 0 0):=
 Y8a E k #[] 0 (Nat.zero_le _) (World.ownsRow_lit w #[] 0 (Nat.zero_le _) (Nat.zero_le _) (by simp)) h0 hi

section ops
variable {P:Program} {N:Cfg} {o:Oper} {l:Fr} {L L':Loc} {u:AV} {α:Type}

theorem Q0e (i E k:Nat) {T:Nat} (ho:o.op=.buildSlice T 0 #[]) (hi:lk L i=none) (hT:sliceB P T E k=true):Gy P o l L (Is (.own i 0 k []) ((i,.spare E k 0 0)::L)):=by
 intro a w β K Q h0 hf hK
 unfold Oper.wp
 rw [Qc7 (E:=E) (k:=k) ho hT]
 obtain⟨st,sat,hv⟩:=Z51 E k h0 hi
 exact hK _ _ _ _ _ ⟨rfl,rfl⟩ sat st hv

theorem Q74 (w:World) (base:Nat) (t ty e:TypeId) (i:TypeInfo) (size:Nat) (ht:P.underlying t=some (.slice e)) (hi:P.info? e=some i)
  (v:Value) (n:Nat) (xs:List Value) (h0:w.ownsRow base e size v n xs) (ao:Option Addr) (c:Nat) :
  (Builtin.append_ #[t,t] ty #[v,.slice ao 0 c]).run P w=.ok v w:=by
 rcases h0.2 with ⟨rfl,rfl⟩ | ⟨g,cap,cur,rfl,_,_,h1,_⟩
 ·cases ao <;> simp [Builtin.append_,run_underlying ht,sizeOf,typeInfo,hi,Builtin.lenOf,Builtin.firstCells,loadCells,loadCellsFrom]
 ·cases ao <;> simp [Builtin.append_,run_underlying ht,sizeOf,typeInfo,hi,Builtin.lenOf,Builtin.firstCells,h1,storeCells,loadCells,loadCellsFrom]

theorem Ye8 {s x:Operand} {T E k by_ i ver n:Nat} {kx:Nat} {xs:List AV} (ho:o.op=.call { callee:=.builtin .append,args:=#[s,x],argTypes:=#[T,T] }) (hs:ev l s=.own i ver k xs) (hi:lk L i=some (.spare E k ver n)) (hx:Qa (ev l x)=some (kx,[]))
  (hT:sliceB P T E k=true) (hE:Yy P E k by_=true):Gy P o l L (Is (.own i ver k xs) L):=
 Hh fun a w β h7 hf=>by
  have hv:=hf.ev s
  rw [hs] at hv
  have h4:=(hf.ev x).Qa hx
  obtain⟨ao,cap,h5,_⟩:=h4.len
  obtain⟨inf,z,e1,e2,e3,e4,e5,e6⟩:=Yy.out hE
  have h6:=hv
  cases hv with
  | data h=>cases h
  | own hd hp=>
   obtain⟨t,ver',hw,h1,h2,h3⟩:=hp
   rw [hi] at h1
   cases h1
   obtain⟨rfl,h8,vals,h0,h9⟩:=h3 rfl
   have hr:=Q74 (P:=P) w 0 T o.type E inf k (sliceB.out hT).1 e1 (a.eval s) _ _ h0 ao cap
   exact⟨a.eval s,by simp [execOp,ho,resolve,invoke,builtin,h5,hr],h6⟩

theorem J91 {L:Loc} {s x:Operand} {T E k by_ i kx:Nat} {f:α→AV} {xs ys:List α} (ho:o.op=.call { callee:=.builtin .append,args:=#[s,x],argTypes:=#[T,T] }) (hs:ev l s=OW i k f xs) (hi:lk L i=some (.spare E k xs.length xs.length)) (hx:Qa (ev l x)=some (kx,ys.map f))
  (hT:sliceB P T E k=true) (hE:Yy P E k by_=true) (hb:decide ((xs.length+ys.length)*by_≤140737488355328∧xs.length+ys.length≤maxLen)=true) (h2:∀ y,(f y).flatOk=true) (hk:kx=k∨ys=[]) :
  Gy P o l L (Is (OW i k f (xs++ys)) ((i,.spare E k (xs++ys).length (xs++ys).length)::L)):=by
 have h3:=M2 hb
 by_cases h0:ys=[]
 ·subst h0
  have h:=Ye8 (P:=P) (o:=o) (by_:=by_) ho hs hi (by simpa using hx) hT hE
  rw [List.append_nil]
  intro a w β K Q h4 hf hK
  refine h a w β K Q h4 hf (fun u L1 v w1 β1 hu h5 st1 h6=>?_)
  obtain⟨rfl,rfl⟩:=hu
  have h1:Hd1 L1 ((i,.spare E k xs.length xs.length)::L1):=fun j=>by
   rw [Gh]
   by_cases e:i=j
   ·subst e; rw [if_pos rfl,hi]
   ·rw [if_neg e]
  exact hK _ _ v w1 β1 ⟨rfl,rfl⟩ (h5.locEq h1) (st1.locEq h1) (h6.locEq h1)
 ·have h:=Q3c (ver1:=(xs++ys).length) (xs:=xs.map f) (ys:=ys.map f) ho hs hi hx hT hE (by simpa using h3.1) (by simpa using h3.2) (fun y hy=>by
   obtain⟨z,_,rfl⟩:=Mp.1 hy
   exact h2 z) (hk.imp id (fun e=>by rw [e]; rfl)) (by
   have:=List.length_pos_iff.2 h0
   rw [Mi]; omega)
  simpa only [OW,List.map_append,Mi,Mn] using h
def Z4b (s:ByteArray) (z:Int):Option Int:=bif decide (0≤z) then (s[z.toNat]?).map (fun b=>(b.toNat:Int)) else none
theorem Rfe {x ix:Operand} {T:Nat} {kd:IntKind} {s:ByteArray} {z v:Int} (hT:Yb8 P T=true) (ho:o.op=.index T x ix) (hx:ev l x=.sc (.string s)) (hi:ev l ix=.sc (.int kd z)) (hv:Z4b s z=some v):Gy P o l L (Is (.sc (.int .u8 v)) L):=
 Hh fun a w β _ hf=>by
  have h1:=hf.ev x
  rw [hx] at h1
  have h2:=hf.ev ix
  rw [hi] at h2
  unfold Z4b at hv
  by_cases h0:0≤z
  ·rw [M4 h0,cond_true] at hv
   cases hb:s[z.toNat]? with
   | none=>rw [hb] at hv; cases hv
   | some b=>
    rw [hb] at hv
    cases hv
    have hu:P.underlying T=some .string:=by
     unfold Yb8 at hT
     split at hT
     ·assumption
     ·cases hT
    exact⟨.int .u8 b.toNat,by simp [execOp,ho,Instr.index,asIntOf,underlying,hu,h1.inv_sc,h2.inv_sc,h0,hb],.sc⟩
  ·rw [M5 h0,cond_false] at hv; cases hv
theorem Ye1 {x y:Operand} {T i ver m t k kk fo:Nat} {f:α→AV} {xs:List α} {e z:α} {u:AV} (hT:Yg P T kk=true) (ho:o.op=.store T x y) (hu:ev l y=u) (hx:ev l x=.vptr i ver m fo) (hi:lk L i=some (.vec t k ver (xs.map f))) (he:xs[m]? = some e)
  (hc:u.flatOk=true) (hd:u.isData=true) (h1:J93 fo u.cells (f e).cells=some (f z).cells) (hk:u.cells.length=kk) (h0:Nat.blt 0 kk=true) :
  Gy P o l L (Is .junk ((i,.vec t k ver ((xs.set m z).map f))::L)):=by
 have h:=Rfd (P:=P) (e:=f e) (z:=f z) (ds:=(f z).cells) hT ho hu hx hi (Z56 he) hc hd h1 rfl hk h0
 rw [← List.map_set] at h
 exact h
end ops

theorem Ybe {P:Program} {T E k:Nat} (hT:sliceB P T E k=true) (a:Option Addr) (n c:Nat) (w:World):(Op.equal T (.slice a n c) (.slice none 0 0)).run P w=.ok a.isNone w:=by
 have h:=(sliceB.out hT).1
 unfold Op.equal
 generalize hd:Op.maxDepth=d
 obtain⟨d,rfl⟩:∃ m,d=m+1:=⟨Op.maxDepth - 1,by rw [← hd]; rfl⟩
 clear hd
 cases a with
 | none=>rw [Op.equalIn]; simp [underlying,h]
 | some a=>rw [Op.equalIn]; simp [underlying,h]

def Rd7 {α β:Type} [DecidableEq β] (xs:List α) (k:Bool→Option β):Option β:=
 match xs with
 | []=>if k true=k false then k false else none
 | _=>k false
theorem H5b {α β γ:Type} [DecidableEq β] {xs:List α} {k:Bool→Option β} {r:β} {f:α→γ} (h:Rd7 xs k=some r) (b:Bool) (hb:b=true→xs.map f=[]):k b=some r:=by
 cases xs with
 | nil=>
  have h:(if k true=k false then k false else none)=some r:=h
  by_cases e:k true=k false
  ·rw [if_pos e] at h
   cases b with
   | true=>rw [e]; exact h
   | false=>exact h
  ·rw [if_neg e] at h; cases h
 | cons x l=>
  cases b with
  | true=>have:=hb rfl; cases this
  | false=>exact h
section
variable {P:Program} {o:Oper} {l:Fr} {L:Loc}
theorem Hd7 {x:Operand} {T T' E k k':Nat} {xs:List AV} (hT:sliceB P T E k'=true) (ho:o.op=.binOp .eql T x (.const (.slice none 0 0)) T') (hx:Qa (ev l x)=some (k,xs)):Gy P o l L (fun u L'=>∃ b:Bool,(b=true→xs=[])∧u=BL b∧L'=L):=by
 intro a w β K Q h0 hf hK
 have hd:=(hf.ev x).Qa hx
 have key:∀ ao n c,a.eval x=.slice ao n c→(execOp a.eval o).run P w=.ok (.value (.bool ao.isNone)) w:=fun ao n c e=>by
  have e2:a.eval (.const (.slice none 0 0))=.slice none 0 0:=rfl
  simp [execOp,ho,eqGuard,binOp,e,e2,Ybe hT]
 generalize hv:a.eval x=v at hd
 cases hd with
 | nil h=>
  rename_i cap ao
  unfold Oper.wp
  rw [key _ _ _ hv]
  exact hK _ _ _ _ _ ⟨ao.isNone,fun _=>rfl,rfl,rfl⟩ h0 (Step.refl _ _ _) .sc
 | list vals h1 hm hk hS h=>
  unfold Oper.wp
  rw [key _ _ _ hv]
  exact hK _ _ _ _ _ ⟨false,fun e=>(by cases e),rfl,rfl⟩ h0 (Step.refl _ _ _) .sc
theorem Q8b (i E k:Nat) {x:Operand} {ver:Nat} {xs:List AV} (ho:o.op=.assign x) (hx:ev l x=.sc (.slice none 0 0)) (hi:lk L i=some (.vec E k ver xs)):Gy P o l L (Is (.vec i (ver+1) k 0) ((i,.vec E k (ver+1) [])::L)):=by
 intro a w β K Q h0 hf hK
 have hv:=hf.ev x
 rw [hx] at hv
 have hr:(execOp a.eval o).run P w=.ok (.value (.slice none 0 0)) w:=by simp [execOp,ho,hv.inv_sc]
 unfold Oper.wp
 rw [hr]
 obtain⟨st,sat⟩:=R5 (w':=w) (t:=E) (k:=k) (ver1:=ver+1) (xs':=[]) (ob':=none) h0 (.inr ⟨ver,xs,hi,by omega,fun e=>by omega⟩) rfl rfl ⟨rfl,Mb⟩ (Mb) (fun _ _ _=>rfl) (.inl rfl)
 exact hK _ _ _ w _ ⟨rfl,rfl⟩ (sat ⟨by simp,.inl ⟨rfl,rfl⟩⟩) st (.vec ⟨E,ver+1,[],by rw [Gh,if_pos rfl],Mb,fun _=>⟨rfl,.inl ⟨rfl,rfl,by simp [upP]⟩⟩⟩ rfl)
theorem Q8c (i E k:Nat) {T ver:Nat} {xs:List AV} (ho:o.op=.buildSlice T 0 #[]) (hi:lk L i=some (.vec E k ver xs)) (hT:sliceB P T E k=true):Gy P o l L (Is (.vec i (ver+1) k 0) ((i,.vec E k (ver+1) [])::L)):=by
 intro a w β K Q h1 hf hK
 unfold Oper.wp
 rw [Qc7 (E:=E) (k:=k) ho hT]
 have h0:w.heap.size < (w.alloc (.cells #[] E)).heap.size:=by simp
 obtain⟨st,sat⟩:=R5 (w':=w.alloc (.cells #[] E)) (t:=E) (k:=k) (ver1:=ver+1) (xs':=[]) (ob':=some w.heap.size) h1 (.inr ⟨ver,xs,hi,by omega,fun e=>by omega⟩) rfl rfl ⟨rfl,Mb⟩ (Nat.le_of_lt h0) (fun b hb _=>Q5 w _ hb) (.inr (.inr ⟨_,rfl,Mb,h0⟩))
 have hn:=heap_alloc_new w (.cells #[] E)
 exact hK _ _ _ _ _ ⟨rfl,rfl⟩ (sat ⟨by simp,.inr ⟨_,rfl,#[],hn,by simp,fun j u v hu=>by simp [flat] at hu⟩⟩) st (.vec ⟨E,ver+1,[],by rw [Gh,if_pos rfl],Mb,fun _=>⟨rfl,.inr ⟨w.heap.size,0,rfl,by simp [upP],Mb,Nat.zero_le _,by simp only [World.shape?,hn,Option.bind_some]; simp⟩⟩⟩ rfl)
end

section
variable {P:Program} {o:Oper} {l:Fr} {L:Loc}
end
set_option linter.unusedVariables false

section moves
variable {w w':World} {β:Gx} {L:Loc} {i t k ver1 hw1:Nat}
end moves

section ops
variable {P:Program} {N:Cfg} {Q:Post} {o:Oper} {ops:Array Oper} {rest:List Oper} {l:Fr} {L:Loc}

end ops

section freeze
variable {P:Program} {N:Cfg} {Q:Post} {l l':Fr} {L L':Loc}

end freeze

/-! ### Typed -/
section typed
variable {α:Type}
end typed
set_option linter.unusedVariables false

section sound
variable {P:Program} {N:Cfg} {ops:List Oper} {ws los his:List Nat} {Ls:List Loc} {l0:Fr} {val:Nat→AV}

end sound
set_option linter.unusedVariables false

section typed
variable {P:Program} {N:Cfg} {Q:Post} {o:Oper} {ops:Array Oper} {rest:List Oper} {l:Fr} {L:Loc} {α:Type}

end typed
set_option linter.unusedVariables false

section typed
variable {α β:Type} {f:α→AV} {g:β→AV} {k:Nat}
end typed

section ops
variable {P:Program} {N:Cfg} {o:Oper} {l:Fr} {L L':Loc} {u u':AV} {α:Type}
end ops

/-! ### The entries that are there yet -/
theorem H9b:∀ {es:List (Value×AV)} {vals:List Value} {i:Nat} {e:MapEntry},e∈Qi i es vals ↔ ∃ j p v,es[j]? = some p∧vals[j]? = some v∧isT p.2=false∧e=⟨p.1,v,i+j⟩
 | [],vals,i,e=>by simp [Qi]
 | p::es,[],i,e=>by simp [Qi]
 | p::es,v::vs,i,e=>by
  have ih:=H9b (es:=es) (vals:=vs) (i:=i+1) (e:=e)
  have shift:(∃ j p' v',es[j]? = some p'∧vs[j]? = some v'∧isT p'.2=false∧e=⟨p'.1,v',i+1+j⟩) ↔ ∃ j p' v',(p::es)[j+1]? = some p'∧(v::vs)[j+1]? = some v'∧isT p'.2=false∧e=⟨p'.1,v',i+(j+1)⟩:=by
   constructor
   ·rintro⟨j,p',v',h1,h2,h3,h4⟩; exact⟨j,p',v',by simpa using h1,by simpa using h2,h3,by rw [h4,Nat.add_assoc,Nat.add_comm 1 j]⟩
   ·rintro⟨j,p',v',h1,h2,h3,h4⟩; exact⟨j,p',v',by simpa using h1,by simpa using h2,h3,by rw [h4,Nat.add_assoc,Nat.add_comm 1 j]⟩
  cases hp:isT p.2 with
  | true=>
   simp only [Qi,hp,if_true]
   rw [ih,shift]
   constructor
   ·rintro⟨j,p',v',h⟩; exact⟨j+1,p',v',h⟩
   ·rintro⟨j,p',v',h1,h2,h3,h4⟩
    cases j with
    | zero=>simp at h1; subst h1; rw [hp] at h3; cases h3
    | succ j=>exact⟨j,p',v',h1,h2,h3,h4⟩
  | false=>
   simp only [Qi,hp,Bool.false_eq_true,if_false,Mr]
   rw [ih,shift]
   constructor
   ·rintro(h | ⟨j,p',v',h⟩)
    ·exact⟨0,p,v,rfl,rfl,hp,by simpa using h⟩
    ·exact⟨j+1,p',v',h⟩
   ·rintro⟨j,p',v',h1,h2,h3,h4⟩
    cases j with
    | zero=>simp at h1 h2; subst h1 h2; exact .inl (by simpa using h4)
    | succ j=>exact .inr ⟨j,p',v',h1,h2,h3,h4⟩
theorem J7e {es:List (Value×AV)} {vals:List Value} {i:Nat} {e:MapEntry} (h:e∈Qi i es vals):i≤e.born∧e.born < i+es.length:=by
 obtain⟨j,p,v,h1,_,_,rfl⟩:=H9b.1 h
 have:=(M6 h1).1
 exact⟨by show i≤i+j; omega,by show i+j < _; omega⟩
theorem Gaa:∀ {es:List (Value×AV)} {vals:List Value} {i:Nat},(Qi i es vals).Pairwise (fun a b=>a.born < b.born)
 | [],vals,i=>by simp [Qi]
 | p::es,[],i=>by simp [Qi]
 | p::es,v::vs,i=>by
  have ih:=Gaa (es:=es) (vals:=vs) (i:=i+1)
  cases hp:isT p.2 with
  | true=>simp only [Qi,hp,if_true]; exact ih
  | false=>
   simp only [Qi,hp,Bool.false_eq_true,if_false]
   exact List.pairwise_cons.2 ⟨fun e he=>by have:=(J7e he).1; show i < e.born; omega,ih⟩
theorem Q24:∀ {es:List (Value×AV)} {vals:List Value} {i:Nat} (p:Value×AV) (v:Value),vals.length=es.length→isT p.2=false→Qi i (es++[p]) (vals++[v])=Qi i es vals++[⟨p.1,v,i+es.length⟩]
 | [],[],i,p,v,_,hp=>by simp [Qi,hp]
 | [],_::_,i,p,v,h,_=>by simp at h
 | _::_,[],i,p,v,h,_=>by simp at h
 | q::es,x::vs,i,p,v,h,hp=>by
  have ih:=Q24 (es:=es) (vals:=vs) (i:=i+1) p v (by simpa using h) hp
  have e1:i+1+es.length=i+(q::es).length:=by simp; omega
  cases hq:isT q.2 with
  | true=>simp only [List.cons_append,Qi,hq,if_true]; rw [ih,e1]
  | false=>simp only [List.cons_append,Qi,hq,Bool.false_eq_true,if_false]; rw [ih,e1]
theorem Rdc:∀ {es:List (Value×AV)} {vals:List Value} {i j:Nat} (k:Value),Qi i (es.set j (k,.tup [])) vals=(Qi i es vals).filter (fun e=>decide (e.born≠i+j))
 | [],vals,i,j,k=>by simp [Qi]
 | p::es,[],i,j,k=>by cases j <;> simp [Qi]
 | p::es,v::vs,i,0,k=>by
  have key:(Qi (i+1) es vs).filter (fun e=>decide (e.born≠i+0))=Qi (i+1) es vs:=List.filter_eq_self.2 fun e he=>by
   have:=(J7e he).1
   exact M4 (by omega)
  have ht:isT (AV.tup [])=true:=rfl
  cases hp:isT p.2 with
  | true=>simp only [List.set_cons_zero,Qi,hp,ht,if_true]; exact key.symm
  | false=>
   simp only [List.set_cons_zero,Qi,hp,ht,Bool.false_eq_true,if_false,if_true]
   rw [List.filter_cons_of_neg (by simp),key]
 | p::es,v::vs,i,j+1,k=>by
  have ih:=Rdc (es:=es) (vals:=vs) (i:=i+1) (j:=j) k
  have e1:i+1+j=i+(j+1):=by omega
  rw [e1] at ih
  cases hp:isT p.2 with
  | true=>simp only [List.set_cons_succ,Qi,hp,if_true]; exact ih
  | false=>
   simp only [List.set_cons_succ,Qi,hp,Bool.false_eq_true,if_false]
   rw [List.filter_cons_of_pos (p:=fun e:MapEntry=>decide (e.born≠i+(j+1))) (M4 (show i≠i+(j+1) by omega)),ih]
theorem Y9e {l:List MapEntry} (hs:l.Pairwise (fun a b=>a.born < b.born)) {j q:Nat} {e e':MapEntry} (h:l[j]? = some e) (h':l[q]? = some e') (hb:e.born=e'.born):j=q:=by
 have hj:=(M6 h)
 have hq:=(M6 h')
 obtain⟨h0,rfl⟩:=hj
 obtain⟨h1,rfl⟩:=hq
 have hp:=List.pairwise_iff_getElem.1 hs
 rcases Nat.lt_trichotomy j q with h | h | h
 ·have:=hp j q h0 h1 h; omega
 ·exact h
 ·have:=hp q j h1 h0 h; omega
theorem Q5f {l:List MapEntry} (hs:l.Pairwise (fun a b=>a.born < b.born)) {j:Nat} {e:MapEntry} (h:l[j]? = some e) (f:MapEntry→MapEntry):l.modify j f=l.map (fun x=>if x.born=e.born then f x else x):=by
 apply List.ext_getElem?
 intro q
 rw [List.getElem?_modify,Mf]
 cases hq:l[q]? with
 | none=>rfl
 | some y=>
  by_cases h0:j=q
  ·subst h0
   rw [h] at hq; cases hq
   simp
  ·have:y.born≠e.born:=fun hb=>h0 (Y9e hs h hq hb.symm)
   simp [h0,this]
theorem Qec:∀ {l:List MapEntry},l.Pairwise (fun a b=>a.born < b.born)→∀ {j:Nat} {e:MapEntry},l[j]? = some e→l.eraseIdx j=l.filter (fun x=>decide (x.born≠e.born))
 | [],_,j,e,h=>by simp at h
 | x::r,hs,0,e,h=>by
  simp at h; subst h
  obtain⟨h1,_⟩:=List.pairwise_cons.1 hs
  rw [List.eraseIdx_zero,List.tail_cons,List.filter_cons_of_neg (by simp)]
  exact(List.filter_eq_self.2 fun y hy=>M4 (show y.born≠x.born by have:=h1 y hy; omega)).symm
 | x::r,hs,j+1,e,h=>by
  have h':r[j]? = some e:=by simpa using h
  obtain⟨h1,h2⟩:=List.pairwise_cons.1 hs
  have:=h1 e (M9 h')
  rw [List.eraseIdx_cons_succ,List.filter_cons_of_pos (p:=fun x:MapEntry=>decide (x.born≠e.born)) (M4 (show x.born≠e.born by omega)),Qec h2 h']

/-! ### Typed -/
section plain
variable {κ ν:Type} [DecidableEq κ]
def R5e (l:List (Option (κ×ν))) (a:κ) (v:ν):List (Option (κ×ν)):=if G48 (l.filterMap id) a then l.map (Option.map fun p=>if p.1=a then (a,v) else p) else l++[some (a,v)]
def Y41 (l:List (Option (κ×ν))) (a:κ):List (Option (κ×ν)):=l.map fun o=>o.bind fun p=>if p.1=a then none else some p
def H56 (l:List (Option (κ×ν))) (a:κ):Nat:=l.findIdx fun o=>match o with | some p=>decide (p.1=a) | none=>false
theorem R29 (l:List (Option (κ×ν))) (a:κ) (v:ν):(R5e l a v).filterMap id=H06 (l.filterMap id) a v:=by
 unfold R5e H06
 by_cases h:G48 (l.filterMap id) a=true
 ·rw [if_pos h,if_pos h]
  clear h
  induction l with
  | nil=>rfl
  | cons o r ih=>cases o <;> simp [ih]
 ·rw [if_neg h,if_neg h]; simp
theorem R2e (l:List (Option (κ×ν))) (a:κ):(Y41 l a).filterMap id=(l.filterMap id).filter (fun p=>decide (p.1≠a)):=by
 unfold Y41
 induction l with
 | nil=>rfl
 | cons o r ih=>
  cases o with
  | none=>simp at ih ⊢; exact ih
  | some p=>
   by_cases h:p.1=a
   ·simp [h] at ih ⊢; exact ih
   ·simp [h] at ih ⊢; exact ih
end plain
structure Gw (κ ν:Type) where
 l:List (Option (κ×ν))
 nd:((l.filterMap id).map (·.1)).Nodup
namespace Gw
variable {κ ν:Type} [DecidableEq κ]
def Hd (m:Gw κ ν):List (κ×ν):=m.l.filterMap id
def empty:Gw κ ν:=⟨[],List.nodup_nil⟩
def put (m:Gw κ ν) (a:κ) (v:ν):Gw κ ν:=⟨R5e m.l a v,by rw [R29]; exact J1c m.nd a v⟩
def del (m:Gw κ ν) (a:κ):Gw κ ν:=⟨Y41 m.l a,by rw [R2e]; exact m.nd.sublist (List.filter_sublist.map _)⟩
def get (m:Gw κ ν) (a:κ) (z:ν):ν:=(G3f m.Hd a).getD z
def has (m:Gw κ ν) (a:κ):Bool:=G48 m.Hd a
def size (m:Gw κ ν):Nat:=m.Hd.length
instance:Inhabited (Gw κ ν):=⟨empty⟩
end Gw
def tOf {κ ν:Type} (kv:κ→Value) (av:ν→AV) (l:List (Option (κ×ν))):List (Value×AV):=l.map fun o=>match o with | some p=>(kv p.1,av p.2) | none=>(.tuple #[],.tup [])
theorem H79 {κ ν:Type} [DecidableEq κ]:∀ {l:List (Option (κ×ν))},((l.filterMap id).map (·.1)).Nodup→∀ {q:Nat} {a:κ} {v:ν},l[q]? = some (some (a,v))→H56 l a=q∧G3f (l.filterMap id) a=some v∧G48 (l.filterMap id) a=true
 | [],_,q,a,v,h=>by simp at h
 | none::r,hn,q,a,v,h=>by
  cases q with
  | zero=>simp at h
  | succ q=>
   obtain⟨h1,h2,h3⟩:=H79 (l:=r) (by simpa using hn) (by simpa using h)
   refine⟨?_,by simpa using h2,by simpa using h3⟩
   unfold H56 at h1 ⊢
   rw [List.findIdx_cons]; simp [h1]
 | some (b,u)::r,hn,q,a,v,h=>by
  simp only [List.filterMap_cons_some (f:=id) rfl,id,List.map_cons,List.nodup_cons] at hn
  cases q with
  | zero=>
   simp at h; obtain⟨rfl,rfl⟩:=h
   exact⟨by simp [H56,List.findIdx_cons],by simp [G3f],by simp [G48]⟩
  | succ q=>
   have h':r[q]? = some (some (a,v)):=by simpa using h
   have h0:b≠a:=fun e=>hn.1 (by subst e; exact Mp.2 ⟨(b,v),List.mem_filterMap.2 ⟨_,M9 h',rfl⟩,rfl⟩)
   obtain⟨h1,h2,h3⟩:=H79 (l:=r) hn.2 h'
   refine⟨?_,?_,?_⟩
   ·unfold H56 at h1 ⊢; rw [List.findIdx_cons]; simp [h0,h1]
   ·simp only [G3f] at h2 ⊢; simp [h0]; simpa using h2
   ·simp only [G48] at h3 ⊢; simp [h0]; simpa using h3
end Go.Proofs.YtgcpimpnpcdmmaaGreat
