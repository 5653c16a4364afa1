/- More steps: -/
import Derived.Test.YtibhpogonkdiaaaGreatRangeF
set_option linter.unusedSimpArgs false
namespace Go.Proofs.YtibhpogonkdiaaaGreat
open Go.RowKit

variable {N:Cfg} {l:Fr} {β:H2} {L:Loc} {t:TypeId} {w:World}
theorem Rr.vecCell {w0:World} {β0:H2} {L0:Loc} {a:Act} (hs:Rr N w0 β0 L0 a w β l L) (i j id E k:Nat) {cs cs':AG} (hi:lk L i=some (.box t cs)) (hid:lk L id=none) (hj:cs[j]? = some (.sc (.slice none 0 0)))
  (h2:cs.set j (.vec id 0 k 0)=cs'):∃ β',Rr N w0 β0 L0 a w β' l ((i,.box t cs')::(id,.vec E k 0 [])::L):=by
 obtain⟨st,sat⟩:=Rn (w':=w) (t:=E) (k:=k) (AZ:=0) (xs':=[]) (ob':=none) hs.sat (.inl hid) rfl rfl ⟨rfl,Sf⟩ (Sf) (fun _ _ _=>rfl) (.inl rfl);have h1:Rr N w0 β0 L0 a w (upP β id none) l ((id,.vec E k 0 [])::L):=⟨sat ⟨by simp,.inl ⟨rfl,rfl⟩⟩,hs.step.trans st,hs.frame.step st,hs.size,hs.base,hs.defers.step st⟩;have h3:id≠i:=fun e=>by subst e; rw [hi] at hid; cases hid
 refine⟨_,h1.redescribe (i:=i) (t:=t) (cs:=cs) (by rw [Gm,if_neg h3]; exact hi) (by rw [<- h2]; simp) fun vs q u v h0 h5 hu hv=>?_⟩;rw [<- h2] at hu;by_cases e:j=q
 ·subst e;have h4:j < cs.length:=(Sa hj).1;simp [List.getElem?_set,h4] at hu;subst hu;have:=h0 j _ v hj hv;rw [this.inv_sc];exact .vec ⟨E,0,[],(by rw [Gm,if_pos rfl]:lk ((id,Jn.vec E k 0 [])::L) id=_),Sf,fun _=>⟨rfl,.inl ⟨rfl,rfl,by rw [show (upP β id none).at_ id=none by simp [upP]]⟩⟩⟩ rfl
 ·grind
variable {P:Program}
theorem HH {ops:Array Oper} {rest:AN} {Q:Post} (i j id E k:Nat) {cs cs':AG} (hi:lk L i=some (.box t cs)) (hid:lk L id=none) (hj:cs[j]? = some (.sc (.slice none 0 0)))
  (h0:cs.set j (.vec id 0 k 0)=cs') (hk:JL P N ops rest Q l ((i,.box t cs')::(id,.vec E k 0 [])::L)):JL P N ops rest Q l L:=
 fun n w0 β0 L0 a w β hs=>by
  obtain⟨β',h⟩:=hs.vecCell i j id E k hi hid hj h0;exact hk n w0 β0 L0 a w β' h

variable {T i:Nat} {o:Oper} {x y:Operand}
theorem Je4 {u:AV} (hT:Y0 P T 0=true) (ho:o.op=.store T x y) (hu:ev l y=u) (hx:ev l x=.ptr i 0) (hi:lk L i=some (.box t []))
  (hc:u.BJ=true) (hk:u.cells=[]):H7 P o l L (Is .AP ((i,.box t [])::L)):=by
 subst hu;intro a w β K Q h0 hf hK;have h1:=hf.ev x;rw [hx] at h1;obtain⟨b,hb,h4⟩:=h1.inv_ptr;obtain⟨old,h2,h5,h8⟩:=xC h0 hi hb;obtain⟨c1,c2,c3⟩:=(hf.ev y).cells hc;rw [hk] at c1;have hr:=rI (P:=P) (off:=0) hT c1 c3 h2 (by omega);unfold Oper.wp;have h6:(execOp a.eval o).run P w=.ok .skip (w.setRow b (old.toList.take 0++(a.eval y).cells.toList++old.toList.drop (0+0)).toArray):=by
  simp [execOp,ho,h4,hr]
 rw [h6];have h3:old.size=0:=by simpa using h5
 have h7:(a.eval y).cells.size=0:=by simpa using c1
 refine hK _ _ _ _ β ⟨rfl,rfl⟩ (h0.set hi hb h2 _ ?_ ?_) (Step.set h0 hi hb _) .AP
 ·simp [h7,h3]
 ·grind

variable {f:FuncId} {args xs:AG} {k n:Nat}
theorem Q4.ver {t:Nat} (h:Q4 P f args [] (fun u L'=>∃ p:Nat,u=.vec i p k n∧L'=[(i,.vec t k p xs)])) (q:Nat):Q4 P f args [] (fun u L'=>u=.vec i q k n∧L'=[(i,.vec t k q xs)]):=by
 intro w β vs h6 hl hv;refine(h w β vs h6 hl hv).mono fun e w' hr=>?_;obtain⟨v,r,β',L',rfl,hs,st,h8,p,rfl,rfl⟩:=hr;have h4:∀ id,(lk [(i,Jn.vec t k p xs)] id).isSome=(lk [(i,Jn.vec t k q xs)] id).isSome:=fun id=>by
  rw [Gm,Gm]; split <;> rfl
 have h5:∀ b j,J6 w' β' [(i,Jn.vec t k p xs)] b j->J6 w' β' [(i,Jn.vec t k q xs)] b j:=fun b j h=>⟨h.lt,h.seen,fun id o ho hb=>by
  rw [Gm] at ho;by_cases e:i=id
  ·subst e;rw [if_pos rfl] at ho; cases ho;exact(show False from h.kept i (.vec t k p xs) (by rw [Gm,if_pos rfl]) hb).elim
  ·rw [if_neg e] at ho; cases ho⟩
 refine⟨v,_,β',_,rfl,⟨hs.hid,fun id b h1=>hs.bnd id b (by rw [h4]; exact h1),fun id b j h1=>hs.apart id b j (by rw [h4]; exact h1),fun id id' b h1 h2=>hs.inj id id' b (by rw [h4]; exact h1) (by rw [h4]; exact h2),fun id o ho=>?_⟩,
  ⟨st.os,st.tape,st.output,st.size,st.hid,fun b j h=>⟨h5 b j (st.AX b j h).1,(st.AX b j h).2⟩,fun b hb hf=>⟨(st.far b hb hf).1,fun id hid=>(st.far b hb hf).2 id (by rw [h4]; exact hid)⟩,fun id t cs h=>by simp [lk] at h,fun id t cs h=>by simp [lk] at h,fun id t n cs h=>by simp [lk] at h,fun id t k ver xs h=>by simp [lk] at h,fun id t k ver xs h=>by simp [lk] at h⟩,?_,rfl,rfl⟩
 ·rw [Gm] at ho;by_cases e:i=id
  ·subst e;rw [if_pos rfl] at ho; cases ho;have h0:=hs.obj i _ (by rw [Gm,if_pos rfl]);refine⟨h0.1,h0.2.imp_right ?_⟩;rintro⟨b,hb,vs,a1,a2,a3⟩;exact⟨b,hb,vs,a1,a2,fun j u v hu hv=>(a3 j u v hu hv).mono fun b i hs=>⟨h5 b i hs,rfl⟩⟩
  ·rw [if_neg e] at ho; cases ho
 ·cases h8 with
  | data h=>cases h
  | vec hp h7=>
   obtain⟨t',ver',xs',h1,_,h3⟩:=hp;rw [Gm,if_pos rfl] at h1; cases h1;exact .vec ⟨t,q,xs,by rw [Gm,if_pos rfl],Sf,fun _=>h3 rfl⟩ h7
variable {E:Nat}
theorem Q4.fresh0 (h:Q4 P f args [] (fun av L'=>∃ p,av=.vec i p k n∧L'=[(i,.vec E k p xs)])):Q4 P f args [] (fun av L'=>av=.vec i 0 k n∧L'=[(i,.vec E k 0 xs)]):=h.ver 0

theorem Q4.data0 (h:Q4 P f args [] (fun av L'=>∃ p,av=.vec i p k n∧L'=[(i,.vec E k p xs)])):Pure P f args (·=.list k xs):=by
 intro w β vs h0 hl hv;refine(h w β vs h0 hl hv).mono fun e w' hh=>?_;obtain⟨v,r,β',L',rfl,hs,st,h1,p,rfl,rfl⟩:=hh;have hd:V w' β' [] (.list k xs) v:=V.vfreeze hs (by rw [Gm,if_pos rfl]) ⟨fun id o h=>by simp [lk] at h⟩ rfl h1;refine⟨v,_,β',[],rfl,⟨hs.hid,fun id b h=>by simp [lk] at h,fun id b j h=>by simp [lk] at h,fun id id' b h=>by simp [lk] at h,fun id o h=>by simp [lk] at h⟩,
  ⟨st.os,st.tape,st.output,st.size,st.hid,fun b j hb=>⟨⟨(st.AX b j hb).1.lt,(st.AX b j hb).1.seen,fun id o h=>by simp [lk] at h⟩,(st.AX b j hb).2⟩,fun b hb hf=>⟨(st.far b hb hf).1,fun id h=>by simp [lk] at h⟩,fun id t cs h=>by simp [lk] at h,fun id t cs h=>by simp [lk] at h,fun id m n es h=>by simp [lk] at h,fun id t k ver xs h=>by simp [lk] at h,fun id t k ver hw h=>by simp [lk] at h⟩,hd,rfl,rfl⟩

theorem Q4.lentData {q:Nat} {ys:AG} (h:Q4 P f args [(i,.vec E k q ys)] (fun av L'=>∃ p,av=.vec i p k n∧L'=[(i,.vec E k p xs)])) :
  Q4 P f args [(i,.vec E k q ys)] (fun av L'=>av=.list k xs∧L'=[(i,.vec E k (q+1) [])]):=by
 intro w β vs h0 hl hv;refine(h w β vs h0 hl hv).mono fun e w' hh=>?_;obtain⟨v,r,β',L',rfl,hs,st,h4,p,rfl,rfl⟩:=hh;have hi:lk [(i,Jn.vec E k p xs)] i=some (.vec E k p xs):=by rw [Gm,if_pos rfl]
 have hd:V w' β' [] (.list k xs) v:=V.vfreeze hs hi ⟨fun id o h=>by simp [lk] at h⟩ rfl h4;have none1:∀ id b,(lk [(i,Jn.vec E k (q+1) [])] id).isSome=true->(upP β' i none) id≠some b:=fun id b h1 h2=>by
  rw [Gm] at h1;split at h1
  ·rename_i e; subst e; simp [upP] at h2
  ·simp [lk] at h1
 have AX:∀ b j,b < w'.heap.size->¬ β'.hid b j->J6 w' (upP β' i none) [(i,Jn.vec E k (q+1) [])] b j:=fun b j h1 h2=>⟨h1,h2,fun id o ho hb=>(none1 id b (by rw [ho]; rfl) hb).elim⟩;refine⟨v,_,upP β' i none,_,rfl,⟨hs.hid,fun id b h1 h2=>(none1 id b h1 h2).elim,fun id b j h1 h2=>(none1 id b h1 h2).elim,fun id id' b h1 h2 h3=>(none1 id b h1 h3).elim,fun id o ho=>?_⟩,
  ⟨st.os,st.tape,st.output,st.size,st.hid,fun b j hb=>⟨AX b j (st.AX b j hb).1.lt (st.AX b j hb).1.seen,(st.AX b j hb).2⟩,fun b hb hf=>⟨(st.far b hb hf).1,fun id h1=>none1 id b h1⟩,fun id t cs h=>?_,fun id t cs h=>?_,fun id m n es h=>?_,fun id t k' ver xs' h=>?_,fun id t k' ver hw h=>?_⟩,?_,rfl,rfl⟩
 ·rw [Gm] at ho;split at ho
  ·rename_i e; subst e; cases ho;exact⟨fun x hx=>by simp at hx,.inl ⟨by simp [upP],rfl⟩⟩
  ·simp [lk] at ho
 ·rw [Gm] at h; split at h <;> simp [lk] at h
 ·rw [Gm] at h; split at h <;> simp [lk] at h
 ·rw [Gm] at h; split at h <;> simp [lk] at h
 ·rw [Gm] at h;split at h
  ·rename_i e; subst e; cases h;exact⟨_,_,by rw [Gm,if_pos rfl],Nat.le_succ _,fun e=>by omega⟩
  ·simp [lk] at h
 ·rw [Gm] at h; split at h <;> simp [lk] at h
 ·exact .data ((hd.toD rfl).mono fun b j hb=>⟨AX b j hb.lt hb.seen,rfl⟩)

/-! ### A variable of a map's type is set anew: the new map takes the old one's name -/
theorem lA.conv {L':Loc} {ob:Option Nat} {o o':Jn} (hd:zA L L') (hc:jO (fun i=>(lk L' i).isSome) o o') (h0:lA w β L ob o):lA w β L' ob o':=by
 cases hc with
 | same=>exact h0
 | map=>
  obtain⟨b,h1,h2⟩:=h0;exact⟨b,h1,h2.mono rfl fun h=>h.mono fun b i hs=>⟨hd.AX hs,rfl⟩⟩
 | vec=>
  obtain⟨h6,h0⟩:=h0;refine⟨h6,?_⟩;rcases h0 with h0 | ⟨b,h1,vs,h2,h3,h4⟩
  ·exact .inl h0
  ·exact .inr ⟨b,h1,vs,h2,h3,fun j u v hu hv=>(h4 j u v hu hv).mono fun b i hs=>⟨hd.AX hs,rfl⟩⟩
 | pin=>
  obtain⟨h1,vs,h2,h3,h4⟩:=h0;exact⟨h1,vs,h2,h3,fun j u v hu hv=>(h4 j u v hu hv).mono fun b i hs=>⟨hd.AX hs,rfl⟩⟩
 | iter hm=>
  obtain⟨b,h1,bm,h2,h4⟩:=h0;exact⟨b,h1,bm,h2.drop hd hm,h4⟩
 | box hl hc=>
  obtain⟨b,h1,vs,h2,h3,h4⟩:=h0;refine⟨b,h1,vs,h2,h3.trans hl,fun j u' v h5 hv=>?_⟩;rename_i cs cs';have hj:j < cs.length:=by
   grind
  exact(h4 j cs[j] v (by simp [hj]) hv).conv hd (hc j _ _ (by simp [hj]) h5)

def J96 (i j:Nat) (ok:Nat->Bool) (l:Fr):Fr->Prop
 | []=>True
 | (s,u)::r=>((look l s=.mp j∧u=.mp i)∨(look l s=u∧u.refs ok=true))∧J96 i j ok l r
theorem J96.get {i j:Nat} {ok:Nat->Bool} {l:Fr}:∀ {l':Fr},J96 i j ok l l'->∀ t,look l' t=.AP∨(look l t=.mp j∧look l' t=.mp i)∨(look l t=look l' t∧(look l' t).refs ok=true)
 | [],_,t=>.inl (by simp [look])
 | (s,u)::r,h,t=>by
  by_cases e:s=t
  ·subst e;have e1:look ((s,u)::r) s=u:=by simp [look]
   rw [e1]; exact .inr h.1
  ·have hb:Nat.beq s t=false:=by
    cases hb:Nat.beq s t with
    | false=>rfl
    | true=>exact absurd (S2 hb) e
   have e1:look ((s,u)::r) t=look r t:=by simp [look,hb]
   rw [e1]; exact J96.get h.2 t

theorem Rr.rename {w0:World} {β0:H2} {L0 L3:Loc} {a:Act} {l':Fr} {j t:Nat} {es:List (Value×AV)} (hs:Rr N w0 β0 L0 a w β l ((j,.map t es)::L3)) (hi:lk L3 i=none) (hj:lk L3 j=none) (h8:Nat.beq i j=false)
  (h9:N.base.contains i=false) (a0:N.base.contains j=false) (h3:gO (fun id=>(lk ((i,Jn.map t es)::L3) id).isSome) L3 L3) (hl:J96 i j (fun id=>(lk ((i,Jn.map t es)::L3) id).isSome) l l') :
  Rr N w0 β0 L0 a w (upP β i (β.at_ j)) l' ((i,.map t es)::L3):=by
 have h7:i≠j:=fun e=>by subst e; simp at h8
 have ib:i ∉ N.base:=fun h=>by simp [List.contains_iff_mem,h] at h9
 have jb:j ∉ N.base:=fun h=>by simp [List.contains_iff_mem,h] at a0
 have l1i:lk ((j,Jn.map t es)::L3) i=none:=by rw [Gm,if_neg (Ne.symm h7)]; exact hi
 have l1j:lk ((j,Jn.map t es)::L3) j=some (.map t es):=by rw [Gm,if_pos rfl]
 have li:lk ((i,Jn.map t es)::L3) i=some (.map t es):=by rw [Gm,if_pos rfl]
 have lj:lk ((i,Jn.map t es)::L3) j=none:=by rw [Gm,if_neg h7]; exact hj
 have lo:∀ id,id≠i->id≠j->lk ((i,Jn.map t es)::L3) id=lk ((j,Jn.map t es)::L3) id:=fun id h1 h2=>by rw [Gm,if_neg (Ne.symm h1),Gm,if_neg (Ne.symm h2)]
 have bi:(upP β i (β.at_ j)).at_ i=β.at_ j:=by simp [upP]
 have bo:∀ id,id≠i->(upP β i (β.at_ j)).at_ id=β.at_ id:=fun id h=>by simp [upP,h]
 -- where what is called id lay bf
 have old:∀ id o,lk ((i,Jn.map t es)::L3) id=some o->∃ id',lk ((j,Jn.map t es)::L3) id'=some o∧(upP β i (β.at_ j)).at_ id=β.at_ id'∧((id=i∧id'=j)∨(id≠i∧id≠j∧id'=id)):=fun id o ho=>by
  by_cases e:id=i
  ·subst e; rw [li] at ho; cases ho; exact⟨j,l1j,bi,.inl ⟨rfl,rfl⟩⟩
  ·have e2:id≠j:=fun e2=>by subst e2; rw [lj] at ho; cases ho
   exact⟨id,by rw [<- lo id e e2]; exact ho,bo id e,.inr ⟨e,e2,rfl⟩⟩
 have AX:∀ b k,J6 w β ((j,Jn.map t es)::L3) b k->J6 w (upP β i (β.at_ j)) ((i,Jn.map t es)::L3) b k:=fun b k h=>⟨h.lt,h.seen,fun id o ho hb=>by
  obtain⟨id',h1,h2,_⟩:=old id o ho;exact h.kept id' o h1 (by rw [<- h2]; exact hb)⟩
 -- both names at once
 have stabB:∀ b k,J6 w β ((j,Jn.map t es)::L3) b k->J6 w (upP β i (β.at_ j)) ((i,Jn.map t es)::(j,Jn.map t es)::L3) b k:=fun b k h=>⟨h.lt,h.seen,fun id o ho hb=>by
  rw [Gm] at ho;by_cases e:i=id
  ·subst e; rw [if_pos rfl] at ho; cases ho;exact h.kept j _ l1j (by rw [<- bi]; exact hb)
  ·rw [if_neg e] at ho;exact h.kept id o ho (by rw [<- bo id (Ne.symm e)]; exact hb)⟩
 have keep:∀ id o,lk ((j,Jn.map t es)::L3) id=some o->(upP β i (β.at_ j)).at_ id=β.at_ id∧lk ((i,Jn.map t es)::(j,Jn.map t es)::L3) id=some o:=fun id o ho=>by
  have e:id≠i:=fun e=>by subst e; rw [l1i] at ho; cases ho
  exact⟨bo id e,by rw [Gm,if_neg (Ne.symm e)]; exact ho⟩
 have stw:mL w β ((j,Jn.map t es)::L3) w (upP β i (β.at_ j)) ((i,Jn.map t es)::(j,Jn.map t es)::L3):=⟨fun b k h=>⟨stabB b k h,rfl⟩,fun id _ cs h=>⟨(keep id _ h).1,cs,(keep id _ h).2⟩,fun id _ es h=>⟨(keep id _ h).1,es,(keep id _ h).2⟩,fun id _ n es h=>⟨(keep id _ h).1,n,es,(keep id _ h).2⟩,
  fun id _ _ ver xs h=>⟨ver,xs,(keep id _ h).2,Sf,fun _=>⟨rfl,(keep id _ h).1,fun b hb=>rfl⟩⟩,fun id _ _ ver hw h=>⟨ver,hw,(keep id _ h).2,Sf,fun _=>⟨rfl,(keep id _ h).1,fun b hb=>rfl⟩⟩⟩
 have dr:zA ((i,Jn.map t es)::(j,Jn.map t es)::L3) ((i,Jn.map t es)::L3):=⟨fun id o ho=>⟨o,by
  rw [Gm] at ho ⊢;by_cases e:i=id
  ·rw [if_pos e] at ho ⊢; exact ho
  ·rw [if_neg e] at ho ⊢;rw [Gm,if_neg (fun e2=>by subst e2; rw [hj] at ho; cases ho)]; exact ho,by cases o <;> simp [Jn.like]⟩⟩
 have val:∀ {u v},V w β ((j,Jn.map t es)::L3) u v->u.refs (fun id=>(lk ((i,Jn.map t es)::L3) id).isSome)=true->V w (upP β i (β.at_ j)) ((i,Jn.map t es)::L3) u v:=fun h hr=>(h.stepW stw).drop dr hr;have some1:∀ id,(lk ((i,Jn.map t es)::L3) id).isSome=true->∃ id',(lk ((j,Jn.map t es)::L3) id').isSome=true∧(upP β i (β.at_ j)).at_ id=β.at_ id'∧((id=i∧id'=j)∨(id≠i∧id≠j∧id'=id)):=fun id h=>by
  obtain⟨o,ho⟩:=Py h;obtain⟨id',h1,h2,h3⟩:=old id o ho;exact⟨id',by rw [h1]; rfl,h2,h3⟩
 have base0:∀ id o,lk L0 id=some o->id≠i∧id≠j:=fun id o h=>by
  have:=hs.base id (by rw [h]; rfl);exact⟨fun e=>ib (e ▸ this),fun e=>jb (e ▸ this)⟩
 have st:=hs.step;refine⟨⟨hs.sat.hid,fun id b h1 h2=>?_,fun id b k h1 h2=>?_,fun id id2 b h1 h2 h3 h4=>?_,fun id o ho=>?_⟩,
  ⟨st.os,st.tape,st.output,st.size,st.hid,fun b k h=>⟨AX b k (st.AX b k h).1,(st.AX b k h).2⟩,fun b hb hf=>⟨(st.far b hb hf).1,fun id h1 h2=>?_⟩,fun id t cs h=>?_,fun id t cs h=>?_,fun id m n es h=>?_,fun id t k ver xs h=>?_,fun id t k ver hw h=>?_⟩,⟨fun s=>?_⟩,hs.size,hs.base,⟨hs.defers.top,hs.defers.nodup,fun d hd=>?_⟩⟩
 ·obtain⟨id',g1,g2,_⟩:=some1 id h1;exact hs.sat.bnd id' b g1 (g2.symm.trans h2)
 ·obtain⟨id',g1,g2,_⟩:=some1 id h1;exact hs.sat.apart id' b k g1 (g2.symm.trans h2)
 ·obtain⟨id',g1,g2,g3⟩:=some1 id h1;obtain⟨id2',k1,k2,k3⟩:=some1 id2 h2;have:=hs.sat.inj id' id2' b g1 k1 (g2.symm.trans h3) (k2.symm.trans h4);rcases g3 with ⟨rfl,rfl⟩ | ⟨ga,gb,rfl⟩ <;> rcases k3 with ⟨rfl,rfl⟩ | ⟨ka,kb,rfl⟩
  ·rfl
  ·exact(kb this.symm).elim
  ·exact(gb this).elim
  ·exact this
 ·obtain⟨id',g1,g2,g3⟩:=old id o ho;have h0:=hs.sat.obj id' o g1;rw [g2];have h1:=h0.stepW stw (fun b hb=>rfl);refine h1.conv dr ?_;rcases g3 with ⟨rfl,rfl⟩ | ⟨ga,gb,rfl⟩
  ·rw [li] at ho; cases ho; exact .map
  ·have h4:lk L3 id'=some o:=by rw [Gm,if_neg (Ne.symm ga)] at ho; exact ho
   obtain⟨o2,h5,h6⟩:=h3.get h4;rw [h4] at h5; cases h5; exact h6
 ·obtain⟨id',g1,g2,_⟩:=some1 id h1;exact(st.far b hb hf).2 id' g1 (g2.symm.trans h2)
 ·obtain⟨h1,cs',h2⟩:=st.box id t cs h;obtain⟨n1,n2⟩:=base0 id _ h;exact⟨(bo id n1).trans h1,cs',by rw [lo id n1 n2]; exact h2⟩
 ·obtain⟨h1,cs',h2⟩:=st.map id t cs h;obtain⟨n1,n2⟩:=base0 id _ h;exact⟨(bo id n1).trans h1,cs',by rw [lo id n1 n2]; exact h2⟩
 ·obtain⟨h1,n',es',h2⟩:=st.iter id m n es h;obtain⟨n1,n2⟩:=base0 id _ h;exact⟨(bo id n1).trans h1,n',es',by rw [lo id n1 n2]; exact h2⟩
 ·obtain⟨v1,xs1,h1,h2,h3⟩:=st.vec id t k ver xs h;obtain⟨n1,n2⟩:=base0 id _ h;exact⟨v1,xs1,by rw [lo id n1 n2]; exact h1,h2,fun e=>⟨(h3 e).1,(bo id n1).trans (h3 e).2.1,(h3 e).2.2⟩⟩
 ·obtain⟨v1,hw1,h1,h2,h3⟩:=st.spare id t k ver hw h;obtain⟨n1,n2⟩:=base0 id _ h;exact⟨v1,hw1,by rw [lo id n1 n2]; exact h1,h2,fun e=>⟨(h3 e).1,(bo id n1).trans (h3 e).2.1,(h3 e).2.2⟩⟩
 ·have hv:=hs.frame.tmp s;rcases hl.get s with e | ⟨e1,e2⟩ | ⟨e1,e2⟩
  ·rw [e]; exact .AP
  ·rw [e2]; rw [e1] at hv;generalize a.tmps.getD s undef=vv at hv ⊢;cases hv with
   | data h=>cases h
   | mp h1 h2=>
    rw [l1j] at h1; cases h1;exact .mp li (bi.trans h2)
  ·rw [e1] at hv; exact val hv e2
 ·obtain⟨D,h1,h2,h3,h4⟩:=hs.defers.each d hd;refine⟨D,h1,h2,h3,fun id g1 g2=>?_⟩;obtain⟨id',k1,k2,_⟩:=some1 id g1;exact h4 id' k1 (k2.symm.trans g2)
theorem J97 {ops:Array Oper} {rest:AN} {Q:Post} (i j:Nat) (o:Jn) (l1 l':Fr) (L3:Loc) (ho:∃ t es,o=.map t es) (h1:Fits N.base l L l1 ((j,o)::L3)) (hi:lk L3 i=none) (hj:lk L3 j=none) (h0:Nat.beq i j=false)
  (h2:N.base.contains i=false) (h4:N.base.contains j=false) (h3:gO (fun id=>(lk ((i,o)::L3) id).isSome) L3 L3) (hl:J96 i j (fun id=>(lk ((i,o)::L3) id).isSome) l1 l')
  (hk:JL P N ops rest Q l' ((i,o)::L3)):JL P N ops rest Q l L:=fun n w0 β0 L0 a w β hs=>by
 obtain⟨t,es,rfl⟩:=ho;exact hk n w0 β0 L0 a w _ ((hs.fits h1).rename hi hj h0 h2 h4 h3 hl)

theorem Q1f {by_:Nat} {kd kd':IntKind} {nx ny:Int} (zs:AM) (ho:o.op=.makeSlice T x y) (hx:ev l x=.sc (.int kd nx)) (hy:ev l y=.sc (.int kd' ny))
  (hT:sliceB P T E k=true) (hE:Y9 P E k by_=true) (hz:(P.info? E).bind (fun i=>i.zero.map Value.cells)=some zs.toArray) (hn:nx=(n:Int)) (hm:ny=(n:Int)) (hb:decide (by_*n<=281474976710656∧n<=maxLen∧n*k<=16777216)=true)
  (z:AV) (a2:∀ (w:World) (S:Nat->Nat->Prop) (j:Nat) a b,z.cells[j]? = some a->zs[j]? = some b->D w S a b) (h4:z.cells.length=k) :
  H7 P o l L (Is (.list k (List.replicate n z)) L):=by
 subst hn hm;intro a w β K Q h0 hf hK;have h1:=S6 hb;obtain⟨inf,zv,e1,e2,e3,e4,e5,e6⟩:=Y9.out hE;have h5:=hf.ev x;rw [hx] at h5;have h6:=hf.ev y;rw [hy] at h6;have a0:(n:Int)<=9223372036854775807:=by
  have h:=h1.2.1;simp [maxLen] at h;omega
 have a3:(inf.bytes:Int)*(n:Int)<=281474976710656:=by
  have h:((inf.bytes*n:Nat):Int)<=281474976710656:=by rw [e3]; have:=h1.1; omega
  rwa [Int.natCast_mul] at h
 have hr:=run_make (P:=P) w T E inf zv (sliceB.out hT).1 e1 e4 kd kd' n n (by omega) (Int.le_refl _) a3 a0;simp only [Int.toNat_natCast] at hr;have a1:(execOp a.eval o).run P w=.ok (.value (.slice (some ⟨w.heap.size,0,none⟩) n n)) (w.alloc (.cells (madeCells zv.cells (n*inf.size)) E)):=by
  simp [execOp,ho,h5.inv_sc,h6.inv_sc,hr]
 unfold Oper.wp;rw [a1];have h7:zv.cells=zs.toArray:=by
  rw [e1] at hz;simp [e4] at hz;exact hz
 have h2:∀ x∈List.replicate n z,x.cells.length=k:=fun y hy=>by rw [List.eq_of_mem_replicate hy]; exact h4
 have hd:=D.newRow (E:=E) (vs:=madeCells zv.cells (n*inf.size)) h0 h2 (by rw [List.length_replicate]; exact h1.2.1) (by rw [Jd h2,List.length_replicate,size_madeCells,e2]) (fun j u v hu hv=>by
  rw [e2] at hv
  -- the cells
  have h8:∀ x∈List.replicate n z,x.cells.length=k:=fun y hy=>by rw [List.eq_of_mem_replicate hy]; exact h4
  have hj:j < n*k:=by
   have:=(Sa hu).1;rw [Jd h8] at this;simpa using this
  have a4:j=j / k*k+j % k:=by rw [Nat.mul_comm]; exact(Nat.div_add_mod j k).symm
  have hq:j / k < n:=Nat.div_lt_of_lt_mul (by rw [Nat.mul_comm]; exact hj);have a5:(List.replicate n z)[j / k]? = some z:=by simp [hq]
  rw [a4,jE h8 a5 (Nat.mod_lt _ e6)] at hu;have h3:zs.length=k:=by
   have:=e5;rw [h7] at this;simpa using this
  refine a2 _ _ (j % k) u v hu ?_;rw [madeCells] at hv;simp [hj] at hv;rw [<- hv,h7];have h9:j % k < zs.length:=by rw [h3]; exact Nat.mod_lt _ e6
  simp [h3,h9];rw [Sb h9]; rfl)
 rw [List.length_replicate] at hd;exact hK _ _ _ _ β ⟨rfl,rfl⟩ (h0.new _) (Step.new h0 _) (.data hd)
theorem G95 {by_:Nat} {kd kd':IntKind} {nx ny:Int} {α:Type} {f:α->AV} (z:α) (zs:AM) (ho:o.op=.makeSlice T x y) (hx:ev l x=.sc (.int kd nx)) (hy:ev l y=.sc (.int kd' ny))
  (hT:sliceB P T E k=true) (hE:Y9 P E k by_=true) (hz:(P.info? E).bind (fun i=>i.zero.map Value.cells)=some zs.toArray) (hn:nx=(n:Int)) (hm:ny=(n:Int)) (hb:decide (by_*n<=281474976710656∧n<=maxLen∧n*k<=16777216)=true)
  (h0:ZOk (f z).cells zs) (h1:(f z).cells.length=k):H7 P o l L (Is (.list k ((List.replicate n z).map f)) L):=by
 have h:=Q1f (P:=P) (T:=T) (E:=E) (L:=L) zs ho hx hy hT hE hz hn hm hb (f z) (fun w S j a b ha h2=>by
  have:=ZOk.get (w:=w) (β:=⟨fun _=>none,fun b i=>¬ S b i⟩) (L:=[]) h0 j a b ha h2;refine(this.data_of_nil).mono fun b i hs=>⟨Classical.byContradiction fun hn=>hs.seen hn,rfl⟩) h1
 simpa only [List.map_replicate] using h
end Go.Proofs.YtibhpogonkdiaaaGreat
