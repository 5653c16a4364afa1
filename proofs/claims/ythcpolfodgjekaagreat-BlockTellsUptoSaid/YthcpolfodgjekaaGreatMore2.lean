/-
 More steps: cells of boxes that hold slices which the call may write in place.
-/
import Derived.Test.YthcpolfodgjekaaGreatRangeF
set_option linter.unusedSimpArgs false
namespace Go.Proofs.YthcpolfodgjekaaGreat
open Go.RowKit

theorem A_store0 {P:Program} {o:Oper} {l:Fr} {L:Loc} {u:AV} {x y:Operand} {T i:Nat} {t:TypeId} (hT:Ys P T 0=true) (ho:o.op=.store T x y) (hu:ev l y=u) (hx:ev l x=.ptr i 0) (hi:lk L i=some (.box t []))
  (hc:u.flatOk=true) (hk:u.cells=[]):H4 P o l L (Is .junk ((i,.box t [])::L)):=by
 subst hu
 intro a w β K Q hsat hf hK
 have h1:=hf.ev x
 rw [hx] at h1
 obtain⟨b,hb,hax⟩:=h1.inv_ptr
 obtain⟨old,ho1,ho2,ho3⟩:=Hd4 hsat hi hb
 obtain⟨c1,c2,c3⟩:=(hf.ev y).cells hc
 rw [hk] at c1
 have hr:=H58 (P:=P) (off:=0) hT c1 c3 ho1 (by omega)
 unfold Oper.wp
 have hr':(execOp a.eval o).run P w=.ok .skip (w.setRow b (old.toList.take 0++(a.eval y).cells.toList++old.toList.drop (0+0)).toArray):=by
  simp [execOp,ho,hax,hr]
 rw [hr']
 have ho2':old.size=0:=by simpa using ho2
 have hcz:(a.eval y).cells.size=0:=by simpa using c1
 refine hK _ _ _ _ β ⟨rfl,rfl⟩ (hsat.set hi hb ho1 _ ?_ ?_) (Step.set hsat hi hb _) .junk
 ·simp [hcz,ho2']
 ·intro j u v hu hv
  simp at hu

theorem Y1.ver {P:Program} {f:FuncId} {args:List AV} {i t k n:Nat} {xs:List AV} (h:Y1 P f args [] (fun u L'=>∃ p:Nat,u=.vec i p k n∧L'=[(i,.vec t k p xs)])) (q:Nat):Y1 P f args [] (fun u L'=>u=.vec i q k n∧L'=[(i,.vec t k q xs)]):=by
 intro w β vs hsat hl hv
 refine(h w β vs hsat hl hv).mono fun e w' hr=>?_
 obtain⟨v,r,β',L',rfl,hs,st,hvr,p,rfl,rfl⟩:=hr
 have hlk:∀ id,(lk [(i,Jn.vec t k p xs)] id).isSome=(lk [(i,Jn.vec t k q xs)] id).isSome:=fun id=>by
  rw [Gs,Gs]; split <;> rfl
 have hstab:∀ b j,Q6 w' β' [(i,Jn.vec t k p xs)] b j→Q6 w' β' [(i,Jn.vec t k q xs)] b j:=fun b j h=>⟨h.lt,h.seen,fun id o ho hb=>by
  rw [Gs] at ho
  by_cases e:i=id
  ·subst e
   rw [if_pos rfl] at ho; cases ho
   exact(show False from h.kept i (.vec t k p xs) (by rw [Gs,if_pos rfl]) hb).elim
  ·rw [if_neg e] at ho; cases ho⟩
 refine⟨v,_,β',_,rfl,⟨hs.hid,fun id b h1=>hs.bnd id b (by rw [hlk]; exact h1),fun id b j h1=>hs.apart id b j (by rw [hlk]; exact h1),fun id id' b h1 h2=>hs.inj id id' b (by rw [hlk]; exact h1) (by rw [hlk]; exact h2),fun id o ho=>?_⟩,
  ⟨st.os,st.tape,st.output,st.size,st.hid,fun b j h=>⟨hstab b j (st.stab b j h).1,(st.stab b j h).2⟩,fun b hb hf=>⟨(st.far b hb hf).1,fun id hid=>(st.far b hb hf).2 id (by rw [hlk]; exact hid)⟩,fun id t cs h=>by simp [lk] at h,fun id t cs h=>by simp [lk] at h,fun id t n cs h=>by simp [lk] at h,fun id t k ver xs h=>by simp [lk] at h,fun id t k ver xs h=>by simp [lk] at h⟩,?_,rfl,rfl⟩
 ·rw [Gs] at ho
  by_cases e:i=id
  ·subst e
   rw [if_pos rfl] at ho; cases ho
   have h0:=hs.obj i _ (by rw [Gs,if_pos rfl])
   refine⟨h0.1,h0.2.imp_right ?_⟩
   rintro⟨b,hb,vs,a1,a2,a3⟩
   exact⟨b,hb,vs,a1,a2,fun j u v hu hv=>(a3 j u v hu hv).mono fun b i hs=>⟨hstab b i hs,rfl⟩⟩
  ·rw [if_neg e] at ho; cases ho
 ·cases hvr with
  | data h=>cases h
  | vec hp hone=>
   obtain⟨t',ver',xs',h1,_,h3⟩:=hp
   rw [Gs,if_pos rfl] at h1; cases h1
   exact .vec ⟨t,q,xs,by rw [Gs,if_pos rfl],Nat.le_refl _,fun _=>h3 rfl⟩ hone
def Gad (l:Fr):List Operand→List AV→Prop
 | [],[]=>True
 | x::r,u::s=>((ev l x).plain=u∨∃ k,u=.list k []∧ev l x=.sc (.slice none 0 0))∧u.isData=true∧Gad l r s
 | _,_=>False
theorem Gad.length {l:Fr}:∀ {xs:List Operand} {us:List AV},Gad l xs us→xs.length=us.length
 | [],[],_=>rfl
 | _::_,_::_,h=>by simp [Gad.length h.2.2]
 | [],_::_,h=>h.elim
 | _::_,[],h=>h.elim
theorem Gad.get {l:Fr}:∀ {xs:List Operand} {us:List AV},Gad l xs us→∀ {j:Nat} {x:Operand} {u:AV},xs[j]? = some x→us[j]? = some u→((ev l x).plain=u∨∃ k,u=.list k []∧ev l x=.sc (.slice none 0 0))∧u.isData=true
 | x::r,u::s,h,j,x',u',hx,hu=>by
  cases j with
  | zero=>simp at hx hu; subst hx; subst hu; exact⟨h.1,h.2.1⟩
  | succ j=>simp at hx hu; exact h.2.2.get hx hu
 | [],[],_,j,_,_,hx,_=>by simp at hx
 | [],_::_,h,_,_,_,_,_=>h.elim
 | _::_,[],h,_,_,_,_,_=>h.elim
theorem Q80 {P:Program} {o:Oper} {l:Fr} {L:Loc} {u:AV} {f:FuncId} {xs:List Operand} {args:List AV} {ts:Array TypeId} (ho:o.op=.call { callee:=.value (.func f),args:=xs.toArray,argTypes:=ts }) (hc:Pure P f args (·=u)) (hB:Ha P f=true) (ha:Gad l xs args):H4 P o l L (Is u L):=by
 intro a w β K Q hsat hf hK
 have hr:(execOp a.eval o).run P w=.ok (.enter f (xs.toArray.map a.eval)) w:=by
  simp [execOp,ho,resolve,Act.eval,Deferred.ofValue,invoke,Ha.out hB]
 unfold Oper.wp
 rw [hr]
 show Calls P f _ w _
 refine(Hec hc hsat (vs:=xs.toArray.map a.eval) (by simp [ha.length]) (fun j u v hu hv=>?_)).mono fun e w' h=>?_
 ·simp only [Array.getElem?_map,List.getElem?_toArray,Option.map_eq_some_iff] at hv
  obtain⟨x,hx,rfl⟩:=hv
  obtain⟨h1,h2⟩:=ha.get hx hu
  rcases h1 with h1 | ⟨k0,h1,h3⟩
  ·have:=(hf.ev x).plain
   rw [h1] at this
   exact this.toD h2
  ·have hv:=hf.ev x
   rw [h3] at hv
   rw [h1,hv.inv_sc]
   exact .nil (Nat.zero_le _)
 ·obtain⟨v,r,rfl,h1,h2,h3,h4⟩:=h
  exact hK r L v w' β ⟨h4,rfl⟩ h1 h2 h3
/-! ### A variable of a map's type is set anew: the new map takes the old one's name -/
theorem Gba.conv {w:World} {β:H7} {L L':Loc} {ob:Option Nat} {o o':Jn} (hd:J2f L L') (hc:Gc0 (fun i=>(lk L' i).isSome) o o') (h0:Gba w β L ob o):Gba w β L' ob o':=by
 cases hc with
 | same=>exact h0
 | map=>
  obtain⟨b,h1,ents,h2,h3,h4⟩:=h0
  exact⟨b,h1,ents,h2,h3,fun i e k u he hu=>⟨(h4 i e k u he hu).1,(h4 i e k u he hu).2.1.mono fun b i hs=>⟨hd.stab hs,rfl⟩,(h4 i e k u he hu).2.2⟩⟩
 | vec=>
  obtain⟨h00,h0⟩:=h0
  refine⟨h00,?_⟩
  rcases h0 with h0 | ⟨b,h1,vs,h2,h3,h4⟩
  ·exact .inl h0
  ·exact .inr ⟨b,h1,vs,h2,h3,fun j u v hu hv=>(h4 j u v hu hv).mono fun b i hs=>⟨hd.stab hs,rfl⟩⟩
 | iter hm=>
  obtain⟨b,h1,bm,t,es,h2,h3,h4⟩:=h0
  obtain⟨o',ho'⟩:=Option.isSome_iff_exists.1 hm
  obtain⟨o2,ho2,hl⟩:=hd.like _ o' ho'
  rw [h2] at ho2; cases ho2
  cases o' <;> simp [Jn.like] at hl
  subst hl
  exact⟨b,h1,bm,_,_,ho',h3,h4⟩
 | box hl hc=>
  obtain⟨b,h1,vs,h2,h3,h4⟩:=h0
  refine⟨b,h1,vs,h2,h3.trans hl,fun j u' v hu' hv=>?_⟩
  rename_i cs cs'
  have hj:j < cs.length:=by
   rcases Nat.lt_or_ge j cs'.length with h | h
   ·omega
   ·simp [List.getElem?_eq_none h] at hu'
  exact(h4 j cs[j] v (by simp [hj]) hv).conv hd (hc j _ _ (by simp [hj]) hu')

def RenF (i j:Nat) (ok:Nat→Bool) (l:Fr):Fr→Prop
 | []=>True
 | (s,u)::r=>((look l s=.mp j∧u=.mp i)∨(look l s=u∧u.refs ok=true))∧RenF i j ok l r
theorem RenF.get {i j:Nat} {ok:Nat→Bool} {l:Fr}:∀ {l':Fr},RenF i j ok l l'→∀ t,look l' t=.junk∨(look l t=.mp j∧look l' t=.mp i)∨(look l t=look l' t∧(look l' t).refs ok=true)
 | [],_,t=>.inl (by simp [look])
 | (s,u)::r,h,t=>by
  by_cases e:s=t
  ·subst e
   have e1:look ((s,u)::r) s=u:=by simp [look]
   rw [e1]; exact .inr h.1
  ·have hb:Nat.beq s t=false:=by
    cases hb:Nat.beq s t with
    | false=>rfl
    | true=>exact absurd (Nat.eq_of_beq_eq_true hb) e
   have e1:look ((s,u)::r) t=look r t:=by simp [look,hb]
   rw [e1]; exact RenF.get h.2 t

end Go.Proofs.YthcpolfodgjekaaGreat
