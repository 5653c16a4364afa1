/-
 More steps: cells of boxes that hold slices which the call may write in place.
-/
import Derived.Test.YtapmanciffiibaaGreatRangeF
set_option linter.unusedVariables false
set_option linter.unusedSimpArgs false
set_option linter.unnecessarySimpa false
namespace Go.Proofs.YtapmanciffiibaaGreat
open Go.RowKit

theorem Q3.vecCell {N:Yu} {w0 w:World} {β0 β:Gr} {L0 L:Loc} {a:Act} {l:Fr} (hs:Q3 N w0 β0 L0 a w β l L) (i j id E k:Nat) {t:TypeId} {cs cs':List AV} (hi:lk L i=some (.box t cs)) (hid:lk L id=none) (hj:cs[j]? = some (.sc (.slice none 0 0)))
  (hcs:cs.set j (.vec id 0 k 0)=cs'):∃ β',Q3 N w0 β0 L0 a w β' l ((i,.box t cs')::(id,.vec E k 0 [])::L):=by
 obtain⟨st,sat⟩:=Qi (w':=w) (t:=E) (k:=k) (ver1:=0) (xs':=[]) (ob':=none) hs.sat (.inl hid) rfl rfl ⟨rfl,Nat.le_refl _⟩ (Nat.le_refl _) (fun _ _ _=>rfl) (.inl rfl)
 have h1:Q3 N w0 β0 L0 a w (J2 β id none) l ((id,.vec E k 0 [])::L):=⟨sat ⟨by simp,.inl ⟨rfl,rfl⟩⟩,hs.step.trans st,hs.frame.step st,hs.size,hs.base,hs.defers.step st⟩
 have hne:id≠i:=fun e=>by subst e; rw [hi] at hid; cases hid
 refine⟨_,h1.redescribe (i:=i) (t:=t) (cs:=cs) (by rw [Gb,if_neg hne]; exact hi) (by rw [← hcs]; simp) fun vs q u v hall hsz hu hv=>?_⟩
 rw [← hcs] at hu
 by_cases e:j=q
 ·subst e
  have hjl:j < cs.length:=(List.getElem?_eq_some_iff.1 hj).1
  simp [List.getElem?_set,hjl] at hu
  subst hu
  have:=hall j _ v hj hv
  rw [this.inv_sc]
  exact .vec ⟨E,0,[],(by rw [Gb,if_pos rfl]:lk ((id,Hk.vec E k 0 [])::L) id=_),Nat.le_refl _,fun _=>⟨rfl,.inl ⟨rfl,rfl,by rw [show (J2 β id none).at_ id=none by simp [J2]]⟩⟩⟩ rfl
 ·rw [List.getElem?_set_ne e] at hu
  exact hall q u v hu hv
theorem J95 {P:Program} {N:Yu} {ops:Array Oper} {rest:List Oper} {Q:Post} {l:Fr} {L:Loc} (i j id E k:Nat) {t:TypeId} {cs cs':List AV} (hi:lk L i=some (.box t cs)) (hid:lk L id=none) (hj:cs[j]? = some (.sc (.slice none 0 0)))
  (hcs:cs.set j (.vec id 0 k 0)=cs') (hk:JL P N ops rest Q l ((i,.box t cs')::(id,.vec E k 0 [])::L)):JL P N ops rest Q l L:=
 fun n w0 β0 L0 a w β hs=>by
  obtain⟨β',h⟩:=hs.vecCell i j id E k hi hid hj hcs
  exact hk n w0 β0 L0 a w β' h

theorem A_store0 {P:Program} {o:Oper} {l:Fr} {L:Loc} {u:AV} {x y:Operand} {T i:Nat} {t:TypeId} (hT:Qt P T 0=true) (ho:o.op=.store T x y) (hu:ev l y=u) (hx:ev l x=.ptr i 0) (hi:lk L i=some (.box t []))
  (hc:u.flatOk=true) (hk:u.cells=[]):Gn P o l L (Is .junk ((i,.box t [])::L)):=by
 subst hu
 intro a w β K Q hsat hf hK
 have h1:=hf.ev x
 rw [hx] at h1
 obtain⟨b,hb,hax⟩:=h1.inv_ptr
 obtain⟨old,ho1,ho2,ho3⟩:=H02 hsat hi hb
 obtain⟨c1,c2,c3⟩:=(hf.ev y).cells hc
 rw [hk] at c1
 have hr:=Gac (P:=P) (off:=0) hT c1 c3 ho1 (by omega)
 unfold Oper.wp
 have hr':(execOp a.eval o).run P w=.ok .skip (w.setRow b (old.toList.take 0++(a.eval y).cells.toList++old.toList.drop (0+0)).toArray):=by
  simp [execOp,ho,hax,hr]
 rw [hr']
 have ho2':old.size=0:=by simpa using ho2
 have hcz:(a.eval y).cells.size=0:=by simpa using c1
 refine hK _ _ _ _ β ⟨rfl,rfl⟩ (hsat.set hi hb ho1 _ ?_ ?_) (Step.set hsat hi hb _) .junk
 ·simp [hcz,ho2']
 ·intro j u v hu hv
  simp at hu

def G1f (l:Fr):List Operand→List AV→Prop
 | [],[]=>True
 | x::r,u::s=>((ev l x).plain=u∨∃ k,u=.list k []∧ev l x=.sc (.slice none 0 0))∧u.isData=true∧G1f l r s
 | _,_=>False
theorem G1f.length {l:Fr}:∀ {xs:List Operand} {us:List AV},G1f l xs us→xs.length=us.length
 | [],[],_=>rfl
 | _::_,_::_,h=>by simp [G1f.length h.2.2]
 | [],_::_,h=>h.elim
 | _::_,[],h=>h.elim
theorem G1f.get {l:Fr}:∀ {xs:List Operand} {us:List AV},G1f l xs us→∀ {j:Nat} {x:Operand} {u:AV},xs[j]? = some x→us[j]? = some u→((ev l x).plain=u∨∃ k,u=.list k []∧ev l x=.sc (.slice none 0 0))∧u.isData=true
 | x::r,u::s,h,j,x',u',hx,hu=>by
  cases j with
  | zero=>simp at hx hu; subst hx; subst hu; exact⟨h.1,h.2.1⟩
  | succ j=>simp at hx hu; exact h.2.2.get hx hu
 | [],[],_,j,_,_,hx,_=>by simp at hx
 | [],_::_,h,_,_,_,_,_=>h.elim
 | _::_,[],h,_,_,_,_,_=>h.elim
theorem Ga2 {P:Program} {o:Oper} {l:Fr} {L:Loc} {u:AV} {f:FuncId} {xs:List Operand} {args:List AV} {ts:Array TypeId} (ho:o.op=.call { callee:=.value (.func f),args:=xs.toArray,argTypes:=ts }) (hc:Pure P f args (·=u)) (hB:Hc P f=true) (ha:G1f l xs args):Gn P o l L (Is u L):=by
 intro a w β K Q hsat hf hK
 have hr:(execOp a.eval o).run P w=.ok (.enter f (xs.toArray.map a.eval)) w:=by
  simp [execOp,ho,resolve,Act.eval,Deferred.ofValue,invoke,Hc.out hB]
 unfold Oper.wp
 rw [hr]
 show Calls P f _ w _
 refine(H18 hc hsat (vs:=xs.toArray.map a.eval) (by simp [ha.length]) (fun j u v hu hv=>?_)).mono fun e w' h=>?_
 ·simp only [Array.getElem?_map,List.getElem?_toArray,Option.map_eq_some_iff] at hv
  obtain⟨x,hx,rfl⟩:=hv
  obtain⟨h1,h2⟩:=ha.get hx hu
  rcases h1 with h1 | ⟨k0,h1,h3⟩
  ·have:=(hf.ev x).plain
   rw [h1] at this
   exact this.toD h2
  ·have hv:=hf.ev x
   rw [h3] at hv
   rw [h1,hv.inv_sc]
   exact .nil (Nat.zero_le _)
 ·obtain⟨v,r,rfl,h1,h2,h3,h4⟩:=h
  exact hK r L v w' β ⟨h4,rfl⟩ h1 h2 h3
/-! ### A variable of a map's type is set anew: the new map takes the old one's name -/
theorem G2b.conv {w:World} {β:Gr} {L L':Loc} {ob:Option Nat} {o o':Hk} (hd:H4e L L') (hc:G31 (fun i=>(lk L' i).isSome) o o') (h0:G2b w β L ob o):G2b w β L' ob o':=by
 cases hc with
 | same=>exact h0
 | map=>
  obtain⟨b,h1,ents,h2,h3,h4⟩:=h0
  exact⟨b,h1,ents,h2,h3,fun i e k u he hu=>⟨(h4 i e k u he hu).1,(h4 i e k u he hu).2.1.mono fun b i hs=>⟨hd.stab hs,rfl⟩,(h4 i e k u he hu).2.2⟩⟩
 | vec=>
  obtain⟨h00,h0⟩:=h0
  refine⟨h00,?_⟩
  rcases h0 with h0 | ⟨b,h1,vs,h2,h3,h4⟩
  ·exact .inl h0
  ·exact .inr ⟨b,h1,vs,h2,h3,fun j u v hu hv=>(h4 j u v hu hv).mono fun b i hs=>⟨hd.stab hs,rfl⟩⟩
 | iter hm=>
  obtain⟨b,h1,bm,t,es,h2,h3,h4⟩:=h0
  obtain⟨o',ho'⟩:=Option.isSome_iff_exists.1 hm
  obtain⟨o2,ho2,hl⟩:=hd.like _ o' ho'
  rw [h2] at ho2; cases ho2
  cases o' <;> simp [Hk.like] at hl
  subst hl
  exact⟨b,h1,bm,_,_,ho',h3,h4⟩
 | box hl hc=>
  obtain⟨b,h1,vs,h2,h3,h4⟩:=h0
  refine⟨b,h1,vs,h2,h3.trans hl,fun j u' v hu' hv=>?_⟩
  rename_i cs cs'
  have hj:j < cs.length:=by
   rcases Nat.lt_or_ge j cs'.length with h | h
   ·omega
   ·simp [List.getElem?_eq_none h] at hu'
  exact(h4 j cs[j] v (by simp [hj]) hv).conv hd (hc j _ _ (by simp [hj]) hu')

def RenF (i j:Nat) (ok:Nat→Bool) (l:Fr):Fr→Prop
 | []=>True
 | (s,u)::r=>((look l s=.mp j∧u=.mp i)∨(look l s=u∧u.refs ok=true))∧RenF i j ok l r
theorem RenF.get {i j:Nat} {ok:Nat→Bool} {l:Fr}:∀ {l':Fr},RenF i j ok l l'→∀ t,look l' t=.junk∨(look l t=.mp j∧look l' t=.mp i)∨(look l t=look l' t∧(look l' t).refs ok=true)
 | [],_,t=>.inl (by simp [look])
 | (s,u)::r,h,t=>by
  by_cases e:s=t
  ·subst e
   have e1:look ((s,u)::r) s=u:=by simp [look]
   rw [e1]; exact .inr h.1
  ·have hb:Nat.beq s t=false:=by
    cases hb:Nat.beq s t with
    | false=>rfl
    | true=>exact absurd (Nat.eq_of_beq_eq_true hb) e
   have e1:look ((s,u)::r) t=look r t:=by simp [look,hb]
   rw [e1]; exact RenF.get h.2 t

end Go.Proofs.YtapmanciffiibaaGreat
