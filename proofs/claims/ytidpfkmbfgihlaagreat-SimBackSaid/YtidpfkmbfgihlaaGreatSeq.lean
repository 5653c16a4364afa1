/-
 Iterators: places where ways meet,steps that are guarded,and calls of yield that are. Fresh results that bear a slice which may be written in place: literals into such a slice,and giving it away out of a variable's cell. A slice of the call's own that was written in place becomes one that is only appended to: its cells are fixed from then on. Iterators over a map's keys,whose order is not known: their contract,calls whose result is one of several,ranges over such iterators.
-/
import Derived.Test.YtidpfkmbfgihlaaGreatRangeF
import Derived.Test.YtidpfkmbfgihlaaGreatLnv
import Derived.Test.YtidpfkmbfgihlaaGreatPsm
set_option linter.unusedSimpArgs false
namespace Go.Proofs.YtidpfkmbfgihlaaGreat
open Go.RowKit

section code
variable {κ:Type} {E:H8e κ} {P:Program} {N:Cfg} {Q:H00 κ} {l:Fr} {L:Loc} {k:κ}
end code

section ops
variable {κ:Type} {E:H8e κ} {P:Program} {N:Cfg} {ops:Array Oper} {o:Oper} {rest:List Oper} {Q:H00 κ} {l:Fr} {L L':Loc} {u:AV} {k:κ}
end ops

/-! ### A slice of one's own that is begun anew -/
section mem
variable {P:Program} {o:Oper} {l:Fr} {L:Loc}
end mem
end Go.Proofs.YtidpfkmbfgihlaaGreat
namespace Go.Proofs.YtidpfkmbfgihlaaGreat
open Go.RowKit

section lits
variable {P:Program} {o:Oper} {l:Fr} {L:Loc}
end lits

theorem Ri.vgiveB {N:Cfg} {l:Fr} {L:Loc} {w0 w:World} {β0 β:H4} {L0:Loc} {a:Act} (hs:Ri N w0 β0 L0 a w β l L) {i ver k n t t2 bx j:Nat} {cs:List AV} {xs:List AV} (ver1:Nat) (hbx:lk L bx=some (.box t2 cs)) (hj:cs[j]? = some (.vec i ver k n)) (hi:lk L i=some (.vec t k ver xs)) (hver:ver < ver1) :
  ∃ β',Ri N w0 β0 L0 a w β' l ((bx,.box t2 (cs.set j (.list k xs)))::(i,.vec t k ver1 [])::L):=by
 have hne:i≠bx:=fun e=>by subst e; rw [hi] at hbx; cases hbx
 have hjl:j < cs.length:=(List.getElem?_eq_some_iff.1 hj).1
 obtain⟨b,hb,vs,hv1,hv2,hv3⟩:=hs.sat.obj bx _ hbx
 have hvj:j < vs.size:=by omega
 have hv:=hv3 j _ vs[j] hj (by simp [hvj])
 obtain⟨rfl,hk,h⟩:=G5b hs.sat hi hv
 obtain⟨st,sat⟩:=Ru (w':=w) (t:=t) (k:=k) (ver1:=ver1) (xs':=[]) (ob':=none) hs.sat (.inr ⟨ver,xs,hi,by omega,fun e=>by omega⟩) rfl rfl ⟨rfl,Nat.le_refl _⟩ (Nat.le_refl _) (fun _ _ _=>rfl) (.inl rfl)
 have sat':=sat ⟨by simp,.inl ⟨rfl,rfl⟩⟩
 have hs1:Ri N w0 β0 L0 a w (upP β i none) l ((i,.vec t k ver1 [])::L):=⟨sat',hs.step.trans st,hs.frame.step st,hs.size,hs.base,hs.defers.step st⟩
 have hb0:β.at_ bx=some b:=hb
 refine⟨_,hs1.redescribeB (i:=bx) (t:=t2) (cs:=cs) (by rw [Gh,if_neg hne]; exact hbx) (by simp) fun vs' q u v hrow' hall hsz hu hv'=>?_⟩
 by_cases e:j=q
 ·subst e
  rw [List.getElem?_set_self hjl] at hu
  cases hu
  obtain⟨b',hb',hr'⟩:=hrow'
  have hb':(upP β i none).at_ bx=some b':=hb'
  have hup:(upP β i none).at_ bx=β.at_ bx:=by simp [upP,Ne.symm hne]
  rw [hup,hb0] at hb'
  cases hb'
  rw [hv1] at hr'
  cases hr'
  have hvv:v=vs[j]:=by rw [Array.getElem?_eq_getElem hvj] at hv'; exact(Option.some.inj hv').symm
  subst hvv
  rcases h with ⟨e,rfl,_⟩ | ⟨b2,cap,vs2,e,hb2,h1,h2,h3,h4,h5⟩
  ·rw [e]; exact .data (.nil (Nat.zero_le _))
  ·rw [e]
   have hlt:∀ q,q < (flat xs).length→q < vs2.size:=fun q hq=>by
    rw [J1 hk] at hq
    have:=Nat.mul_le_mul_right k h1
    omega
   refine .data (.list (fun q=>vs2.getD q undef) h1 h2 hk (fun q hq=>⟨⟨(Array.getElem?_eq_some_iff.1 h3).1,hs.sat.apart i b2 _ (by rw [hi]; rfl) hb2,fun id o ho hbd=>?_⟩,?_⟩) (fun q u hu=>?_))
   ·rw [Gh] at ho
    by_cases e:i=id
    ·subst e; simp [upP] at hbd
    ·rw [if_neg e] at ho
     have hbd':β.at_ id=some b2:=by simpa [upP,Ne.symm e] using hbd
     exact absurd (hs.sat.inj i id b2 (by rw [hi]; rfl) (by rw [ho]; rfl) hb2 hbd') e
   ·have:=hlt q hq
    simp [World.cell?,h3,this]
   ·have hq:=(List.getElem?_eq_some_iff.1 hu).1
    have:=hlt q hq
    refine(h5 q u _ hu ?_).mono st.stab
    simp [this]
 ·rw [List.getElem?_set_ne e] at hu
  exact hall q u v hu hv'
theorem R09 {P:Program} {N:Cfg} {c:Code} {Q:Post} {l:Fr} {L:Loc} (bx j ver1:Nat) {i ver k n t t2:Nat} {cs cs':List AV} {xs:List AV} (hbx:lk L bx=some (.box t2 cs)) (hj:cs[j]? = some (.vec i ver k n)) (hi:lk L i=some (.vec t k ver xs)) (hver:ver < ver1) (hcs:cs.set j (.list k xs)=cs')
  (hk:JC P N c Q l ((bx,.box t2 cs')::(i,.vec t k ver1 [])::L)):JC P N c Q l L:=fun n w0 β0 L0 a w β hs=>by
 subst hcs
 obtain⟨β',h⟩:=hs.vgiveB ver1 hbx hj hi hver
 exact hk n w0 β0 L0 a w β' h
end Go.Proofs.YtidpfkmbfgihlaaGreat
namespace Go.Proofs.YtidpfkmbfgihlaaGreat
open Go.RowKit

theorem Ri.vown {N:Cfg} {l:Fr} {L:Loc} {w0 w:World} {β0 β:H4} {L0:Loc} {a:Act} (hs:Ri N w0 β0 L0 a w β l L) (ver1:Nat) {s i i' ver k n t:Nat} {xs:List AV} (hsl:look l s=.vec i ver k n) (hi:lk L i=some (.vec t k ver xs)) (hi':lk L i'=none) :
  ∃ β',Ri N w0 β0 L0 a w β' ((s,.own i' ver1 k xs)::l) ((i',.spare t k ver1 xs.length)::(i,.vec t k (ver+1) [])::L):=by
 have hne:i'≠i:=fun e=>by subst e; rw [hi] at hi'; cases hi'
 let β':H4:=upP (upP β i none) i' (β.at_ i)
 let L':Loc:=(i',.spare t k ver1 xs.length)::(i,.vec t k (ver+1) [])::L
 have a1:β'.at_ i'=β.at_ i:=by simp [β',upP]
 have a2:β'.at_ i=none:=by simp [β',upP,Ne.symm hne]
 have a3:∀ id,id≠i'→id≠i→β'.at_ id=β.at_ id:=fun id h1 h2=>by simp [β',upP,h1,h2]
 have k1:lk L' i'=some (.spare t k ver1 xs.length):=by show lk (_::_) i'=_; rw [Gh,if_pos rfl]
 have k2:lk L' i=some (.vec t k (ver+1) []):=by show lk (_::_) i=_; rw [Gh,if_neg hne,Gh,if_pos rfl]
 have k3:∀ id,id≠i'→id≠i→lk L' id=lk L id:=fun id h1 h2=>by show lk (_::_) id=_; rw [Gh,if_neg (Ne.symm h1),Gh,if_neg (Ne.symm h2)]
 have old:∀ id b,(lk L' id).isSome=true→β'.at_ id=some b→(id=i'∧β.at_ i=some b)∨(id≠i'∧id≠i∧(lk L id).isSome=true∧β.at_ id=some b):=fun id b h1 h2=>by
  by_cases e1:id=i'
  ·subst e1; exact .inl ⟨rfl,a1.symm.trans h2⟩
  ·by_cases e2:id=i
   ·subst e2; rw [a2] at h2; cases h2
   ·exact .inr ⟨e1,e2,by rw [← k3 id e1 e2]; exact h1,(a3 id e1 e2).symm.trans h2⟩
 have hiS:(lk L i).isSome=true:=by rw [hi]; rfl
 have ne':∀ id o,lk L id=some o→id≠i':=fun id o h e=>by subst e; rw [hi'] at h; cases h
 have st:Step w β L w β' L':=by
  refine⟨rfl,rfl,⟨rfl,Nat.le_refl _⟩,Nat.le_refl _,fun _ _ _=>Iff.rfl,fun b j h=>⟨⟨h.lt,h.seen,fun id o ho hb=>?_⟩,rfl⟩,fun b hb hf=>⟨rfl,fun id hid hbd=>?_⟩,fun id t cs h=>?_,fun id t cs h=>?_,fun id t n cs h=>?_,fun id t' k' ver' xs' h=>?_,fun id t' k' ver' hw h=>?_⟩
  ·rcases old id b (by rw [ho]; rfl) hb with ⟨_,h2⟩ | ⟨h1,h2,h3,h4⟩
   ·exact(h.kept i _ hi h2).elim
   ·rw [k3 id h1 h2] at ho
    exact h.kept id o ho h4
  ·rcases old id b hid hbd with ⟨_,h2⟩ | ⟨_,_,h3,h4⟩
   ·exact hf i hiS h2
   ·exact hf id h3 h4
  ·have h2:id≠i:=fun e=>by subst e; rw [hi] at h; cases h
   exact⟨a3 id (ne' id _ h) h2,cs,(k3 id (ne' id _ h) h2).trans h⟩
  ·have h2:id≠i:=fun e=>by subst e; rw [hi] at h; cases h
   exact⟨a3 id (ne' id _ h) h2,cs,(k3 id (ne' id _ h) h2).trans h⟩
  ·have h2:id≠i:=fun e=>by subst e; rw [hi] at h; cases h
   exact⟨a3 id (ne' id _ h) h2,n,cs,(k3 id (ne' id _ h) h2).trans h⟩
  ·by_cases h2:id=i
   ·subst h2
    rw [hi] at h; cases h
    exact⟨ver+1,[],k2,by omega,fun e=>by omega⟩
   ·exact⟨ver',xs',(k3 id (ne' id _ h) h2).trans h,Nat.le_refl _,fun _=>⟨rfl,a3 id (ne' id _ h) h2,fun _ _=>rfl⟩⟩
  ·have h2:id≠i:=fun e=>by subst e; rw [hi] at h; cases h
   exact⟨ver',hw,(k3 id (ne' id _ h) h2).trans h,Nat.le_refl _,fun _=>⟨rfl,a3 id (ne' id _ h) h2,fun _ _=>rfl⟩⟩
 have hobj:=hs.sat.obj i _ hi
 have sat:Sat w β' L':=by
  refine⟨hs.sat.hid,fun id b h hb=>?_,fun id b q h hb=>?_,fun id id' b h h' hb hb'=>?_,fun id o ho=>?_⟩
  ·rcases old id b h hb with ⟨_,h2⟩ | ⟨_,_,h3,h4⟩
   ·exact hs.sat.bnd i b hiS h2
   ·exact hs.sat.bnd id b h3 h4
  ·rcases old id b h hb with ⟨_,h2⟩ | ⟨_,_,h3,h4⟩
   ·exact hs.sat.apart i b q hiS h2
   ·exact hs.sat.apart id b q h3 h4
  ·rcases old id b h hb with ⟨e1,h2⟩ | ⟨e1,e2,h3,h4⟩ <;> rcases old id' b h' hb' with ⟨e1',h2'⟩ | ⟨e1',e2',h3',h4'⟩
   ·rw [e1,e1']
   ·exact(e2' (hs.sat.inj id' i b h3' hiS h4' h2)).elim
   ·exact(e2 (hs.sat.inj id i b h3 hiS h4 h2')).elim
   ·exact hs.sat.inj id id' b h3 h3' h4 h4'
  ·by_cases e1:id=i'
   ·subst e1
    rw [k1] at ho; cases ho
    rw [a1]
    rcases hobj.2 with ⟨h1,h2⟩ | ⟨b,h1,vs,h2,h3,_⟩
    ·exact .inl ⟨h1,by rw [h2]; rfl⟩
    ·exact .inr ⟨b,h1,vs,h2,h3⟩
   ·by_cases e2:id=i
    ·subst e2
     rw [k2] at ho; cases ho
     rw [a2]
     exact⟨by simp,.inl ⟨rfl,rfl⟩⟩
    ·rw [k3 id e1 e2] at ho
     rw [a3 id e1 e2]
     exact(hs.sat.obj id o ho).step st (fun _ _=>rfl)
 refine⟨β',sat,hs.step.trans st,⟨fun t'=>?_⟩,hs.size,hs.base,hs.defers.step st⟩
 simp only [look]
 cases hb:Nat.beq s t' with
 | false=>exact(hs.frame.tmp t').step st
 | true=>
  have:=Nat.eq_of_beq_eq_true hb
  subst this
  have hv:=hs.frame.tmp s
  rw [hsl] at hv
  simp only [cond_true]
  obtain⟨rfl,hk,h⟩:=G5b hs.sat hi hv
  have hfl:=J1 hk
  rcases h with ⟨e,rfl,hn⟩ | ⟨b,cap,vs,e,hbb,h1,h2,h3,h4,h5⟩
  ·rw [e]
   refine .own (.nil (Nat.zero_le _)) ⟨t,ver1,0,k1,Nat.le_refl _,fun _=>⟨rfl,?_,[],⟨by simp,.inl ⟨rfl,rfl⟩⟩,fun j u hu=>by simp [flat] at hu⟩⟩
   rw [a1,hn]; rfl
  ·rw [e]
   have hlt:∀ q,q < (flat xs).length→q < vs.size:=fun q hq=>by
    rw [hfl] at hq
    have:=Nat.mul_le_mul_right k h1
    omega
   have hval:∀ (q:Nat) u,(flat xs)[q]? = some u→D w (Jt w β' L') u (vs.getD q undef):=fun q u hu=>by
    have hq:=(List.getElem?_eq_some_iff.1 hu).1
    have:=hlt q hq
    exact(h5 q u _ hu (by simp [this])).mono st.stab
   refine .own (.list (fun q=>vs.getD q undef) h1 h2 hk (fun q hq=>⟨⟨(Array.getElem?_eq_some_iff.1 h3).1,hs.sat.apart i b _ hiS hbb,fun id o ho hbd=>?_⟩,?_⟩) hval) ⟨t,ver1,xs.length,k1,Nat.le_refl _,fun _=>⟨rfl,?_,vs.toList.take (xs.length*k),⟨?_,.inr ⟨b,cap,vs,rfl,Nat.zero_le _,h3,h1,h2,h4,rfl⟩⟩,fun q u hu=>?_⟩⟩
   ·rcases old id b (by rw [ho]; rfl) hbd with ⟨e1,_⟩ | ⟨_,e2,g3,g4⟩
    ·subst e1
     rw [k1] at ho; cases ho
     show 0+q < xs.length*k
     omega
    ·exact(e2 (hs.sat.inj id i b g3 hiS g4 hbb)).elim
   ·have:=hlt q hq
    simp [World.cell?,h3,this]
   ·rw [a1,hbb]; rfl
   ·have:=Nat.mul_le_mul_right k h1
    simp only [List.length_take,Array.length_toList]
    omega
   ·have hq:=(List.getElem?_eq_some_iff.1 hu).1
    have:=hlt q hq
    refine⟨vs.getD q undef,?_,hval q u hu⟩
    rw [hfl] at hq
    rw [List.getElem?_take,if_pos hq]
    simp [this]
end Go.Proofs.YtidpfkmbfgihlaaGreat
namespace Go.Proofs.YtidpfkmbfgihlaaGreat
open Go.RowKit

def Gda {κ:Type} (f:κ→List AV) (l:List (Option κ)):List Nat→List AV→List Nat→Prop:=fun seen us seen'=>∃ q a,l[q]? = some (some a)∧q ∉ seen∧us=f a∧seen'=seen++[q]
def G4d {κ:Type} (l:List (Option κ)):List Nat→Prop:=fun seen=>∀ q a,l[q]? = some (some a)→q∈seen
def Gt.keys {κ ν:Type} (m:Gt κ ν):List (Option κ):=m.l.map (Option.map Prod.fst)
theorem Ycf {κ ν:Type} {m:Gt κ ν} {q:Nat} {e:κ×ν} (h:m.l[q]? = some (some e)):(Gt.keys m)[q]? = some (some e.1):=by
 rw [Gt.keys,List.getElem?_map,h]; rfl
theorem R24 {κ ν:Type} {f:κ→List AV} {m:Gt κ ν} {seen:List Nat} {q:Nat} {e:κ×ν} (h:m.l[q]? = some (some e)) (hs:q ∉ seen):Gda f (Gt.keys m) seen (f e.1) (seen++[q]):=⟨q,e.1,Ycf h,hs,rfl,rfl⟩
theorem Q8b {κ ν:Type} {m:Gt κ ν} {seen:List Nat} (h:∀ q e,m.l[q]? = some (some e)→q∈seen):G4d (Gt.keys m) seen:=fun q a hq=>by
 rw [Gt.keys,List.getElem?_map] at hq
 cases ho:m.l[q]? with
 | none=>rw [ho] at hq; cases hq
 | some o=>
  cases o with
  | none=>rw [ho] at hq; cases hq
  | some e=>exact h q e ho
theorem Hb6 {κ ν:Type} [DecidableEq κ] (m:Gt κ ν):(Gt.keys m).filterMap id=(Gt.He m).map Prod.fst:=by
 unfold Gt.keys Gt.He
 induction m.l with
 | nil=>rfl
 | cons o r ih=>cases o <;> simp [ih]

section ops
variable {κ:Type} {E:H8e κ} {P:Program} {N:Cfg} {ops:Array Oper} {o:Oper} {rest:List Oper} {Q:H00 κ} {l:Fr} {L:Loc} {k:κ} {R:AV→Loc→Prop}
theorem Qb9 {d:Nat} (hE:E.Ok P) (hg:o.guard=none) (hd:o.dst=some d) (hn:Nat.blt d N.n=true) (h:H0 P o l L R)
  (hk:∀ u L',R u L'→JIL E P N ops rest Q ((d,u)::l) L' k) (hnd:G4c o=true:=by rfl):JIL E P N ops (o::rest) Q l L k:=by
 intro n a w β hs
 refine Gd4 (ro:=none) hg hnd fun K hK=>h a w β K _ hs.sat hs.frame ?_
 intro u L' v w' β' hr hsat hst hv
 have hlt:d < a.tmps.size:=Nat.lt_of_lt_of_le (by simpa [Nat.blt_eq] using hn) hs.size
 rw [hd]
 exact hK _ _ (hk u L' hr n _ w' β' (hs.step hE hst hsat ((hs.frame.step hst).put hlt hv) (Act.put_size ..) (Act.put_defers' ..)))
end ops

section calls
variable {P:Program} {o:Oper} {l:Fr} {L:Loc} {ρ:Type} {Rp:ρ→Prop}
theorem Ra0 {f:FuncId} {xs:List Operand} {args:List AV} {ts:Array TypeId} {g:ρ→AV} (ho:o.op=.call { callee:=.value (.func f),args:=xs.toArray,argTypes:=ts }) (hc:Pure P f args (fun av=>∃ r,Rp r∧av=g r)) (hB:H7 P f=true) (ha:G66 l xs args):H0 P o l L (fun u L'=>∃ r,Rp r∧u=g r∧L'=L):=
 fun a w β K Q hsat hf hK=>Yb7 hc hB ha ho a w β K Q hsat hf (fun u L' v w' β' hr hs' hst hv=>hK u L' v w' β' (by obtain⟨e,r,hp,e2⟩:=hr; exact⟨r,hp,e2,e⟩) hs' hst hv)
theorem Jec {f:FuncId} {xs:List Operand} {args:List AV} {ts:Array TypeId} {u:Nat→ρ→AV} {Lr:Nat→ρ→Loc} (ho:o.op=.call { callee:=.value (.func f),args:=xs.toArray,argTypes:=ts }) (hc:Jg P f args [] (fun av L'=>∃ p:Nat,∃ r,Rp r∧av=u p r∧L'=Lr p r)) (hB:H7 P f=true) (ha:J05 l [] xs args)
  (hnew:∀ p r,H45 L [] (Lr p r)=true):H0 P o l L (fun u' L''=>∃ p r,Rp r∧u'=u p r∧L''=Lr p r++Hb2 L []):=by
 have hc2:Jg P f args [] (fun av L'=>∃ q:Nat×{r:ρ // Rp r},av=u q.1 q.2.1∧L'=Lr q.1 q.2.1):=hc.mono (fun av L' h=>by
  obtain⟨p,r,hp,e1,e2⟩:=h
  exact⟨(p,⟨r,hp⟩),e1,e2⟩)
 have h:=Qc5 (L:=L) ho hc2 hB ha trivial rfl (fun q=>hnew q.1 q.2.1)
 exact fun a w β K Q hsat hf hK=>h a w β K Q hsat hf (fun u' L' v w' β' hr hs' hst hv=>hK u' L' v w' β' (by obtain⟨q,e1,e2⟩:=hr; exact⟨q.1,q.2.1,q.2.2,e1,e2⟩) hs' hst hv)
end calls
theorem Jg.toOwn {P:Program} {f:FuncId} {args:List AV} {α:Type} {i E k n:Nat} {g:α→AV} {r:List α} (i':Nat) (hne:Nat.beq i i'=false) (h:Jg P f args [] (fun av L'=>∃ p:Nat,av=.vec i p k n∧L'=[(i,.vec E k p (r.map g))])) :
  Jg P f args [] (fun av L'=>av=OW i' k g r∧L'=[(i',.spare E k r.length r.length)]):=fun w β vs a b c=>(h w β vs a b c).mono fun e w' hh=>by
 obtain⟨v,r',β',L',rfl,h2,h3,h4,p,rfl,rfl⟩:=hh
 have hii:i≠i':=fun e=>by subst e; simp at hne
 have hs:Ri ⟨1,[],none⟩ w β [] { tmps:=#[v],defers:=[] } w' β' [(0,.vec i p k n)] [(i,.vec E k p (r.map g))]:=by
  refine⟨h2,h3,⟨fun t=>?_⟩,Nat.le_refl _,fun id hid=>by simp [lk] at hid,.nil⟩
  cases t with
  | zero=>exact h4
  | succ t=>exact V.junk
 obtain⟨β2,hs2⟩:=hs.vown (s:=0) (i:=i) (i':=i') r.length rfl (by rw [Gh,if_pos rfl]) (by rw [Gh,if_neg hii]; rfl)
 have hin:(lk [(i',Jh.spare E k r.length r.length)] i').isSome=true:=by rw [Gh,if_pos rfl]; rfl
 have e1:lk ((i',Jh.spare E k r.length (r.map g).length)::(i,.vec E k (p+1) [])::[(i,.vec E k p (r.map g))]) i'=some (.spare E k r.length (r.map g).length):=by rw [Gh,if_pos rfl]
 have hf:Fits [] ((0,.own i' r.length k (r.map g))::[(0,.vec i p k n)]) ((i',Jh.spare E k r.length (r.map g).length)::(i,.vec E k (p+1) [])::[(i,.vec E k p (r.map g))]) [(0,.own i' r.length k (r.map g))] [(i',.spare E k r.length r.length)]:=by
  refine⟨⟨Conv.same (u:=.own i' r.length k (r.map g)) hin,trivial⟩,⟨⟨_,e1,by rw [List.length_map]; exact .same⟩,trivial⟩,rfl⟩
 have hs3:=hs2.fits (N:=⟨1,[],none⟩) hf
 exact⟨v,_,β2,_,rfl,hs3.sat,hs3.step,hs3.frame.tmp 0,rfl,rfl⟩
section calls
variable {P:Program} {o:Oper} {l:Fr} {L:Loc}
end calls
def BG {α:Type} (k:Nat) (g:α→AV) (xs:List α):AV:=.bag k (xs.map g)
theorem Y82 {α β:Type} {g:α→β} {ys:List β}:∀ {xs:List α},ys.Perm (xs.map g)→∃ zs:List α,zs.Perm xs∧ys=zs.map g:=by
 have key:∀ (as bs:List β),as.Perm bs→∀ xs:List α,bs=xs.map g→∃ zs:List α,zs.Perm xs∧as=zs.map g:=by
  intro as bs h
  induction h with
  | nil=>intro xs e; exact⟨[],by have:xs=[]:=List.map_eq_nil_iff.1 e.symm; rw [this],rfl⟩
  | cons a _ ih=>
   intro xs e
   cases xs with
   | nil=>cases e
   | cons x xs=>
    rw [List.map_cons] at e
    injection e with e1 e2
    obtain⟨zs,h1,h2⟩:=ih xs e2
    exact⟨x::zs,h1.cons x,by rw [List.map_cons,← e1,h2]⟩
  | swap a b l=>
   intro xs e
   cases xs with
   | nil=>cases e
   | cons x xs=>
    cases xs with
    | nil=>simp at e
    | cons y xs=>
     simp only [List.map_cons,List.cons.injEq] at e
     exact⟨y::x::xs,List.Perm.swap x y xs,by simp [e.1,e.2.1,e.2.2]⟩
  | trans _ _ ih1 ih2=>
   intro xs e
   obtain⟨zs,h1,h2⟩:=ih2 xs e
   obtain⟨ws,h3,h4⟩:=ih1 zs h2
   exact⟨ws,h3.trans h1,h4⟩
 exact fun {xs} h=>key _ _ h xs rfl
theorem Pure.toBag {P:Program} {f:FuncId} {args:List AV} {α:Type} {k:Nat} {g:α→AV} {xs:List α} (h:Pure P f args (fun av=>∃ r:List α,r.Perm xs∧av=LS k g r)):Pure P f args (·=BG k g xs):=fun w β vs a b c=>(h w β vs a b c).mono fun e w' hh=>by
 obtain⟨v,r,β',L',h1,h2,h3,h4,h5,q,hq,rfl⟩:=hh
 subst h5
 exact⟨v,_,β',[],h1,h2,h3,.data (.bag (hq.map g) h4.data_of_nil),rfl,rfl⟩
theorem Pure.ofBag {P:Program} {f:FuncId} {pre:List AV} {u:AV} {α:Type} {k:Nat} {g:α→AV} {xs:List α} (h:∀ zs:List α,zs.Perm xs→Pure P f (pre++[LS k g zs]) (·=u)):Pure P f (pre++[BG k g xs]) (·=u):=fun w β vs a b c=>by
 have hb:vs.size=pre.length+1:=by simpa using b
 have hv:=(c pre.length (BG k g xs) (vs[pre.length]'(by omega)) (by simp) (by simp [hb])).data_of_nil
 obtain⟨zs,hz,hd⟩:∃ zs:List α,zs.Perm xs∧D w (Jt w β []) (LS k g zs) (vs[pre.length]'(by omega)):=by
  generalize vs[pre.length]'(by omega)=v at hv
  unfold BG at hv
  cases hv with
  | bag hp hd=>
   obtain⟨zs,h1,rfl⟩:=Y82 hp
   exact⟨zs,h1,hd⟩
 refine h zs hz w β vs a (by simpa using b) fun j x v hx hv=>?_
 rcases Nat.lt_or_ge j pre.length with hj | hj
 ·rw [List.getElem?_append_left hj] at hx
  exact c j x v (by rw [List.getElem?_append_left hj]; exact hx) hv
 ·rw [List.getElem?_append_right hj] at hx
  have:j=pre.length:=by
   have:=(List.getElem?_eq_some_iff.1 hx).1
   simp at this; omega
  subst this
  simp at hx
  subst hx
  have e:=(Array.getElem?_eq_some_iff.1 hv).2
  rw [← e]
  exact .data hd
abbrev ndM {α:Type} (m:(α→Prop)→Option Prop) (k:α→Option Prop):Option Prop:=m (fun r=>∃ p,k r=some p∧p)
end Go.Proofs.YtidpfkmbfgihlaaGreat
