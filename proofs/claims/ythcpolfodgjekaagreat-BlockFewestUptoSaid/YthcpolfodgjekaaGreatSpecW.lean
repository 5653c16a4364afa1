/-
 What slices.Insert and slices.Delete do to a slice of the call's own: its capacity,parts beyond its length,growing by an append to a part,giving it away. What a model returns, step by step: 'Wp m Q': the model m returns something of which Q holds. What stow.without and stow.with return: a list without an element,and with one more; of slices.Clone,slices.Delete and slices.Insert.
-/
import Derived.Test.YthcpolfodgjekaaGreatLent
import Derived.Lib.Overlaps
import Derived.Lib.AppendZerosOnto
import Derived.Test.YthcpolfodgjekaaGreatXC
namespace Go.Proofs.YthcpolfodgjekaaGreat
open Go.RowKit

theorem H59 {P:Program} {T E k:Nat} (hT:sliceB P T E k=true) (a:Option Addr) (len cap m n:Nat) (lo hi:Option Value) (w:World) (hmn:m≤n) (hn:n≤cap)
  (hlo:(lo=none∧m=0)∨∃ kd,lo=some (.int kd m)) (hhi:(hi=none∧n=len)∨∃ kd,hi=some (.int kd n)) :
  (Instr.sliceAt T (.slice a len cap) lo hi none).run P w=.ok (.slice (if cap=m then a else a.map (·.add (m*k))) (n - m) (cap - m)) w:=by
 obtain⟨h1,h2⟩:=sliceB.out hT
 have h3:=Qw h2 w
 have hb:∀ (kd:IntKind) (i:Nat) (y:Nat) (c:BoundsCode),i≤y→(Instr.sliceBound (.int kd (i:Int)) y c).run P w=.ok i w:=fun kd i y c hi=>by
  have:(0:Int)≤i∧(i:Int)≤y:=⟨by omega,by omega⟩
  simp [Instr.sliceBound,asIntOf,this]
 have hs:(Instr.sliceBounds true len cap lo hi none).run P w=.ok (m,n,cap) w:=by
  rcases hlo with ⟨rfl,rfl⟩ | ⟨kd,rfl⟩ <;> rcases hhi with ⟨rfl,rfl⟩ | ⟨kd',rfl⟩
  ·simp [Instr.sliceBounds]
  ·simp [Instr.sliceBounds,hb _ n cap _ (by omega)]
  ·simp [Instr.sliceBounds,hb _ m n _ hmn]
  ·simp [Instr.sliceBounds,hb _ m n _ hmn,hb _ n cap _ (by omega)]
 simp [Instr.sliceAt,Instr.slice,run_underlying h1,hs,h3]
theorem V.inv_vcap {w:World} {β:Hd} {L:Loc} {i ver k k' n c t:Nat} {xs:List AV} {x:Value} (hi:lk L i=some (.vec t k' ver xs)) (h:V w β L (.vcap i ver k n c) x):Q69 w (β.at_ i) t k n c x:=by
 cases h with
 | data h=>cases h
 | vcap hp _=>
  obtain⟨t',ver',xs',h1,_,h3⟩:=hp
  rw [hi] at h1; cases h1
  exact h3 rfl
theorem Q69.one {w:World} {ob:Option Nat} {t k n c:Nat} {v:Value} (h:Q69 w ob t k n c v):v.oneCell'=true:=by
 rcases h with ⟨rfl,_⟩ | ⟨b,rfl,_⟩ <;> rfl

section state
variable {N:Cfg} {l:Fr} {L:Loc} {w0 w:World} {β0 β:Hd} {L0:Loc} {a:Act}
theorem Qe.over {s:Nat} {u:AV} (h:Qe a w β L l) (hv:V w β L u (a.tmps.getD s undef)):Qe a w β L ((s,u)::l):=⟨fun t=>by
 rw [look]
 cases hb:Nat.beq s t with
 | true=>have:=Nat.eq_of_beq_eq_true hb; subst this; exact hv
 | false=>exact h.tmp t⟩
theorem Ys.vcap (hs:Ys N w0 β0 L0 a w β l L) {s i ver k n t:Nat} {xs:List AV} (h1:look l s=.vec i ver k n) (hi:lk L i=some (.vec t k ver xs)):∃ c,xs.length≤c∧c≤maxLen∧Ys N w0 β0 L0 a w β ((s,.vcap i ver k xs.length c)::l) L:=by
 have hv:=hs.frame.tmp s
 rw [h1] at hv
 obtain⟨rfl,_,h⟩:=Ge7 hs.sat hi hv
 suffices hsuf:∃ c,xs.length≤c∧c≤maxLen∧Q69 w (β.at_ i) t k xs.length c (a.tmps.getD s undef) from by
  obtain⟨c,c1,c2,c3⟩:=hsuf
  exact⟨c,c1,c2,hs.sat,hs.step,hs.frame.over (.vcap ⟨t,ver,xs,hi,Kn,fun _=>c3⟩ c3.one),hs.size,hs.base,hs.defers⟩
 rcases h with ⟨e1,rfl,e3⟩ | ⟨b,cap,vs,e1,e2,e3,e4,e5,e6,_⟩
 ·exact⟨0,Kn,Nat.zero_le _,.inl ⟨e1,rfl,rfl,e3⟩⟩
 ·exact⟨cap,e3,e4,.inr ⟨b,e1,e2,e3,e4,by simp [World.shape?,e5,e6]⟩⟩

theorem R93 {k:Nat} (xs:List AV) (q:Nat) {j:Nat} {u:AV} (hj:(flat xs).length≤j) (hu:(flat (xs++List.replicate q (.agg (List.replicate k .junk))))[j]? = some u):u=.junk:=by
 rw [G60,List.getElem?_append_right hj] at hu
 have key:∀ (q:Nat) (j:Nat),(flat (List.replicate q (AV.agg (List.replicate k .junk))))[j]? = some u→u=.junk:=by
  intro q
  induction q with
  | zero=>intro j h; simp [flat] at h
  | succ q ih=>
   intro j h
   rw [List.replicate_succ,flat] at h
   rcases Nat.lt_or_ge j (AV.cells (.agg (List.replicate k .junk))).length with hj | hj
   ·rw [List.getElem?_append_left hj] at h
    exact List.eq_of_mem_replicate (Kk h)
   ·rw [List.getElem?_append_right hj] at h
    exact ih _ h
 exact key q _ hu
theorem Ys.vcapExt (hs:Ys N w0 β0 L0 a w β l L) {s i ver k m c t:Nat} {xs:List AV} (h1:look l s=.vcap i ver k m c) (hi:lk L i=some (.vec t k ver xs)) (hm:xs.length≤m) (hmc:m≤c) (h0:0 < xs.length) :
  ∃ β',Ys N w0 β0 L0 a w β' ((s,.vsl i (ver+1) k 0 m)::l) ((i,.vec t k (ver+1) (xs++List.replicate (m - xs.length) (.agg (List.replicate k .junk))))::L):=by
 have hv:=hs.frame.tmp s
 rw [h1] at hv
 have hc:=hv.inv_vcap hi
 obtain⟨o1,o2⟩:=hs.sat.obj i _ hi
 rcases hc with ⟨_,_,rfl,_⟩ | ⟨b,e1,e2,e3,e4,e5⟩
 ·omega
 ·rcases o2 with ⟨o2,_⟩ | ⟨b',o2,vs,o3,o4,o5⟩
  ·rw [show β i=β.at_ i from rfl,e2] at o2; cases o2
  ·rw [show β i=β.at_ i from rfl,e2] at o2; cases o2
   have hsz:vs.size=c*k:=by simpa [World.shape?,o3] using e5
   have hlen:(xs++List.replicate (m - xs.length) (AV.agg (List.replicate k .junk))).length=m:=by simp; omega
   obtain⟨st,sat⟩:=G07 (w':=w) (t:=t) (k:=k) (ver1:=ver+1) (xs':=xs++List.replicate (m - xs.length) (.agg (List.replicate k .junk))) (ob':=β.at_ i) hs.sat (.inr ⟨ver,xs,hi,by omega,fun e=>by omega⟩) rfl rfl ⟨rfl,Kn⟩ (Kn) (fun _ _ _=>rfl) (.inr (.inl ⟨by rw [inL,hi]; rfl,rfl⟩))
   have hk:∀ y∈xs++List.replicate (m - xs.length) (AV.agg (List.replicate k .junk)),y.cells.length=k:=fun y hy=>by
    rcases Kt.1 hy with h | h
    ·exact o1 y h
    ·rw [List.eq_of_mem_replicate h]; simp [AV.cells]
   have sat':=sat ⟨hk,.inr ⟨b,e2,vs,o3,by rw [hlen,hsz]; exact Nat.mul_le_mul_right _ hmc,fun j u v hu hv=>?_⟩⟩
   ·refine⟨_,sat',hs.step.trans st,(hs.frame.step st).over (.vsl ⟨t,ver+1,_,by rw [Gs,if_pos rfl],Kn,fun _=>⟨by rw [hlen]; omega,⟨_,c,e1,hmc,e4,.inr ⟨b,by simp [upP,e2],by simp⟩⟩,fun _=>.inr ⟨b,c,e1,by simp [upP,e2],hmc,e4,e5⟩⟩⟩ (by rw [e1]; rfl)),hs.size,hs.base,hs.defers.step st⟩
   ·rcases Nat.lt_or_ge j (flat xs).length with hj | hj
    ·rw [G60,List.getElem?_append_left hj] at hu
     exact(o5 j u v hu hv).mono st.stab
    ·rw [R93 xs _ hj hu]; exact .junk
theorem Ys.vcut (hs:Ys N w0 β0 L0 a w β l L) {s i ver k m t:Nat} {xs:List AV} (h1:look l s=.vsl i ver k 0 m) (hi:lk L i=some (.vec t k ver xs)) :
  ∃ β',Ys N w0 β0 L0 a w β' ((s,.vec i (ver+1) k m)::l) ((i,.vec t k (ver+1) (xs.take m))::L):=by
 have hv:=hs.frame.tmp s
 rw [h1] at hv
 have hc:=hv.inv_vsl0 hi
 obtain⟨_,hm,_⟩:=hv.inv_vsl hi
 rw [Nat.zero_add] at hm
 obtain⟨o1,o2⟩:=hs.sat.obj i _ hi
 have hlen:(xs.take m).length=m:=by rw [List.length_take]; omega
 have hk:∀ y∈xs.take m,y.cells.length=k:=fun y hy=>o1 y (List.mem_of_mem_take hy)
 obtain⟨st,sat⟩:=G07 (w':=w) (t:=t) (k:=k) (ver1:=ver+1) (xs':=xs.take m) (ob':=β.at_ i) hs.sat (.inr ⟨ver,xs,hi,by omega,fun e=>by omega⟩) rfl rfl ⟨rfl,Kn⟩ (Kn) (fun _ _ _=>rfl) (.inr (.inl ⟨by rw [inL,hi]; rfl,rfl⟩))
 have hone:(a.tmps.getD s undef).oneCell'=true:=by
  rcases hc with ⟨e,_⟩ | ⟨b,cap,e,_⟩ <;> rw [e] <;> rfl
 have sat':=sat ⟨hk,?_⟩
 ·refine⟨_,sat',hs.step.trans st,(hs.frame.step st).over (.vec ⟨t,ver+1,_,by rw [Gs,if_pos rfl],Kn,fun _=>⟨hlen.symm,?_⟩⟩ hone),hs.size,hs.base,hs.defers.step st⟩
  rcases hc with ⟨e1,e2,e3⟩ | ⟨b,cap,e1,e2,e3,e4,e5⟩
  ·exact .inl ⟨e1,e2,by simpa [upP] using e3⟩
  ·exact .inr ⟨b,cap,e1,by simpa [upP] using e2,e3,e4,e5⟩
 ·rcases o2 with ⟨o2,rfl⟩ | ⟨b',o2,vs,o3,o4,o5⟩
  ·exact .inl ⟨o2,by simp⟩
  ·refine .inr ⟨b',o2,vs,o3,Nat.le_trans (Nat.mul_le_mul_right _ (by rw [hlen]; exact hm)) o4,fun j u v hu hv=>?_⟩
   rw [G85 o1] at hu
   have hj:=(Kh hu).1
   rw [List.length_take] at hj
   rw [List.getElem?_take,if_pos (by omega)] at hu
   exact(o5 j u v hu hv).mono st.stab
theorem Ys.vgive (hs:Ys N w0 β0 L0 a w β l L) {s i ver k n t:Nat} {xs:List AV} (ver1:Nat) (h1:look l s=.vec i ver k n) (hi:lk L i=some (.vec t k ver xs)) (hver:ver < ver1) :
  ∃ β',Ys N w0 β0 L0 a w β' ((s,.list k xs)::l) ((i,.vec t k ver1 [])::L):=by
 have hv:=hs.frame.tmp s
 rw [h1] at hv
 obtain⟨rfl,hk,h⟩:=Ge7 hs.sat hi hv
 obtain⟨st,sat⟩:=G07 (w':=w) (t:=t) (k:=k) (ver1:=ver1) (xs':=[]) (ob':=none) hs.sat (.inr ⟨ver,xs,hi,by omega,fun e=>by omega⟩) rfl rfl ⟨rfl,Kn⟩ (Kn) (fun _ _ _=>rfl) (.inl rfl)
 have sat':=sat ⟨by simp,.inl ⟨rfl,rfl⟩⟩
 refine⟨_,sat',hs.step.trans st,(hs.frame.step st).over ?_,hs.size,hs.base,hs.defers.step st⟩
 rcases h with ⟨e,rfl,_⟩ | ⟨b,cap,vs,e,hb,h1,h2,h3,h4,h5⟩
 ·rw [e]; exact .data (.nil (Nat.zero_le _))
 ·rw [e]
  have hlt:∀ j,j < (flat xs).length→j < vs.size:=fun j hj=>by
   rw [Jm hk] at hj
   have:=Nat.mul_le_mul_right k h1
   omega
  refine .data (.list (fun j=>vs.getD j undef) h1 h2 hk (fun j hj=>⟨⟨(Array.getElem?_eq_some_iff.1 h3).1,hs.sat.apart i b _ (by rw [hi]; rfl) hb,fun id o ho hb'=>?_⟩,?_⟩) (fun j u hu=>?_))
  ·rw [Gs] at ho
   by_cases e:i=id
   ·subst e; simp [upP] at hb'
   ·rw [if_neg e] at ho
    have hb'':β.at_ id=some b:=by simpa [upP,Ne.symm e] using hb'
    exact absurd (hs.sat.inj i id b (by rw [hi]; rfl) (by rw [ho]; rfl) hb hb'') e
  ·have:=hlt j hj
   simp [World.cell?,h3,this]
  ·have hj:=(Kh hu).1
   have:=hlt j hj
   refine(h5 j u _ hu ?_).mono st.stab
   simp [this]
theorem Ys.vdrop (hs:Ys N w0 β0 L0 a w β l L) {i ver k t:Nat} {xs:List AV} (ver1:Nat) (hi:lk L i=some (.vec t k ver xs)) (hver:ver < ver1) :
  ∃ β',Ys N w0 β0 L0 a w β' l ((i,.vec t k ver1 [])::L):=by
 obtain⟨st,sat⟩:=G07 (w':=w) (t:=t) (k:=k) (ver1:=ver1) (xs':=[]) (ob':=none) hs.sat (.inr ⟨ver,xs,hi,by omega,fun e=>by omega⟩) rfl rfl ⟨rfl,Kn⟩ (Kn) (fun _ _ _=>rfl) (.inl rfl)
 exact⟨_,sat ⟨by simp,.inl ⟨rfl,rfl⟩⟩,hs.step.trans st,hs.frame.step st,hs.size,hs.base,hs.defers.step st⟩
end state

section ghosts
variable {P:Program} {N:Cfg} {Q:Post} {l:Fr} {L:Loc} {ops:Array Oper} {rest:List Oper} {c:Code}
theorem Rca (s:Nat) {i ver k n t:Nat} {xs:List AV} (h1:look l s=.vec i ver k n) (hi:lk L i=some (.vec t k ver xs)) (hk:∀ q,xs.length≤q→q≤maxLen→JC P N c Q ((s,.vcap i ver k xs.length q)::l) L):JC P N c Q l L:=
 fun n w0 β0 L0 a w β hs=>by
  obtain⟨q,q1,q2,q3⟩:=hs.vcap h1 hi
  exact hk q q1 q2 n w0 β0 L0 a w β q3
theorem R9b (s:Nat) {i ver k m q t:Nat} {xs:List AV} (h1:look l s=.vcap i ver k m q) (hi:lk L i=some (.vec t k ver xs)) (hm:xs.length≤m) (hmc:m≤q) (h0:0 < xs.length)
  (hk:JL P N ops rest Q ((s,.vsl i (ver+1) k 0 m)::l) ((i,.vec t k (ver+1) (xs++List.replicate (m - xs.length) (.agg (List.replicate k .junk))))::L)):JL P N ops rest Q l L:=
 fun n w0 β0 L0 a w β hs=>by
  obtain⟨β',h⟩:=hs.vcapExt h1 hi hm hmc h0
  exact hk n w0 β0 L0 a w β' h
theorem Jdb (s:Nat) {i ver k m q t:Nat} {xs:List AV} (X:List AV) (hX:xs++List.replicate (m - xs.length) (.agg (List.replicate k .junk))=X) (h1:look l s=.vcap i ver k m q) (hi:lk L i=some (.vec t k ver xs)) (hm:xs.length≤m) (hmc:m≤q) (h0:0 < xs.length)
  (hk:JL P N ops rest Q ((s,.vsl i (ver+1) k 0 m)::l) ((i,.vec t k (ver+1) X)::L)):JL P N ops rest Q l L:=by
 subst hX
 exact R9b s h1 hi hm hmc h0 hk
theorem Rc9 (s:Nat) {i ver k m t:Nat} {xs:List AV} (h1:look l s=.vsl i ver k 0 m) (hi:lk L i=some (.vec t k ver xs)) (hk:JC P N c Q ((s,.vec i (ver+1) k m)::l) ((i,.vec t k (ver+1) (xs.take m))::L)):JC P N c Q l L:=
 fun n w0 β0 L0 a w β hs=>by
  obtain⟨β',h⟩:=hs.vcut h1 hi
  exact hk n w0 β0 L0 a w β' h
theorem Haa (s:Nat) {i ver k m t:Nat} {xs:List AV} (ver1:Nat) (h1:look l s=.vec i ver k m) (hi:lk L i=some (.vec t k ver xs)) (hver:ver < ver1) (hk:JC P N c Q ((s,.list k xs)::l) ((i,.vec t k ver1 [])::L)):JC P N c Q l L:=
 fun n w0 β0 L0 a w β hs=>by
  obtain⟨β',h⟩:=hs.vgive ver1 h1 hi hver
  exact hk n w0 β0 L0 a w β' h
theorem R43 {i ver k t:Nat} {xs:List AV} (ver1:Nat) (hi:lk L i=some (.vec t k ver xs)) (hver:ver < ver1) (hk:JC P N c Q l ((i,.vec t k ver1 [])::L)):JC P N c Q l L:=
 fun n w0 β0 L0 a w β hs=>by
  obtain⟨β',h⟩:=hs.vdrop ver1 hi hver
  exact hk n w0 β0 L0 a w β' h
end ghosts

section ops
variable {P:Program} {N:Cfg} {o:Oper} {l:Fr} {L:Loc} {u:AV}
theorem Qb5 {x:Operand} {T E k i ver n c:Nat} {xs:List AV} (ho:o.op=.call { callee:=.builtin .cap,args:=#[x],argTypes:=#[T] }) (hT:sliceB P T E k=true) (hx:ev l x=.vcap i ver k n c) (hL:lk L i=some (.vec E k ver xs)):H5 P o l L (Is (I64 (c:Int)) L):=
 Hx fun a w β hsat hf=>by
  have hv:=hf.ev x
  rw [hx] at hv
  refine⟨.int .i64 c,?_,.sc⟩
  rcases hv.inv_vcap hL with ⟨e1,_,e2,_⟩ | ⟨b,e1,_⟩
  ·subst e2
   simp [execOp,ho,resolve,invoke,builtin,Builtin.cap_,underlying,(sliceB.out hT).1,e1,goInt]
  ·simp [execOp,ho,resolve,invoke,builtin,Builtin.cap_,underlying,(sliceB.out hT).1,e1,goInt]
theorem J8b {x p:Operand} {T E k i ver n c m:Nat} {kd:IntKind} {z:Int} {xs:List AV} (ho:o.op=.slice T x none (some p) none) (hT:sliceB P T E k=true) (hx:ev l x=.vcap i ver k n c) (hL:lk L i=some (.vec E k ver xs)) (hp:ev l p=.sc (.int kd z)) (hz:z=(m:Int)) (hm:m≤c) :
  H5 P o l L (Is (.vcap i ver k m c) L):=
 Hx fun a w β hsat hf=>by
  subst hz
  have hv:=hf.ev x
  rw [hx] at hv
  have v1:=hf.ev p; rw [hp] at v1
  rcases hv.inv_vcap hL with ⟨e1,e2,e3,e4⟩ | ⟨b,e1,e2,e3,e4,e5⟩
  ·have:m=0:=by omega
   subst this
   refine⟨.slice none 0 0,?_,.vcap ⟨E,ver,xs,hL,Kn,fun _=>.inl ⟨rfl,rfl,e3,e4⟩⟩ rfl⟩
   simp only [execOp,ho,e1,Sem.run_bind,Option.map_none,Option.map_some,v1.inv_sc]
   rw [H59 hT none 0 0 0 0 _ _ w (Kn) (Kn) (.inl ⟨rfl,rfl⟩) (.inr ⟨kd,rfl⟩)]
   rfl
  ·refine⟨.slice (some ⟨b,0,none⟩) m c,?_,.vcap ⟨E,ver,xs,hL,Kn,fun _=>.inr ⟨b,rfl,e2,hm,e4,e5⟩⟩ rfl⟩
   simp only [execOp,ho,e1,Sem.run_bind,Option.map_none,Option.map_some,v1.inv_sc]
   rw [H59 hT (some ⟨b,0,none⟩) n c 0 m _ _ w (Nat.zero_le _) hm (.inl ⟨rfl,rfl⟩) (.inr ⟨kd,rfl⟩)]
   simp [Addr.add_lit]
theorem R48 {x p:Operand} {T E k i ver n c m:Nat} {kd:IntKind} {z:Int} {xs:List AV} (ho:o.op=.slice T x (some p) none none) (hT:sliceB P T E k=true) (hx:ev l x=.vcap i ver k n c) (hL:lk L i=some (.vec E k ver xs)) (hp:ev l p=.sc (.int kd z)) (hz:z=(m:Int)) (hm:m≤n) (hn:n≤xs.length) (h0:0 < xs.length) :
  H5 P o l L (Is (.vsl i ver k m (n - m)) L):=
 Hx fun a w β hsat hf=>by
  subst hz
  have hv:=hf.ev x
  rw [hx] at hv
  have v1:=hf.ev p; rw [hp] at v1
  rcases hv.inv_vcap hL with ⟨e1,e2,e3,e4⟩ | ⟨b,e1,e2,e3,e4,e5⟩
  ·obtain⟨_,o2⟩:=hsat.obj i _ hL
   rcases o2 with ⟨_,o2⟩ | ⟨b',o2,_⟩
   ·subst o2; simp at h0
   ·rw [show β i=β.at_ i from rfl,e4] at o2; cases o2
  ·refine⟨.slice (if c=m then some ⟨b,0,none⟩ else (some ⟨b,0,none⟩:Option Addr).map (·.add (m*k))) (n - m) (c - m),?_,.vsl ⟨E,ver,xs,hL,Kn,fun _=>⟨by omega,⟨_,_,rfl,by omega,by omega,?_⟩,fun h=>?_⟩⟩ rfl⟩
   ·simp only [execOp,ho,e1,Sem.run_bind,Option.map_none,Option.map_some,v1.inv_sc]
    rw [H59 hT (some ⟨b,0,none⟩) n c m n _ _ w hm e3 (.inr ⟨kd,rfl⟩) (.inl ⟨rfl,rfl⟩)]
    rfl
   ·by_cases h:n - m=0
    ·exact .inl h
    ·refine .inr ⟨b,e2,?_⟩
     rw [if_neg (by omega)]
     simp [Addr.add_lit]
   ·subst h
    refine .inr ⟨b,c,?_,e2,by omega,e4,e5⟩
    split <;> simp [Addr.add_lit]
theorem H2b {x:Operand} {T E k i ver n lo hi:Nat} {lop hip:Option Operand} {xs:List AV} (ho:o.op=.slice T x lop hip none) (hT:sliceB P T E k=true) (hx:ev l x=.vsl i ver k 0 n) (hL:lk L i=some (.vec E k ver xs))
  (hlo:(lop=none∧lo=0)∨∃ kd p,lop=some p∧ev l p=.sc (.int kd lo)) (hhi:(hip=none∧hi=n)∨∃ kd p,hip=some p∧ev l p=.sc (.int kd hi)) (h1:lo≤hi) (h2:hi≤xs.length) (hpos:Nat.blt 0 k=true) :
  H5 P o l L (Is (.vsl i ver k lo (hi - lo)) L):=
 Hx fun a w β hsat hf=>by
  have hk0:0 < k:=by simpa [Nat.blt_eq] using hpos
  have hv:=hf.ev x
  rw [hx] at hv
  obtain⟨_,hn,_⟩:=hv.inv_vsl hL
  obtain⟨_,o2⟩:=hsat.obj i _ hL
  have hlo':(lop.map a.eval=none∧lo=0)∨∃ kd,lop.map a.eval=some (.int kd lo):=by
   rcases hlo with ⟨rfl,h⟩ | ⟨kd,p,rfl,hp⟩
   ·exact .inl ⟨rfl,h⟩
   ·have:=hf.ev p; rw [hp] at this
    exact .inr ⟨kd,by simp [this.inv_sc]⟩
  have hhi':(hip.map a.eval=none∧hi=n)∨∃ kd,hip.map a.eval=some (.int kd hi):=by
   rcases hhi with ⟨rfl,h⟩ | ⟨kd,p,rfl,hp⟩
   ·exact .inl ⟨rfl,h⟩
   ·have:=hf.ev p; rw [hp] at this
    exact .inr ⟨kd,by simp [this.inv_sc]⟩
  rcases hv.inv_vsl0 hL with ⟨e1,e2,e3⟩ | ⟨b,cap,e1,e2,e3,e4,e5⟩
  ·have hxs:xs=[]:=by
    rcases o2 with ⟨_,o2⟩ | ⟨b',o2,_⟩
    ·exact o2
    ·rw [show β i=β.at_ i from rfl,e3] at o2; cases o2
   subst hxs
   have:hi=0:=by simpa using h2
   subst this
   have:lo=0:=by omega
   subst this
   refine⟨.slice none 0 0,?_,.vsl ⟨E,ver,[],hL,Kn,fun _=>⟨by simp,⟨none,0,rfl,Kn,Nat.zero_le _,.inl rfl⟩,fun _=>.inl ⟨rfl,rfl,e3⟩⟩⟩ rfl⟩
   simp only [execOp,ho,e1,Sem.run_bind,Option.map_none]
   rw [H59 hT none 0 0 0 0 _ _ w (Kn) (Kn) hlo' (hhi'.imp (fun h=>⟨h.1,rfl⟩) id)]
   rfl
  ·have hcap:xs.length≤cap:=by
    rcases o2 with ⟨_,o2⟩ | ⟨b',o2,vs,o3,o4,_⟩
    ·subst o2; simp
    ·rw [show β i=β.at_ i from rfl,e2] at o2; cases o2
     have hs:vs.size=cap*k:=by simpa [World.shape?,o3] using e5
     rw [hs] at o4
     exact Nat.le_of_mul_le_mul_right o4 hk0
   refine⟨.slice (if cap=lo then some ⟨b,0,none⟩ else (some ⟨b,0,none⟩:Option Addr).map (·.add (lo*k))) (hi - lo) (cap - lo),?_,.vsl ⟨E,ver,xs,hL,Kn,fun _=>⟨by omega,⟨_,_,rfl,by omega,by omega,?_⟩,fun h=>?_⟩⟩ rfl⟩
   ·simp only [execOp,ho,e1,Sem.run_bind,Option.map_none]
    rw [H59 hT (some ⟨b,0,none⟩) n cap lo hi _ _ w h1 (by omega) hlo' hhi']
    rfl
   ·by_cases h:hi - lo=0
    ·exact .inl h
    ·refine .inr ⟨b,e2,?_⟩
     rw [if_neg (by omega)]
     simp [Addr.add_lit]
   ·subst h
    refine .inr ⟨b,cap,?_,e2,by omega,e4,e5⟩
    split <;> simp [Addr.add_lit]
theorem J6c (w:World) (tS tR e:TypeId) (ht:P.underlying tS=some (.slice e)) (size:Nat) (hz:∀ w,(Go.sizeOf e).run P w=.ok size w)
  (a b:Addr) (la ca lb cb:Nat) (hne:a.block≠b.block) (tA tB:TypeId) (kA kB:Nat)
  (hsa:w.shape? a.block=some (tA,kA)) (hkA:kA≠0) (hsb:w.shape? b.block=some (tB,kB))
  (hfb:w.frozen? b=false) (hfe:w.frozen? { block:=b.block,off:=kB }=false) :
  (Extern.SlicesOverlaps.overlaps #[tS,tS] #[tR] #[.slice (some a) la ca,.slice (some b) lb cb]).run P w=.ok (.bool false) w:=by
 have hnb:(a.block != b.block)=true:=by simpa using hne
 have hnb':(a.block==b.block)=false:=by simpa using hne
 change Sem.run P (α:=Value) (do
  let some t := (#[tS, tS] : Array TypeId)[0]? | stuck "slices.overlaps: no parameter types"
  let .slice elem ← underlying t | stuck "slices.overlaps: slice type expected"
  let size ← sizeOf elem
  match (some a:Option Addr),(some b:Option Addr) with
  | some a,some b=>
   if la=0∨lb=0∨size=0 then pure (Value.bool false)
   else if a.block != b.block&&(← frozen a)&&(← frozen b) then unsupported .addressObserved
   else do
    if a.block != b.block then do
     noView a; noView b
     if ← mayBeOne a b then return Value.bool ((← choose (.extern "sameAddr.stringBytes" 2)) == 1)
    pure (Value.bool (a.block==b.block&&a.off < b.off+lb*size&&b.off < a.off+la*size))
  | _,_=>pure (Value.bool false)) w=_
 by_cases h0:la=0∨lb=0∨size=0
 ·simp [run_underlying ht,hz,h0]
 ·cases kA with
  | zero=>exact absurd rfl hkA
  | succ kA=>
   cases hfa:w.frozen? a <;> cases hfe2:w.frozen? { block:=a.block,off:=kA+1 } <;>
    simp [run_underlying ht,hz,h0,hnb,hnb',frozen,noView,viewAt,mayBeOne,stringish,shape,Sem.run,hsa,hsb,hfb,hfe,hfa,hfe2]
theorem Q6b {f:FuncId} {fn:Func} {x y:Operand} {T S E k kx i ver n off:Nat} {ts:Array TypeId} {xs ys:List AV} (ho:o.op=.call { callee:=.value (.func f),args:=#[x,y],argTypes:=ts })
  (hf : P.funcs[f]? = some fn) (hname : (fn.name == "runtime.NumGoroutine") = false) (hb : fn.body.isNone = true) (hne : Extern.findNext fn = none) (he : Extern.find fn = some (Extern.SlicesOverlaps.overlaps #[T, T] #[S]))
  (hT:sliceB P T E k=true) (hpos:Nat.blt 0 k=true) (hx:Qj (ev l x)=some (kx,ys)) (hkx:kx=k) (hy:ev l y=.vsl i ver k off n) (hL':lk L i=some (.vec E k ver xs)) (h0:0 < ys.length) (h1:0 < n):H5 P o l L (Is (.sc (.bool false)) L):=
 Hx fun a w β hsat hfr=>by
  subst hkx
  have hk0:0 < kx:=by simpa [Nat.blt_eq] using hpos
  have hv:=(hfr.ev x).Qj hx
  have hv':=hfr.ev y
  rw [hy] at hv'
  obtain⟨cap,b,off1,cur,tA,fz,e1,e2,e5,e6⟩:∃ cap b off1 cur tA fz,a.eval x=.slice (some ⟨b,off1,none⟩) ys.length cap∧β.at_ i≠some b∧w.heap[b]? = some (.cells cur tA fz)∧cur.size≠0:=by
   generalize a.eval x=vx at hv
   cases hv with
   | nil=>simp at h0
   | @list _ b off1 cap _ vals hcap hm hk hS h=>
    have hfl:0 < (flat ys).length:=by rw [Jm hk]; exact Nat.mul_pos h0 hk0
    obtain⟨s1,s2⟩:=hS 0 hfl
    have hnb:β.at_ i≠some b:=fun e=>s1.kept i _ hL' e
    unfold World.cell? at s2
    cases hh:w.heap[b]? with
    | none=>simp [hh] at s2
    | some ob=>
     cases ob with
     | cells cur tA fz=>
      simp [hh] at s2
      refine⟨cap,b,off1,cur,tA,fz,rfl,hnb,hh,fun e=>?_⟩
      have:=(Array.getElem?_eq_some_iff.1 s2).1
      omega
     | _=>simp [hh] at s2
  obtain⟨_,hn,a',cap',d1,d2,d3,d4⟩:=hv'.inv_vsl hL'
  rcases d4 with d4 | ⟨b',d4,rfl⟩
  ·omega
  ·obtain⟨_,vs',q2,q3,_⟩:=H14 hsat hL' d4
   have hbb:b≠b':=fun e=>by subst e; exact e2 d4
   have hs1:w.shape? b=some (tA,cur.size):=by simp [World.shape?,e5]
   have hs2:w.shape? b'=some (E,vs'.size):=by simp [World.shape?,q2]
   have hr:=J6c (P:=P) w T S E (sliceB.out hT).1 kx (fun w=>Qw (sliceB.out hT).2 w) ⟨b,off1,none⟩ ⟨b',off*kx,none⟩ ys.length cap n cap' hbb tA E _ _ hs1 e6 hs2 (by simp [World.frozen?,q2]) (by simp [World.frozen?,q2])
   refine⟨.bool false,?_,.sc⟩
   have hc:=run_callFunc_extern (P:=P) hf hname hb hne he #[.slice (some ⟨b,off1,none⟩) ys.length cap,.slice (some ⟨b',off*kx,none⟩) n cap'] w
   rw [hr] at hc
   simp only [Result.andThen] at hc
   have hfn:a.eval (.func f)=.func (.func f) #[] #[]:=rfl
   simp [execOp,ho,resolve,hfn,Deferred.ofValue,invoke,e1,d1,hc]
theorem Ra6 (j:Nat) {s q:Operand} {T Tn E k by_ i ver m c n:Nat} {kq kn:IntKind} {zi:Int} {xs:List AV} (y:AV) (zs:List Value) (ho:o.op=.call { callee:=.builtin .append,args:=#[s,q],argTypes:=#[T,Tn] }) (hs:ev l s=.vcap i ver k m c) (hi:lk L i=some (.vec E k ver xs)) (hq:ev l q=.sc (.int kq zi)) (hzi:zi=(n:Int))
  (hT:sliceB P T E k=true) (hTn:P.underlying Tn=some (.int kn)) (hE:Zr P E k by_=true) (hz:(P.info? E).bind (fun i=>i.zero.map Value.cells)=some zs.toArray) (hzl:zs.length=k) (hpos:Nat.blt 0 k=true) (hy:y.cells.length=k) (hD:∀ (w:World) (S:Nat→Nat→Prop) (j:Nat) u v,y.cells[j]? = some u→zs[j]? = some v→D w S u v)
  (hb:(m+n)*by_≤140737488355328) (hlen:m+n≤maxLen) (hm:m≤xs.length) (h0:0 < xs.length) (hg:c < m+n) (hn:0 < n) (hj:lk L j=none) :
  H5 P o l L (Is (.vec j 0 k (xs.take m++List.replicate n y).length) ((j,.vec E k 0 (xs.take m++List.replicate n y))::L)):=by
 subst hzi
 intro a w β K Q hsat hf hK
 have hk0:0 < k:=by simpa [Nat.blt_eq] using hpos
 have hv:=hf.ev s
 rw [hs] at hv
 have hv2:=hf.ev q
 rw [hq] at hv2
 obtain⟨inf,z,e1,e2,e3,e4,e5,e6⟩:=Zr.out hE
 have hzc:z.cells=zs.toArray:=by
  rw [e1] at hz
  simp only [Option.bind_some,e4,Option.map_some] at hz
  exact Kj hz
 rcases hv.inv_vcap hi with ⟨_,_,_,d4⟩ | ⟨b,d1,d2,d3,d4,d5⟩
 ·obtain⟨_,o2⟩:=hsat.obj i _ hi
  rcases o2 with ⟨_,o2⟩ | ⟨b',o2,_⟩
  ·subst o2; simp at h0
  ·rw [show β i=β.at_ i from rfl,d4] at o2; cases o2
 ·obtain⟨q1,vs,q2,q3,q4⟩:=H14 hsat hi d2
  have hmk:m*k≤xs.length*k:=Nat.mul_le_mul_right _ hm
  have hol:(vs.toList.take (m*k)).length=m*inf.size:=by rw [e2,List.length_take,Array.length_toList]; omega
  have hocell:∀ j v,(vs.toList.take (m*k))[j]? = some v→w.drew.cell? ((⟨b,0,none⟩:Addr).add j)=some v:=fun j v hv=>by
   have hj:=(Kh hv).1
   rw [List.length_take] at hj
   rw [List.getElem?_take,if_pos (by omega)] at hv
   rw [Addr.add_lit,Nat.zero_add]
   show w.cell? _=_
   simp [World.cell?,q2]
   simpa using hv
  have hfit:Builtin.nextslicecap (m+n) c*inf.bytes≤281474976710656:=by
   have:=Nat.mul_le_mul_right inf.bytes (nextslicecap_le hg)
   rw [e3] at this ⊢
   rw [Nat.mul_assoc] at this
   omega
  have h48:n*inf.bytes≤281474976710656:=by
   have:=Nat.mul_le_mul_right by_ (show n≤m+n by omega)
   rw [e3]; omega
  have hr:=Lib.run_append_grow_zeros (P:=P) w T Tn o.type E inf z kq kn (sliceB.out hT).1 hTn e1 e4 (some ⟨b,0,none⟩) m c (vs.toList.take (m*k)) (run_firstCells_some (P:=P) w.drew inf.size m ⟨b,0,none⟩ m c _ hol hocell) n hn (by omega) hg (by have:=hlen; simp [maxLen] at this; omega) h48 hfit
  have hge:=grownCap_ge w (m+n) c E
  have hle:=grownCap_le_maxLen w (m+n) c E hlen
  generalize hgc:grownCap w (m+n) c E=gc at hr hge hle
  generalize hrow:(vs.toList.take (m*k)).toArray++Builtin.zeroCells z.cells n++Builtin.zeroCells z.cells (gc - (m+n))=row at hr
  have hzn:∀ q,(Builtin.zeroCells z.cells q).toList.length=q*k:=fun q=>by simp [Builtin.zeroCells,hzc,hzl]
  have hrs:row.size=gc*k:=by
   rw [← hrow]
   have h1:=hzn n
   have h2:=hzn (gc - (m+n))
   rw [Array.length_toList] at h1 h2
   rw [Array.size_append,Array.size_append,List.size_toArray,hol,e2,h1,h2,← Nat.add_mul,← Nat.add_mul]
   congr 1; omega
  have hrun:(execOp a.eval o).run P w=.ok (.value (.slice (some ⟨w.heap.size,0,none⟩) (m+n) gc)) (w.drew.alloc (.cells row E)):=by
   simp [execOp,ho,resolve,invoke,builtin,d1,hv2.inv_sc,hr]
  unfold Oper.wp
  rw [hrun]
  have hlt:(xs.take m++List.replicate n y).length=m+n:=by rw [Ko,List.length_take,List.length_replicate]; omega
  have hheap:∀ b',b' < w.heap.size→(w.drew.alloc (.cells row E)).heap[b']? = w.heap[b']? := fun b' hb'=>by
   show (w.heap.push (.cells row E))[b']? = _
   rw [Array.getElem?_push,if_neg (by omega)]
  have hnew:(w.drew.alloc (.cells row E)).heap[w.heap.size]? = some (.cells row E (0,0)):=by
   show (w.heap.push (.cells row E))[w.heap.size]? = _
   simp
  have hhs:(w.drew.alloc (.cells row E)).heap.size=w.heap.size+1:=by
   show (w.heap.push (.cells row E)).size=_
   simp
  obtain⟨st,sat⟩:=G07 (w':=w.drew.alloc (.cells row E)) (t:=E) (k:=k) (ver1:=0) (xs':=xs.take m++List.replicate n y) (ob':=some w.heap.size) hsat (.inl hj) rfl rfl ⟨rfl,Nat.le_succ _⟩ (by rw [hhs]; omega) (fun b' hb' _=>hheap b' hb') (.inr (.inr ⟨_,rfl,Kn,by rw [hhs]; omega⟩))
  have hyk:∀ x∈List.replicate n y,x.cells.length=k:=fun x hx=>by rw [List.eq_of_mem_replicate hx]; exact hy
  have hall:∀ y'∈xs.take m++List.replicate n y,y'.cells.length=k:=fun y' hy'=>by
   rcases Kt.1 hy' with h | h
   ·exact q1 y' (List.mem_of_mem_take h)
   ·exact hyk y' h
  have hfl:(flat (xs.take m)).length=m*k:=by rw [G85 q1,List.length_take,Jm q1]; omega
  refine hK _ _ _ _ _ ⟨rfl,rfl⟩ (sat ⟨hall,.inr ⟨_,rfl,row,hnew,by rw [hlt,hrs]; exact Nat.mul_le_mul_right _ hge,fun j u v hu hv=>?_⟩⟩) st (.vec ⟨E,0,_,by rw [Gs,if_pos rfl],Kn,fun _=>⟨rfl,.inr ⟨w.heap.size,gc,by rw [hlt],by simp [upP],by rw [hlt]; exact hge,hle,by unfold World.shape?; rw [hnew]; simp only [hrs]⟩⟩⟩ rfl)
  rw [G60] at hu
  have hv2:((vs.toList.take (m*k))++(Builtin.zeroCells z.cells n).toList++(Builtin.zeroCells z.cells (gc - (m+n))).toList)[j]? = some v:=by
   rw [← hrow] at hv
   simpa [← Array.getElem?_toList] using hv
  have hol':(vs.toList.take (m*k)).length=m*k:=by rw [hol,e2]
  rcases Nat.lt_or_ge j (m*k) with h | h
  ·rw [List.getElem?_append_left (by omega)] at hu
   rw [List.append_assoc,List.getElem?_append_left (by omega),List.getElem?_take,if_pos h] at hv2
   rw [G85 q1,List.getElem?_take,if_pos h] at hu
   exact(q4 j u v hu (by simpa using hv2)).mono st.stab
  ·rw [List.getElem?_append_right (by omega)] at hu
   have hju:=(Kh hu).1
   rw [Jm hyk,hfl,List.length_replicate] at hju
   rw [List.append_assoc,List.getElem?_append_right (by omega),List.getElem?_append_left (by rw [hol',hzn]; exact hju)] at hv2
   rw [hfl] at hu
   rw [hol'] at hv2
   have hsz:z.cells.size=k:=e5
   rw [Hae _ _ _ (by rw [hsz]; exact hju),hsz] at hv2
   have hmd:(j - m*k) % k < k:=Nat.mod_lt _ hk0
   have hdv:(j - m*k) / k < n:=(Nat.div_lt_iff_lt_mul hk0).2 hju
   have e:j - m*k=((j - m*k) / k)*k+(j - m*k) % k:=(Nat.div_add_mod (j - m*k) k).symm.trans (by rw [Nat.mul_comm k])
   rw [e,Gc1 hyk (y:=y) (by rw [List.getElem?_replicate,if_pos hdv]) hmd] at hu
   refine hD _ _ ((j - m*k) % k) u v hu ?_
   rw [← hv2,hzc]
   simp [hzl,hmd]
/-! ### Typed elements -/
theorem R4c {α:Type} (j:Nat) {s q:Operand} {T Tn E k by_ i ver m c n:Nat} {kq kn:IntKind} {zi:Int} {f:α→AV} {xs:List α} (y:α) (zs:List Value) (ho:o.op=.call { callee:=.builtin .append,args:=#[s,q],argTypes:=#[T,Tn] }) (hs:ev l s=.vcap i ver k m c) (hi:lk L i=some (.vec E k ver (xs.map f))) (hq:ev l q=.sc (.int kq zi)) (hzi:zi=(n:Int))
  (hT:sliceB P T E k=true) (hTn:P.underlying Tn=some (.int kn)) (hE:Zr P E k by_=true) (hz:(P.info? E).bind (fun i=>i.zero.map Value.cells)=some zs.toArray) (hzl:zs.length=k) (hpos:Nat.blt 0 k=true) (hzz:ZOk (f y).cells zs)
  (hb:(m+n)*by_≤140737488355328) (hlen:m+n≤maxLen) (hm:m≤xs.length) (h0:0 < xs.length) (hg:c < m+n) (hn:0 < n) (hj:lk L j=none) :
  H5 P o l L (Is (.vec j 0 k (xs.take m++List.replicate n y).length) ((j,.vec E k 0 ((xs.take m++List.replicate n y).map f))::L)):=by
 have h:=Ra6 (P:=P) j (f y) zs ho hs hi hq hzi hT hTn hE hz hzl hpos (by rw [hzz.length,hzl]) (fun w S j a b ha hb'=>by
  have:=ZOk.get (w:=w) (β:=⟨fun _=>none,fun b i=>¬ S b i⟩) (L:=[]) hzz j a b ha hb'
  refine(this.data_of_nil).mono fun b i hs=>⟨Classical.byContradiction fun hn=>hs.seen hn,rfl⟩) hb hlen (by simpa using hm) (by simpa using h0) hg hn hj
 simp only [List.map_append,List.map_take,List.map_replicate]
 simpa only [Ko,List.length_take,Ks,List.length_replicate] using h
theorem Q71 {α:Type} (j:Nat) {s q:Operand} {T Tn E k by_ i ver m c n:Nat} {kq kn:IntKind} {zi:Int} {f:α→AV} {xs:List α} (y:α) (zs:List Value) (X:List α) (hX:xs.take m++List.replicate n y=X) (ho:o.op=.call { callee:=.builtin .append,args:=#[s,q],argTypes:=#[T,Tn] }) (hs:ev l s=.vcap i ver k m c) (hi:lk L i=some (.vec E k ver (xs.map f))) (hq:ev l q=.sc (.int kq zi)) (hzi:zi=(n:Int))
  (hT:sliceB P T E k=true) (hTn:P.underlying Tn=some (.int kn)) (hE:Zr P E k by_=true) (hz:(P.info? E).bind (fun i=>i.zero.map Value.cells)=some zs.toArray) (hzl:zs.length=k) (hpos:Nat.blt 0 k=true) (hzz:ZOk (f y).cells zs)
  (hb:(m+n)*by_≤140737488355328) (hlen:m+n≤maxLen) (hm:m≤xs.length) (h0:0 < xs.length) (hg:c < m+n) (hn:0 < n) (hj:lk L j=none) :
  H5 P o l L (Is (.vec j 0 k X.length) ((j,.vec E k 0 (X.map f))::L)):=by
 subst hX
 exact R4c j y zs ho hs hi hq hzi hT hTn hE hz hzl hpos hzz hb hlen hm h0 hg hn hj
theorem Jf5 {α:Type} {d x:Operand} {T T2 E k i ver off n:Nat} {f:α→AV} {xs ys:List α} (X:List α) (hX:overlay xs off ys n=X) (ho:o.op=.call { callee:=.builtin .copy,args:=#[d,x],argTypes:=#[T,T2] }) (hT:sliceB P T E k=true) (hd:(ev l d=.vec i ver k n∧off=0)∨ev l d=.vsl i ver k off n) (hi:lk L i=some (.vec E k ver (xs.map f))) (hs:J05 L k (ev l x) (ys.map f)) (hc:∀ y,(f y).flatOk=true) :
  H5 P o l L (Is (I64 ((min ys.length n:Nat):Int)) ((i,.vec E k ver (X.map f))::L)):=by
 subst hX
 exact Y6f ho hT hd hi hs hc
theorem Rd3 {d x:Operand} {T T2 E k i ver off n:Nat} {xs ys:List AV} (X:List AV) (hX:xs.take off++ys.take (min ys.length n)++xs.drop (off+min ys.length n)=X) (ho:o.op=.call { callee:=.builtin .copy,args:=#[d,x],argTypes:=#[T,T2] }) (hT:sliceB P T E k=true) (hd:R45 L k (ev l d) i ver off n E xs) (hs:J05 L k (ev l x) ys) (hc:∀ y∈ys.take (min ys.length n),y.flatOk=true) :
  H5 P o l L (Is (I64 ((min ys.length n:Nat):Int)) ((i,.vec E k ver X)::L)):=by
 subst hX
 exact Qdf ho hT hd hs hc
end ops

section
variable {α β σ : Type} {Q : β → Prop}

def Wp (m : Option β) (Q : β → Prop) : Prop := ∃ r, m = some r ∧ Q r

theorem Gk {r : β} (h : Q r) : Wp (some r) Q := ⟨r, rfl, h⟩
theorem wp_mono {m : Option β} {Q' : β → Prop} (h : Wp m Q') (hq : ∀ r, Q' r → Q r) : Wp m Q := by
  obtain ⟨r, e, h⟩ := h; exact ⟨r, e, hq r h⟩
theorem H8 {m : Option α} {k : α → Option β} (h : Wp m (fun x => Wp (k x) Q)) : Wp (bnd m k) Q := by
  obtain ⟨x, rfl, h⟩ := h; exact h
theorem Gu {m : Option α} {k : α → Option β} {x : α} (e : m = some x) (h : Wp (k x) Q) : Wp (bnd m k) Q := by subst e; exact h
theorem Zb {z : Int} {k : Int → Option β} (h1 : -9223372036854775808 ≤ z ∧ z ≤ 9223372036854775807) (h : Wp (k z) Q) : Wp (chk z k) Q := by
  unfold chk Rbe
  rw [Kf h1.1, Kf h1.2]; exact h
theorem He {c : Bool} {x y : Option β} (h1 : c = true → Wp x Q) (h2 : c = false → Wp y Q) : Wp (bif c then x else y) Q := by
  cases c with
  | true => exact h1 rfl
  | false => exact h2 rfl
theorem R6 {b : Bool} {k : Option β} (hb : b = true) (h : Wp k Q) : Wp (need b k) Q := by subst hb; exact h
theorem Yh {l : List α} {i : Int} {k : α → Option β} {m : Nat} {x : α} (hi : i = (m : Int)) (hx : l[m]? = some x) (h : Wp (k x) Q) : Wp (Qm l i k) Q := by
  subst hi
  unfold Qm
  rw [Kf (by omega : (0 : Int) ≤ m), cond_true, show (m : Int).toNat = m by omega, hx]
  exact h
theorem Gbe {m : (α → Option β) → Option β} {k : α → Option β} (P : α → Prop) (hm : ∀ K : α → Option β, (∀ a, P a → Wp (K a) Q) → Wp (m K) Q) (hk : ∀ a, P a → Wp (k a) Q) : Wp (jp m k) Q := hm k hk
theorem Jf6 {i : Int} {n m : Nat} {Q : Nat → Prop} (hi : i = (m : Int)) (hm : m ≤ n) (h : Q m) : Wp (G70 i n) Q := by
  subst hi
  unfold G70
  rw [Kf (by omega : (0 : Int) ≤ m), show (m : Int).toNat = m by omega, Kf hm]
  exact Gk h
theorem Jo (I : List α → σ → Prop) {b : α → Nat → σ → (σ → Option β) → Option β} {kx : σ → Option β} {xs : List α} {s : σ} (h0 : I [] s)
    (hb : ∀ pre x post s nx, xs = pre ++ x :: post → I pre s → (∀ s', I (pre ++ [x]) s' → Wp (nx s') Q) → Wp (b x pre.length s nx) Q) (hk : ∀ s, I xs s → Wp (kx s) Q) : Wp (each b kx xs 0 s) Q := by
  have key : ∀ (post pre : List α) (s : σ), xs = pre ++ post → I pre s → Wp (each b kx post pre.length s) Q := by
    intro post
    induction post with
    | nil => intro pre s e hi; rw [List.append_nil] at e; subst e; exact hk s hi
    | cons x post ih =>
      intro pre s e hi
      rw [each]
      refine hb pre x post s _ e hi (fun s' hs' => ?_)
      have := ih (pre ++ [x]) s' (by rw [e]; simp) hs'
      rw [Ko, Kp] at this
      exact this
  exact key xs [] s rfl h0
theorem Haf (I : Nat → σ → Prop) {b : Nat → σ → (σ → Option β) → Option β} {kx : σ → Option β} {n : Nat} {s : σ} (h0 : I 0 s)
    (hb : ∀ i s nx, i < n → I i s → (∀ s', I (i + 1) s' → Wp (nx s') Q) → Wp (b i s nx) Q) (hk : ∀ s, I n s → Wp (kx s) Q) : Wp (upto b kx n 0 s) Q := by
  have key : ∀ (m i : Nat) (s : σ), i + m = n → I i s → Wp (upto b kx m i s) Q := by
    intro m
    induction m with
    | zero => intro i s e hi; have e : i = n := by omega
              subst e; exact hk s hi
    | succ m ih =>
      intro i s e hi
      rw [upto]
      exact hb i s _ (by omega) hi (fun s' hs' => ih (i + 1) s' (by omega) hs')
  exact key n 0 s (by omega) h0
theorem Zd {m : Option β} {r : β} (h : Wp m (· = r)) : m = some r := by
  obtain ⟨x, e, rfl⟩ := h; exact e
end

def Gfe {α : Type} (p : α → Bool) (l : List α) : List Int := (l.zipIdx.filter (fun x => p x.1)).map (fun x => (x.2 : Int))
theorem Qa9 {α : Type} (p : α → Bool) (l : List α) (x : α) : Gfe p (l ++ [x]) = Gfe p l ++ (if p x then [(l.length : Int)] else []) := by
  unfold Gfe
  rw [List.zipIdx_append, List.filter_append, List.map_append]
  by_cases h : p x <;> simp [h]
theorem R2d {α : Type} (p : α → Bool) (l : List α) : (Gfe p l).length ≤ l.length := by
  unfold Gfe
  rw [Ks]
  exact Nat.le_trans (List.length_filter_le _ _) (by simp)
theorem R2c {α : Type} {p : α → Bool} {l : List α} : Gfe p l = [] ↔ ∀ x ∈ l, p x = false := by
  unfold Gfe
  rw [List.map_eq_nil_iff, List.filter_eq_nil_iff]
  constructor
  · intro h x hx
    obtain ⟨i, hi⟩ := List.mem_iff_getElem?.1 hx
    have := h (x, i) (List.mk_mem_zipIdx_iff_getElem?.2 hi)
    simpa using this
  · intro h y hy
    have := h y.1 (List.mem_iff_getElem?.2 ⟨y.2, List.mk_mem_zipIdx_iff_getElem?.1 hy⟩)
    simp [this]
set_option maxRecDepth 100000
set_option linter.unusedVariables false
set_option linter.unusedSimpArgs false
theorem J99 {α β:Type} [DecidableEq β] {xs:List α} {k:Bool→Option β} {r:Option β} (h:∀ b,(b=true→xs=[])→k b=r):Y22 xs k=r:=by
 unfold Y22
 cases xs with
 | nil=>rw [h true (fun _=>rfl),h false (fun e=>by cases e)]; simp
 | cons x l=>exact h false (fun e=>by cases e)
theorem R2f {α:Type} (xs:List α) (n:Nat) (y z:α) (h:n < xs.length) (p q r:Nat) (hp:p=xs.length+1 - n) (hq:q=xs.length+1 - (n+1)) (hr:r=xs.length - n) :
  overlay (overlay (xs.take n++List.replicate p z) n [y] p) (n+1) ((xs.drop n).take r) q=xs.take n++y::xs.drop n:=by
 subst hp hq hr
 have e:(xs.drop n).take (xs.length - n)=xs.drop n:=List.take_of_length_le (by simp)
 rw [e]
 unfold overlay
 have hl:(xs.drop n).length=xs.length - n:=by simp
 have ht:(xs.take n).length=n:=by rw [List.length_take]; omega
 rw [Kp,Nat.min_eq_left (show 1≤xs.length+1 - n by omega),hl,Nat.min_eq_left (show xs.length - n≤xs.length+1 - (n+1) by omega)]
 have a1:(xs.take n++List.replicate (xs.length+1 - n) z).take n=xs.take n:=by rw [List.take_append_of_le_length (by omega),List.take_of_length_le (by omega)]
 rw [a1]
 have a2:(xs.take n++[y].take 1++(xs.take n++List.replicate (xs.length+1 - n) z).drop (n+1)).take (n+1)=xs.take n++[y]:=by
  rw [List.take_append_of_le_length (by simp; omega),List.take_of_length_le (by simp; omega)]; rfl
 rw [a2]
 have a3:(xs.take n++[y].take 1++(xs.take n++List.replicate (xs.length+1 - n) z).drop (n+1)).drop (n+1+(xs.length - n))=[]:=List.drop_of_length_le (by simp; omega)
 rw [a3,List.append_nil,e,List.append_assoc]; rfl
theorem R1d {f:AV→AV} (xs:List AV) (n:Nat) (y:AV) (J:AV) (h:n < xs.length) (p q:Nat) (hp:p=xs.length+1 - n) (hq:q=xs.length+1 - (n+1)) (X Y:List AV) (hX:X=xs++List.replicate (xs.length+1 - xs.length) J) (hY:Y=X.take (n+1)++(((X.drop n).take p).take (min ((X.drop n).take p).length q))++X.drop (n+1+min ((X.drop n).take p).length q)) :
  (Y.take n++[y].take (min [y].length p)++Y.drop (n+min [y].length p)).take (xs.length+1)=xs.take n++y::xs.drop n:=by
 have hJ:xs.length+1 - xs.length=1:=by omega
 rw [hJ] at hX
 have hXl:X.length=xs.length+1:=by rw [hX]; simp
 have hdl:((X.drop n).take p).length=p:=by rw [List.length_take,List.length_drop,hXl,hp]; omega
 have hmin:min p q=q:=by omega
 rw [hdl,hmin] at hY
 have hXn:X.take n=xs.take n:=by rw [hX,List.take_append_of_le_length (by omega)]
 have hXd:((X.drop n).take p).take q=xs.drop n:=by
  rw [List.take_take,Nat.min_eq_left (by omega),hX,List.drop_append_of_le_length (by omega),List.take_append_of_le_length (by simp; omega),List.take_of_length_le (by simp; omega)]
 rw [hXd] at hY
 have hYe:X.drop (n+1+q)=[]:=List.drop_of_length_le (by omega)
 rw [hYe,List.append_nil] at hY
 have hYt:Y.take n=xs.take n:=by
  rw [hY,List.take_append_of_le_length (by rw [List.length_take]; omega),List.take_take,Nat.min_eq_left (by omega),hXn]
 have h1:min [y].length p=1:=by rw [Kp]; omega
 have hYd:Y.drop (n+1)=xs.drop n:=by
  have hl:(X.take (n+1)).length=n+1:=by rw [List.length_take]; omega
  rw [hY,List.drop_append,hl,Nat.sub_self,List.drop_zero,List.drop_of_length_le (by omega),List.nil_append]
 rw [h1,hYt,hYd]
 rw [List.take_of_length_le (by simp; omega),List.append_assoc]; rfl
theorem Jd5 {α:Type} {f:α→AV} (hf:∀ y,(f y).flatOk=true) {X:List AV} {xs:List α} {J:AV} {n p q:Nat} (hX:X=xs.map f++List.replicate ((xs.map f).length+1 - (xs.map f).length) J) (hn:n < xs.length) (hp:p=xs.length+1 - n) (hq:q=xs.length+1 - (n+1)):∀ y∈((X.drop n).take p).take (min ((X.drop n).take p).length q),y.flatOk=true:=by
 have hJ:(xs.map f).length+1 - (xs.map f).length=1:=by omega
 rw [hJ] at hX
 have hXl:X.length=xs.length+1:=by rw [hX]; simp
 have hdl:((X.drop n).take p).length=p:=by rw [List.length_take,List.length_drop,hXl,hp]; omega
 have hmin:min p q=q:=by omega
 have hXd:((X.drop n).take p).take q=(xs.map f).drop n:=by
  rw [List.take_take,Nat.min_eq_left (by omega),hX,List.drop_append_of_le_length (by simp; omega),List.take_append_of_le_length (by simp; omega),List.take_of_length_le (by simp; omega)]
 rw [hdl,hmin,hXd]
 intro y hy
 obtain⟨z,_,rfl⟩:=Ku.1 (List.mem_of_mem_drop hy)
 exact hf z

/-! ### int -/
theorem G64:sliceB Tryz.prog 40 3 1=true:=by kernel_rfl
theorem Y0f:Zr Tryz.prog 3 1 8=true:=by kernel_rfl
theorem Y7e:(Tryz.prog.info? 3).bind (fun i=>i.zero.map Value.cells)=some ([E0]:List Value).toArray:=by kernel_rfl
theorem Y0e:Tryz.prog.follows .mixedOrders=true:=by kernel_rfl
theorem R38 (l:List Int) (h:l.length≤100000):Y3 l=some l:=by
 unfold Y3
 refine J99 (fun b hb=>?_)
 cases b with
 | true=>rw [hb rfl]; rfl
 | false=>exact Zd (R6 (Kf ⟨by simp; omega,by simp [maxLen]; omega⟩) (Gk rfl))

set_option maxHeartbeats 2000000 in
theorem Qd1 (xs:List Int) (n:Nat) (y:Int) (hn:n≤xs.length) (hm:xs.length≤100000) (ver:Nat) :
  Ym Tryz.prog 172 [.vec 1198 ver 1 xs.length,I64 (n:Int),LS 1 I64 [y]] [(1198,.vec 3 1 ver (xs.map I64))] (fun u L'=>u=LS 1 I64 (xs.take n++y::xs.drop n)∧L'=[(1198,.vec 3 1 (ver+4) [])]):=by
 refine H13 [1198] [.tmp 6] Tryz.func172 O O (Qa8 O) (Jr fun h1=>(JLm (.sc (.slice none 0 0)) O (G7 (h1 (Jr fun h2=>(JLm (.vec 1198 ver 1 xs.length) O (JLm (I64 (n:Int)) O (JLh (.vsl 1198 ver 1 n (xs.length - n)) (H4e (f:=I64) (xs:=xs) O O O O G64 ⟨O,hn⟩) O (G7 (h2 (Jr fun h3=>(JLm (LS 1 I64 [y]) O (JLh (I64 ((1:Nat):Int)) (Qs (f:=I64) (xs:=[y]) G64 O O) O (JLm (I64 ((1:Nat):Int)) O (G7 (h3 (Js fun h4=>Jr fun h5=>(JLm (I64 ((1:Nat):Int)) O (JLh (BL (decide (((1:Nat):Int)=0))) (Ju O O O) O (G7 (h5 (Gj O (fun hb=>?_) (fun hb=>?_)))))))))))))))))))))))
 ·exact absurd (Kd hb) (by omega)
 refine Gm (h4 (Jr fun h6=>(JLm (.vec 1198 ver 1 xs.length) O (JLh (I64 (xs.length:Int)) (Ra2 G64 O O O) O (JLm (I64 (xs.length:Int)) O (G7 (h6 (Js fun h7=>Jr fun h8=>(JLm (I64 (n:Int)) O (JLm (I64 (xs.length:Int)) O (JLh (BL (decide ((n:Int)=(xs.length:Int)))) (Ju O O O) O (G7 (h8 (Gj O (fun hb=>?_) (fun hb=>?_)))))))))))))))
 ·-- at the end
  have hb:=Kd hb
  have hnx:n=xs.length:=by omega
  refine Jr fun h9=>(JLm (.vec 1198 ver 1 xs.length) O (JLm (LS 1 I64 [y]) O (JLh (.vec 1198 (ver+3) 1 (xs++[y]).length) (H11 (f:=I64) (xs:=xs) (ys:=[y]) (ver1:=ver+3) rfl rfl rfl rfl G64 Y0f (Kf ⟨by rw [Kp]; omega,by rw [Kp]; simp [maxLen]; omega⟩) (fun _=>rfl) (.inl rfl) (by omega)) O (JLm (.vec 1198 (ver+3) 1 (xs++[y]).length) O (G7 (h9 (Haa 6 (ver+4) rfl rfl (by omega) (Gq (⟨[LS 1 I64 (xs.take n++y::xs.drop n)],[(1198,.vec 3 1 (ver+4) [])],⟨⟨_,O,.vec⟩,G⟩,O,⟨⟨_,O,.conv (.eq ?_ O)⟩,G⟩,O,O⟩)))))))))
  refine congrArg (AV.list 1) (congrArg (List.map I64) ?_)
  rw [hnx,List.take_length,List.drop_length]
 have hb:=Ke hb
 have hlt:n < xs.length:=by omega
 refine Gm (h7 (Rca 0 O O (fun c hc1 hc2=>?_)))
 rw [Ks] at hc1
 refine G29 (l':=[(0,.vcap 1198 ver 1 xs.length c),(1,I64 (n:Int)),(2,LS 1 I64 [y]),(7,I64 ((1:Nat):Int)),(8,I64 (xs.length:Int))]) (L':=[(1198,.vec 3 1 ver (xs.map I64))]) ⟨⟨.eq (by rw [show (xs.map I64).length=xs.length from Ks ..]; rfl) rfl,.same rfl,.same rfl,.same rfl,.same rfl,G⟩,⟨⟨_,rfl,.vec⟩,G⟩,rfl⟩ (Js fun h10=>Jr fun h11=>(JLm (I64 (xs.length:Int)) O (JLm (I64 ((1:Nat):Int)) O (JLh (I64 ((xs.length+1:Nat):Int)) (Ht (by rw [IntKind.wrap_i64]; omega) rfl rfl rfl) O (JLm (.vcap 1198 ver 1 xs.length c) O (JLh (I64 (c:Int)) (Qb5 O G64 O O) O (JLh (BL (decide ((c:Int) < ((xs.length+1:Nat):Int)))) (G41 O O O) O (G7 (h11 (Gj O (fun hb=>?_) (fun hb=>?_)))))))))))
 ·-- a new row
  have hb:=Kd hb
  obtain⟨p,hp⟩:∃ p,p=xs.length+1 - n:=⟨_,rfl⟩
  obtain⟨X1,hX1⟩:∃ X1,xs.take n++List.replicate p (0:Int)=X1:=⟨_,rfl⟩
  have hl1:X1.length=xs.length+1:=by rw [← hX1,Ko,List.length_take,List.length_replicate]; omega
  obtain⟨X2,hX2⟩:∃ X2,overlay X1 n [y] (X1.length - n)=X2:=⟨_,rfl⟩
  have hl2:X2.length=xs.length+1:=by
   rw [← hX2]; unfold overlay
   rw [Kp,Nat.min_eq_left (by omega)]; simp; omega
  obtain⟨Y,hY⟩:∃ Y,Y=(xs.drop n).take (xs.length - n):=⟨_,rfl⟩
  obtain⟨X3,hX3⟩:∃ X3,overlay X2 (n+1) Y (X2.length - (n+1))=X3:=⟨_,rfl⟩
  refine Jr fun h12=>(JLm (.vcap 1198 ver 1 xs.length c) O (JLm (I64 (n:Int)) O (JLh (.vcap 1198 ver 1 n c) (J8b rfl G64 rfl rfl rfl rfl (by omega)) O (JLm (I64 (xs.length:Int)) O (JLm (I64 ((1:Nat):Int)) O (JLh (I64 ((xs.length+1:Nat):Int)) (Ht (by rw [IntKind.wrap_i64]; omega) rfl rfl rfl) O (JLm (I64 (n:Int)) O (JLh (I64 (p:Int)) (Ge4 (by rw [IntKind.wrap_i64]; omega) rfl rfl rfl) O (JLh (.vec 77000002 0 1 X1.length) (Q71 (f:=I64) (xs:=xs) 77000002 (0:Int) [E0] X1 hX1 rfl rfl rfl rfl rfl G64 (kn:=.i64) (by kernel_rfl) Y0f Y7e rfl rfl ⟨.inl rfl,G⟩ (by omega) (by simp [maxLen]; omega) hn (by omega) (by omega) (by omega) rfl) O (JLm (.vec 77000002 0 1 X1.length) O (G7 (h12 ?_))))))))))))
  refine Jr fun h13=>(JLm (.vec 77000002 0 1 X1.length) O (JLm (I64 (n:Int)) O (JLh (.vsl 77000002 0 1 n (X1.length - n)) (H4e (f:=I64) (xs:=X1) rfl rfl rfl rfl G64 ⟨rfl,by omega⟩) O (JLm (LS 1 I64 [y]) O (G0 (Jf5 (f:=I64) (xs:=X1) (ys:=[y]) X2 hX2 O G64 (.inr O) O (R39 O (.inl O)) (fun _=>O)) ?_)))))
  refine G7 (h13 (G29 (l':=[(0,.vcap 1198 ver 1 xs.length c),(1,I64 (n:Int)),(2,LS 1 I64 [y]),(7,I64 ((1:Nat):Int)),(9,.vec 77000002 0 1 X2.length)]) (L':=[(77000002,.vec 3 1 0 (X2.map I64)),(1198,.vec 3 1 ver (xs.map I64))]) ⟨⟨.same rfl,.same rfl,.same rfl,.same rfl,.eq (by rw [hl2,← hl1]; rfl) rfl,G⟩,⟨⟨_,rfl,.vec⟩,⟨_,rfl,.vec⟩,G⟩,rfl⟩ (Js fun h14=>Jf [8] [0,0,0,0,0,0,0,0,0] [0,0,0,0,0,0,0,0,0] [[(77000002,.vec 3 1 0 (X2.map I64)),(1198,.vec 3 1 ver (xs.map I64))],[(77000002,.vec 3 1 0 (X3.map I64)),(77000002,.vec 3 1 0 (X2.map I64)),(1198,.vec 3 1 ver (xs.map I64))]] Y0e (by kernel_rfl) rfl rfl ?_)))
  refine Gc (u:=.vec 77000002 0 1 X2.length) O O ⟨Gt (H36 _ O O) O,G⟩ (Gc (u:=I64 (n:Int)) O O ⟨Gt (H36 _ O O) O,G⟩ (Gc (u:=I64 ((1:Nat):Int)) O O ⟨Gt (H36 _ O O) O,G⟩ (Gc (u:=I64 ((n+1:Nat):Int)) rfl rfl ⟨Gt (Ht (by rw [IntKind.wrap_i64]; omega) rfl rfl rfl) rfl,G⟩ (Gc (u:=.vsl 77000002 0 1 (n+1) (X2.length - (n+1))) rfl rfl ⟨Gt (H4e (f:=I64) (xs:=X2) rfl rfl rfl rfl G64 ⟨rfl,by omega⟩) rfl,trivial⟩ (Gc (u:=.vcap 1198 ver 1 xs.length c) O O ⟨Gt (H36 _ O O) O,G⟩ (Gc (u:=I64 (n:Int)) O O ⟨Gt (H36 _ O O) O,G⟩ (Gc (u:=.vsl 1198 ver 1 n (xs.length - n)) rfl rfl ⟨Gt (R48 rfl G64 rfl rfl rfl rfl hn (by simp) (by simp; omega)) rfl,G⟩ (D_w (u:=I64 ((min Y.length (X2.length - (n+1)):Nat):Int)) O O O O (Gt (Jf5 (f:=I64) (xs:=X2) (ys:=Y) X3 hX3 O G64 (.inr O) O (hY ▸ Rc4 O O) (fun _=>O)) O) ?_))))))))
  refine R2 (h14 (Jr fun h15=>(JLm (.vec 77000002 0 1 X2.length) O (JLm (.vec 77000002 0 1 X2.length) O (G7 (h15 (Haa 6 1 rfl rfl (by omega) (R43 (i:=1198) (ver+4) rfl (by omega) (Gq (⟨[LS 1 I64 (xs.take n++y::xs.drop n)],[(1198,.vec 3 1 (ver+4) [])],⟨⟨_,O,.vec⟩,G⟩,O,⟨⟨_,O,.conv (.eq ?_ O)⟩,G⟩,O,O⟩))))))))))
  refine congrArg (AV.list 1) (congrArg (List.map I64) ?_)
  rw [show X2.length - (n+1)=xs.length+1 - (n+1) by omega] at hX3
  rw [show X1.length - n=p by omega] at hX2
  rw [← hX3,← hX2,← hX1,hY]
  exact R2f xs n y (0:Int) hlt _ _ _ hp O O
 have hb:=Ke hb
 obtain⟨X,hX⟩:∃ X,X=xs.map I64++List.replicate ((xs.map I64).length+1 - (xs.map I64).length) (.agg (List.replicate 1 .junk)):=⟨_,rfl⟩
 have hXl:X.length=xs.length+1:=by rw [hX]; simp
 refine Gm (h10 (Jr fun h16=>(JLm (.vcap 1198 ver 1 xs.length c) O (JLm (I64 (xs.length:Int)) O (JLm (I64 ((1:Nat):Int)) O (JLh (I64 ((xs.length+1:Nat):Int)) (Ht (by rw [IntKind.wrap_i64]; omega) rfl rfl rfl) O (JLh (.vcap 1198 ver 1 (xs.length+1) c) (J8b rfl G64 rfl rfl rfl rfl (by omega)) O (Jdb 60 X (by rw [hX,Ks]) rfl rfl (by simp) (by omega) (by simp; omega) (JLm (.vsl 1198 (ver+1) 1 0 (xs.length+1)) O (G7 (h16 (Js fun h17=>?_))))))))))))
 refine Jr fun h18=>(JLm (LS 1 I64 [y]) O (JLm (.vsl 1198 (ver+1) 1 0 (xs.length+1)) O (JLm (I64 (n:Int)) O (JLm (I64 ((1:Nat):Int)) O (JLh (I64 ((n+1:Nat):Int)) (Ht (by rw [IntKind.wrap_i64]; omega) rfl rfl rfl) O (JLh (.vsl 1198 (ver+1) 1 (n+1) (xs.length+1 - (n+1))) (H2b (lo:=n+1) (hi:=xs.length+1) rfl G64 rfl rfl (.inr ⟨_,_,rfl,rfl⟩) (.inl ⟨rfl,rfl⟩) (by omega) (by omega) rfl) O (JLh (BL false) (Q6b (S:=4) rfl Tryz.func178 (by kernel_rfl) (by kernel_rfl) (by kernel_rfl) (by kernel_rfl) G64 rfl rfl rfl rfl rfl (by simp) (by omega)) O (JLh (BL true) (Q3 (b:=false) O O) O (G7 (h18 (Gj rfl (fun hb=>?_) (fun hb=>by cases hb))))))))))))
 obtain⟨Y,hY⟩:∃ Y,Y=X.take (n+1)++(((X.drop n).take (xs.length+1 - n)).take (min ((X.drop n).take (xs.length+1 - n)).length (xs.length+1 - (n+1))))++X.drop (n+1+min ((X.drop n).take (xs.length+1 - n)).length (xs.length+1 - (n+1))):=⟨_,rfl⟩
 have hYl:Y.length=xs.length+1:=by
  have hdl:((X.drop n).take (xs.length+1 - n)).length=xs.length+1 - n:=by rw [List.length_take,List.length_drop,hXl]; omega
  rw [hY,hdl,Nat.min_eq_right (by omega)]
  simp only [Ko,List.length_take,List.length_drop,hXl]
  omega
 refine G29 (l':=[(0,.vsl 1198 (ver+1) 1 0 (xs.length+1)),(1,I64 (n:Int)),(2,LS 1 I64 [y]),(7,I64 ((1:Nat):Int))]) (L':=[(1198,.vec 3 1 (ver+1) X)]) ⟨(.sm O O),⟨⟨_,rfl,.vec⟩,G⟩,rfl⟩ (Js fun h19=>Jf [8] [0,0,0,0,0,0,0,0,0] [0,0,0,0,0,0,0,0,0] [[(1198,.vec 3 1 (ver+1) X)],[(1198,.vec 3 1 (ver+1) Y),(1198,.vec 3 1 (ver+1) X)]] Y0e (by kernel_rfl) rfl rfl ?_)
 refine Gc (u:=.vsl 1198 (ver+1) 1 0 (xs.length+1)) O O ⟨Gt (H36 _ O O) O,G⟩ (Gc (u:=I64 (n:Int)) O O ⟨Gt (H36 _ O O) O,G⟩ (Gc (u:=I64 ((1:Nat):Int)) O O ⟨Gt (H36 _ O O) O,G⟩ (Gc (u:=I64 ((n+1:Nat):Int)) rfl rfl ⟨Gt (Ht (by rw [IntKind.wrap_i64]; omega) rfl rfl rfl) rfl,G⟩ (Gc (u:=.vsl 1198 (ver+1) 1 (n+1) (xs.length+1 - (n+1))) rfl rfl ⟨Gt (H2b (lo:=n+1) (hi:=xs.length+1) rfl G64 rfl rfl (.inr ⟨_,_,rfl,rfl⟩) (.inl ⟨rfl,rfl⟩) (by omega) (by omega) rfl) rfl,G⟩ (Gc (u:=.vsl 1198 (ver+1) 1 0 (xs.length+1)) O O ⟨Gt (H36 _ O O) O,G⟩ (Gc (u:=I64 (n:Int)) O O ⟨Gt (H36 _ O O) O,G⟩ (Gc (u:=.vsl 1198 (ver+1) 1 n (xs.length+1 - n)) rfl rfl ⟨Gt (H2b (lo:=n) (hi:=xs.length+1) rfl G64 rfl rfl (.inr ⟨_,_,rfl,rfl⟩) (.inl ⟨rfl,rfl⟩) (by omega) (by omega) rfl) rfl,G⟩ (D_w (u:=I64 ((min ((X.drop n).take (xs.length+1 - n)).length (xs.length+1 - (n+1)):Nat):Int)) O O O O (Gt (Rd3 (ys:=(X.drop n).take (xs.length+1 - n)) Y hY.symm O G64 ⟨O,.inr O⟩ (.inr (.inr ⟨_,_,_,_,_,_,O,O,O⟩)) (Jd5 (f:=I64) (fun _=>O) hX hlt O O)) O) ?_))))))))
 refine R2 (h19 (Jr fun h20=>(JLm (.vsl 1198 (ver+1) 1 0 (xs.length+1)) O (JLm (I64 (n:Int)) O (JLh (.vsl 1198 (ver+1) 1 n (xs.length+1 - n)) (H2b (lo:=n) (hi:=xs.length+1) rfl G64 rfl rfl (.inr ⟨_,_,rfl,rfl⟩) (.inl ⟨rfl,rfl⟩) (by omega) (by omega) rfl) O (JLm (LS 1 I64 [y]) O ?_))))))
 refine G0 (Qdf (xs:=Y) (ys:=[I64 y]) O G64 ⟨O,.inr O⟩ (.inl ⟨_,O,.inl O⟩) (fun z hz=>by
  have:=List.mem_of_mem_take hz
  rw [Kv] at this
  subst this; rfl)) ?_
 refine G7 (h20 (Jr fun h21=>(JLm (.vsl 1198 (ver+1) 1 0 (xs.length+1)) O (JLm (.vsl 1198 (ver+1) 1 0 (xs.length+1)) O (G7 (h21 (Rc9 6 O O (Haa 6 (ver+4) rfl rfl (by omega) (Gq (⟨[LS 1 I64 (xs.take n++y::xs.drop n)],[(1198,.vec 3 1 (ver+4) [])],⟨⟨_,O,.vec⟩,G⟩,O,⟨⟨_,O,.conv (.eq ?_ O)⟩,G⟩,O,O⟩))))))))))
 refine congrArg (AV.list 1) ?_
 have hlm:(xs.map I64).length=xs.length:=Ks ..
 have:=R1d (f:=id) (xs.map I64) n (I64 y) (.agg (List.replicate 1 .junk)) (by rw [hlm]; exact hlt) (xs.length+1 - n) (xs.length+1 - (n+1)) (by rw [hlm]) (by rw [hlm]) X Y hX hY
 rw [hlm] at this
 rw [List.map_append,List.map_cons,List.map_take,List.map_drop]
 exact this

def G7d (l:List Int) (n:Int) (x:Int):Option (List Int):=bif decide (0≤n)&&(decide (n≤(l.length:Int))&&decide (l.length≤100000)) then some (l.take n.toNat++x::l.drop n.toNat) else none
theorem J85 (l:List Int) (n:Int) (x:Int) (r:List Int) (h:G7d l n x=some r):Pure Tryz.prog 149 [LS 1 I64 l,I64 n,I64 x] (·=LS 1 I64 r):=by
 unfold G7d at h
 cases hc:(decide (0≤n)&&(decide (n≤(l.length:Int))&&decide (l.length≤100000))) with
 | false=>rw [hc] at h; cases h
 | true=>
  rw [hc] at h
  simp only [Kq,Kr] at hc
  obtain⟨h1,h2,h3⟩:=hc
  obtain⟨q,rfl⟩:∃ q:Nat,n=(q:Int):=⟨n.toNat,by omega⟩
  have h:=Kj h
  simp only [Int.toNat_natCast] at h
  subst h
  refine Gy [.tmp 6] Tryz.func149 O O (Jr fun h1=>(JLm (.sc (.slice none 0 0)) O (G7 (h1 (Jr fun h2=>(JLm (LS 1 I64 l) O (JLh (.vec 1198 0 1 l.length) (J27 (args:=[LS 1 I64 l]) (L0:=[]) (Lr:=[(1198,.vec 3 1 0 (l.map I64))]) rfl ((J0c l l (R38 l h3)).ver 0) (by kernel_rfl) ⟨.inl rfl,rfl,G⟩ G rfl rfl rfl) O (JLm (I64 (q:Int)) O (JLm (I64 x) O (JLh (LS 1 I64 [x]) (Ha (xs:=[I64 x]) rfl ⟨rfl,rfl,G⟩ G64 (by kernel_rfl) rfl rfl rfl rfl) O (JLh (LS 1 I64 (l.take q++x::l.drop q)) (J27 rfl (Qd1 l q x (by omega) h3 0) (by kernel_rfl) ⟨.inl rfl,rfl,.inl rfl,rfl,.inl rfl,rfl,G⟩ ⟨rfl,G⟩ rfl rfl rfl) O (JLm (LS 1 I64 (l.take q++x::l.drop q)) O (G7 (h2 (Gq (⟨[LS 1 I64 (l.take q++x::l.drop q)],[],G,O,⟨⟨_,O,.conv (.same O)⟩,G⟩,O,O⟩))))))))))))))))
def J84:=PLift.up J85

/-! ### twistlock/api.Stowed -/
theorem Qc:sliceB Tryz.prog 34 73 4=true:=by kernel_rfl
theorem J61:Zr Tryz.prog 73 4 32=true:=by kernel_rfl
theorem Qb8:(Tryz.prog.info? 73).bind (fun i=>i.zero.map Value.cells)=some ([E0,E0,E0,.int .u8 0]:List Value).toArray:=by kernel_rfl
theorem Hb0:Tryz.prog.follows .mixedOrders=true:=by kernel_rfl
theorem J81 (l:List Stowed) (h:l.length≤100000):Yd l=some l:=by
 unfold Yd
 refine J99 (fun b hb=>?_)
 cases b with
 | true=>rw [hb rfl]; rfl
 | false=>exact Zd (R6 (Kf ⟨by simp; omega,by simp [maxLen]; omega⟩) (Gk rfl))

set_option maxHeartbeats 2000000 in
theorem J58 (xs:List Stowed) (n:Nat) (y:Stowed) (hn:n≤xs.length) (hm:xs.length≤100000) (ver:Nat) :
  Ym Tryz.prog 180 [.vec 1217 ver 4 xs.length,I64 (n:Int),LS 4 Stowed.av [y]] [(1217,.vec 73 4 ver (xs.map Stowed.av))] (fun u L'=>u=LS 4 Stowed.av (xs.take n++y::xs.drop n)∧L'=[(1217,.vec 73 4 (ver+4) [])]):=by
 refine H13 [1217] [.tmp 6] Tryz.func180 O O (Qa8 O) (Jr fun h1=>(JLm (.sc (.slice none 0 0)) O (G7 (h1 (Jr fun h2=>(JLm (.vec 1217 ver 4 xs.length) O (JLm (I64 (n:Int)) O (JLh (.vsl 1217 ver 4 n (xs.length - n)) (H4e (f:=Stowed.av) (xs:=xs) O O O O Qc ⟨O,hn⟩) O (G7 (h2 (Jr fun h3=>(JLm (LS 4 Stowed.av [y]) O (JLh (I64 ((1:Nat):Int)) (Qs (f:=Stowed.av) (xs:=[y]) Qc O O) O (JLm (I64 ((1:Nat):Int)) O (G7 (h3 (Js fun h4=>Jr fun h5=>(JLm (I64 ((1:Nat):Int)) O (JLh (BL (decide (((1:Nat):Int)=0))) (Ju O O O) O (G7 (h5 (Gj O (fun hb=>?_) (fun hb=>?_)))))))))))))))))))))))
 ·exact absurd (Kd hb) (by omega)
 refine Gm (h4 (Jr fun h6=>(JLm (.vec 1217 ver 4 xs.length) O (JLh (I64 (xs.length:Int)) (Ra2 Qc O O O) O (JLm (I64 (xs.length:Int)) O (G7 (h6 (Js fun h7=>Jr fun h8=>(JLm (I64 (n:Int)) O (JLm (I64 (xs.length:Int)) O (JLh (BL (decide ((n:Int)=(xs.length:Int)))) (Ju O O O) O (G7 (h8 (Gj O (fun hb=>?_) (fun hb=>?_)))))))))))))))
 ·-- at the end
  have hb:=Kd hb
  have hnx:n=xs.length:=by omega
  refine Jr fun h9=>(JLm (.vec 1217 ver 4 xs.length) O (JLm (LS 4 Stowed.av [y]) O (JLh (.vec 1217 (ver+3) 4 (xs++[y]).length) (H11 (f:=Stowed.av) (xs:=xs) (ys:=[y]) (ver1:=ver+3) rfl rfl rfl rfl Qc J61 (Kf ⟨by rw [Kp]; omega,by rw [Kp]; simp [maxLen]; omega⟩) (fun _=>rfl) (.inl rfl) (by omega)) O (JLm (.vec 1217 (ver+3) 4 (xs++[y]).length) O (G7 (h9 (Haa 6 (ver+4) rfl rfl (by omega) (Gq (⟨[LS 4 Stowed.av (xs.take n++y::xs.drop n)],[(1217,.vec 73 4 (ver+4) [])],⟨⟨_,O,.vec⟩,G⟩,O,⟨⟨_,O,.conv (.eq ?_ O)⟩,G⟩,O,O⟩)))))))))
  refine congrArg (AV.list 4) (congrArg (List.map Stowed.av) ?_)
  rw [hnx,List.take_length,List.drop_length]
 have hb:=Ke hb
 have hlt:n < xs.length:=by omega
 refine Gm (h7 (Rca 0 O O (fun c hc1 hc2=>?_)))
 rw [Ks] at hc1
 refine G29 (l':=[(0,.vcap 1217 ver 4 xs.length c),(1,I64 (n:Int)),(2,LS 4 Stowed.av [y]),(7,I64 ((1:Nat):Int)),(8,I64 (xs.length:Int))]) (L':=[(1217,.vec 73 4 ver (xs.map Stowed.av))]) ⟨⟨.eq (by rw [show (xs.map Stowed.av).length=xs.length from Ks ..]; rfl) rfl,.same rfl,.same rfl,.same rfl,.same rfl,G⟩,⟨⟨_,rfl,.vec⟩,G⟩,rfl⟩ (Js fun h10=>Jr fun h11=>(JLm (I64 (xs.length:Int)) O (JLm (I64 ((1:Nat):Int)) O (JLh (I64 ((xs.length+1:Nat):Int)) (Ht (by rw [IntKind.wrap_i64]; omega) rfl rfl rfl) O (JLm (.vcap 1217 ver 4 xs.length c) O (JLh (I64 (c:Int)) (Qb5 O Qc O O) O (JLh (BL (decide ((c:Int) < ((xs.length+1:Nat):Int)))) (G41 O O O) O (G7 (h11 (Gj O (fun hb=>?_) (fun hb=>?_)))))))))))
 ·-- a new row
  have hb:=Kd hb
  obtain⟨p,hp⟩:∃ p,p=xs.length+1 - n:=⟨_,rfl⟩
  obtain⟨X1,hX1⟩:∃ X1,xs.take n++List.replicate p (Stowed.mk 0 (Slot.mk 0 0 0))=X1:=⟨_,rfl⟩
  have hl1:X1.length=xs.length+1:=by rw [← hX1,Ko,List.length_take,List.length_replicate]; omega
  obtain⟨X2,hX2⟩:∃ X2,overlay X1 n [y] (X1.length - n)=X2:=⟨_,rfl⟩
  have hl2:X2.length=xs.length+1:=by
   rw [← hX2]; unfold overlay
   rw [Kp,Nat.min_eq_left (by omega)]; simp; omega
  obtain⟨Y,hY⟩:∃ Y,Y=(xs.drop n).take (xs.length - n):=⟨_,rfl⟩
  obtain⟨X3,hX3⟩:∃ X3,overlay X2 (n+1) Y (X2.length - (n+1))=X3:=⟨_,rfl⟩
  refine Jr fun h12=>(JLm (.vcap 1217 ver 4 xs.length c) O (JLm (I64 (n:Int)) O (JLh (.vcap 1217 ver 4 n c) (J8b rfl Qc rfl rfl rfl rfl (by omega)) O (JLm (I64 (xs.length:Int)) O (JLm (I64 ((1:Nat):Int)) O (JLh (I64 ((xs.length+1:Nat):Int)) (Ht (by rw [IntKind.wrap_i64]; omega) rfl rfl rfl) O (JLm (I64 (n:Int)) O (JLh (I64 (p:Int)) (Ge4 (by rw [IntKind.wrap_i64]; omega) rfl rfl rfl) O (JLh (.vec 77000002 0 4 X1.length) (Q71 (f:=Stowed.av) (xs:=xs) 77000002 (Stowed.mk 0 (Slot.mk 0 0 0)) [E0,E0,E0,.int .u8 0] X1 hX1 rfl rfl rfl rfl rfl Qc (kn:=.i64) (by kernel_rfl) J61 Qb8 rfl rfl ⟨.inl rfl,.inl rfl,.inl rfl,.inl rfl,G⟩ (by omega) (by simp [maxLen]; omega) hn (by omega) (by omega) (by omega) rfl) O (JLm (.vec 77000002 0 4 X1.length) O (G7 (h12 ?_))))))))))))
  refine Jr fun h13=>(JLm (.vec 77000002 0 4 X1.length) O (JLm (I64 (n:Int)) O (JLh (.vsl 77000002 0 4 n (X1.length - n)) (H4e (f:=Stowed.av) (xs:=X1) rfl rfl rfl rfl Qc ⟨rfl,by omega⟩) O (JLm (LS 4 Stowed.av [y]) O (G0 (Jf5 (f:=Stowed.av) (xs:=X1) (ys:=[y]) X2 hX2 O Qc (.inr O) O (R39 O (.inl O)) (fun _=>O)) ?_)))))
  refine G7 (h13 (G29 (l':=[(0,.vcap 1217 ver 4 xs.length c),(1,I64 (n:Int)),(2,LS 4 Stowed.av [y]),(7,I64 ((1:Nat):Int)),(9,.vec 77000002 0 4 X2.length)]) (L':=[(77000002,.vec 73 4 0 (X2.map Stowed.av)),(1217,.vec 73 4 ver (xs.map Stowed.av))]) ⟨⟨.same rfl,.same rfl,.same rfl,.same rfl,.eq (by rw [hl2,← hl1]; rfl) rfl,G⟩,⟨⟨_,rfl,.vec⟩,⟨_,rfl,.vec⟩,G⟩,rfl⟩ (Js fun h14=>Jf [8] [0,0,0,0,0,0,0,0,0] [0,0,0,0,0,0,0,0,0] [[(77000002,.vec 73 4 0 (X2.map Stowed.av)),(1217,.vec 73 4 ver (xs.map Stowed.av))],[(77000002,.vec 73 4 0 (X3.map Stowed.av)),(77000002,.vec 73 4 0 (X2.map Stowed.av)),(1217,.vec 73 4 ver (xs.map Stowed.av))]] Hb0 (by kernel_rfl) rfl rfl ?_)))
  refine Gc (u:=.vec 77000002 0 4 X2.length) O O ⟨Gt (H36 _ O O) O,G⟩ (Gc (u:=I64 (n:Int)) O O ⟨Gt (H36 _ O O) O,G⟩ (Gc (u:=I64 ((1:Nat):Int)) O O ⟨Gt (H36 _ O O) O,G⟩ (Gc (u:=I64 ((n+1:Nat):Int)) rfl rfl ⟨Gt (Ht (by rw [IntKind.wrap_i64]; omega) rfl rfl rfl) rfl,G⟩ (Gc (u:=.vsl 77000002 0 4 (n+1) (X2.length - (n+1))) rfl rfl ⟨Gt (H4e (f:=Stowed.av) (xs:=X2) rfl rfl rfl rfl Qc ⟨rfl,by omega⟩) rfl,trivial⟩ (Gc (u:=.vcap 1217 ver 4 xs.length c) O O ⟨Gt (H36 _ O O) O,G⟩ (Gc (u:=I64 (n:Int)) O O ⟨Gt (H36 _ O O) O,G⟩ (Gc (u:=.vsl 1217 ver 4 n (xs.length - n)) rfl rfl ⟨Gt (R48 rfl Qc rfl rfl rfl rfl hn (by simp) (by simp; omega)) rfl,G⟩ (D_w (u:=I64 ((min Y.length (X2.length - (n+1)):Nat):Int)) O O O O (Gt (Jf5 (f:=Stowed.av) (xs:=X2) (ys:=Y) X3 hX3 O Qc (.inr O) O (hY ▸ Rc4 O O) (fun _=>O)) O) ?_))))))))
  refine R2 (h14 (Jr fun h15=>(JLm (.vec 77000002 0 4 X2.length) O (JLm (.vec 77000002 0 4 X2.length) O (G7 (h15 (Haa 6 1 rfl rfl (by omega) (R43 (i:=1217) (ver+4) rfl (by omega) (Gq (⟨[LS 4 Stowed.av (xs.take n++y::xs.drop n)],[(1217,.vec 73 4 (ver+4) [])],⟨⟨_,O,.vec⟩,G⟩,O,⟨⟨_,O,.conv (.eq ?_ O)⟩,G⟩,O,O⟩))))))))))
  refine congrArg (AV.list 4) (congrArg (List.map Stowed.av) ?_)
  rw [show X2.length - (n+1)=xs.length+1 - (n+1) by omega] at hX3
  rw [show X1.length - n=p by omega] at hX2
  rw [← hX3,← hX2,← hX1,hY]
  exact R2f xs n y (Stowed.mk 0 (Slot.mk 0 0 0)) hlt _ _ _ hp O O
 have hb:=Ke hb
 obtain⟨X,hX⟩:∃ X,X=xs.map Stowed.av++List.replicate ((xs.map Stowed.av).length+1 - (xs.map Stowed.av).length) (.agg (List.replicate 4 .junk)):=⟨_,rfl⟩
 have hXl:X.length=xs.length+1:=by rw [hX]; simp
 refine Gm (h10 (Jr fun h16=>(JLm (.vcap 1217 ver 4 xs.length c) O (JLm (I64 (xs.length:Int)) O (JLm (I64 ((1:Nat):Int)) O (JLh (I64 ((xs.length+1:Nat):Int)) (Ht (by rw [IntKind.wrap_i64]; omega) rfl rfl rfl) O (JLh (.vcap 1217 ver 4 (xs.length+1) c) (J8b rfl Qc rfl rfl rfl rfl (by omega)) O (Jdb 60 X (by rw [hX,Ks]) rfl rfl (by simp) (by omega) (by simp; omega) (JLm (.vsl 1217 (ver+1) 4 0 (xs.length+1)) O (G7 (h16 (Js fun h17=>?_))))))))))))
 refine Jr fun h18=>(JLm (LS 4 Stowed.av [y]) O (JLm (.vsl 1217 (ver+1) 4 0 (xs.length+1)) O (JLm (I64 (n:Int)) O (JLm (I64 ((1:Nat):Int)) O (JLh (I64 ((n+1:Nat):Int)) (Ht (by rw [IntKind.wrap_i64]; omega) rfl rfl rfl) O (JLh (.vsl 1217 (ver+1) 4 (n+1) (xs.length+1 - (n+1))) (H2b (lo:=n+1) (hi:=xs.length+1) rfl Qc rfl rfl (.inr ⟨_,_,rfl,rfl⟩) (.inl ⟨rfl,rfl⟩) (by omega) (by omega) rfl) O (JLh (BL false) (Q6b (S:=4) rfl Tryz.func183 (by kernel_rfl) (by kernel_rfl) (by kernel_rfl) (by kernel_rfl) Qc rfl rfl rfl rfl rfl (by simp) (by omega)) O (JLh (BL true) (Q3 (b:=false) O O) O (G7 (h18 (Gj rfl (fun hb=>?_) (fun hb=>by cases hb))))))))))))
 obtain⟨Y,hY⟩:∃ Y,Y=X.take (n+1)++(((X.drop n).take (xs.length+1 - n)).take (min ((X.drop n).take (xs.length+1 - n)).length (xs.length+1 - (n+1))))++X.drop (n+1+min ((X.drop n).take (xs.length+1 - n)).length (xs.length+1 - (n+1))):=⟨_,rfl⟩
 have hYl:Y.length=xs.length+1:=by
  have hdl:((X.drop n).take (xs.length+1 - n)).length=xs.length+1 - n:=by rw [List.length_take,List.length_drop,hXl]; omega
  rw [hY,hdl,Nat.min_eq_right (by omega)]
  simp only [Ko,List.length_take,List.length_drop,hXl]
  omega
 refine G29 (l':=[(0,.vsl 1217 (ver+1) 4 0 (xs.length+1)),(1,I64 (n:Int)),(2,LS 4 Stowed.av [y]),(7,I64 ((1:Nat):Int))]) (L':=[(1217,.vec 73 4 (ver+1) X)]) ⟨(.sm O O),⟨⟨_,rfl,.vec⟩,G⟩,rfl⟩ (Js fun h19=>Jf [8] [0,0,0,0,0,0,0,0,0] [0,0,0,0,0,0,0,0,0] [[(1217,.vec 73 4 (ver+1) X)],[(1217,.vec 73 4 (ver+1) Y),(1217,.vec 73 4 (ver+1) X)]] Hb0 (by kernel_rfl) rfl rfl ?_)
 refine Gc (u:=.vsl 1217 (ver+1) 4 0 (xs.length+1)) O O ⟨Gt (H36 _ O O) O,G⟩ (Gc (u:=I64 (n:Int)) O O ⟨Gt (H36 _ O O) O,G⟩ (Gc (u:=I64 ((1:Nat):Int)) O O ⟨Gt (H36 _ O O) O,G⟩ (Gc (u:=I64 ((n+1:Nat):Int)) rfl rfl ⟨Gt (Ht (by rw [IntKind.wrap_i64]; omega) rfl rfl rfl) rfl,G⟩ (Gc (u:=.vsl 1217 (ver+1) 4 (n+1) (xs.length+1 - (n+1))) rfl rfl ⟨Gt (H2b (lo:=n+1) (hi:=xs.length+1) rfl Qc rfl rfl (.inr ⟨_,_,rfl,rfl⟩) (.inl ⟨rfl,rfl⟩) (by omega) (by omega) rfl) rfl,G⟩ (Gc (u:=.vsl 1217 (ver+1) 4 0 (xs.length+1)) O O ⟨Gt (H36 _ O O) O,G⟩ (Gc (u:=I64 (n:Int)) O O ⟨Gt (H36 _ O O) O,G⟩ (Gc (u:=.vsl 1217 (ver+1) 4 n (xs.length+1 - n)) rfl rfl ⟨Gt (H2b (lo:=n) (hi:=xs.length+1) rfl Qc rfl rfl (.inr ⟨_,_,rfl,rfl⟩) (.inl ⟨rfl,rfl⟩) (by omega) (by omega) rfl) rfl,G⟩ (D_w (u:=I64 ((min ((X.drop n).take (xs.length+1 - n)).length (xs.length+1 - (n+1)):Nat):Int)) O O O O (Gt (Rd3 (ys:=(X.drop n).take (xs.length+1 - n)) Y hY.symm O Qc ⟨O,.inr O⟩ (.inr (.inr ⟨_,_,_,_,_,_,O,O,O⟩)) (Jd5 (f:=Stowed.av) (fun _=>O) hX hlt O O)) O) ?_))))))))
 refine R2 (h19 (Jr fun h20=>(JLm (.vsl 1217 (ver+1) 4 0 (xs.length+1)) O (JLm (I64 (n:Int)) O (JLh (.vsl 1217 (ver+1) 4 n (xs.length+1 - n)) (H2b (lo:=n) (hi:=xs.length+1) rfl Qc rfl rfl (.inr ⟨_,_,rfl,rfl⟩) (.inl ⟨rfl,rfl⟩) (by omega) (by omega) rfl) O (JLm (LS 4 Stowed.av [y]) O ?_))))))
 refine G0 (Qdf (xs:=Y) (ys:=[Stowed.av y]) O Qc ⟨O,.inr O⟩ (.inl ⟨_,O,.inl O⟩) (fun z hz=>by
  have:=List.mem_of_mem_take hz
  rw [Kv] at this
  subst this; rfl)) ?_
 refine G7 (h20 (Jr fun h21=>(JLm (.vsl 1217 (ver+1) 4 0 (xs.length+1)) O (JLm (.vsl 1217 (ver+1) 4 0 (xs.length+1)) O (G7 (h21 (Rc9 6 O O (Haa 6 (ver+4) rfl rfl (by omega) (Gq (⟨[LS 4 Stowed.av (xs.take n++y::xs.drop n)],[(1217,.vec 73 4 (ver+4) [])],⟨⟨_,O,.vec⟩,G⟩,O,⟨⟨_,O,.conv (.eq ?_ O)⟩,G⟩,O,O⟩))))))))))
 refine congrArg (AV.list 4) ?_
 have hlm:(xs.map Stowed.av).length=xs.length:=Ks ..
 have:=R1d (f:=id) (xs.map Stowed.av) n (Stowed.av y) (.agg (List.replicate 4 .junk)) (by rw [hlm]; exact hlt) (xs.length+1 - n) (xs.length+1 - (n+1)) (by rw [hlm]) (by rw [hlm]) X Y hX hY
 rw [hlm] at this
 rw [List.map_append,List.map_cons,List.map_take,List.map_drop]
 exact this

def Zh (l:List Stowed) (n:Int) (x:Stowed):Option (List Stowed):=bif decide (0≤n)&&(decide (n≤(l.length:Int))&&decide (l.length≤100000)) then some (l.take n.toNat++x::l.drop n.toNat) else none
theorem J62:Gff Tryz.prog 73 4=true:=by kernel_rfl
theorem Ha5 (l:List Stowed) (n:Int) (x:Stowed) (r:List Stowed) (h:Zh l n x=some r):Pure Tryz.prog 174 [LS 4 Stowed.av l,I64 n,.agg (Stowed.cs x)] (·=LS 4 Stowed.av r):=by
 unfold Zh at h
 cases hc:(decide (0≤n)&&(decide (n≤(l.length:Int))&&decide (l.length≤100000))) with
 | false=>rw [hc] at h; cases h
 | true=>
  rw [hc] at h
  simp only [Kq,Kr] at hc
  obtain⟨h1,h2,h3⟩:=hc
  obtain⟨q,rfl⟩:∃ q:Nat,n=(q:Int):=⟨n.toNat,by omega⟩
  have h:=Kj h
  simp only [Int.toNat_natCast] at h
  subst h
  refine Gy [.tmp 6] Tryz.func174 O O (Jr fun h1=>(JLh (.ptr 77000003 0) (J7 (cs:=Stowed.cs x) 77000003 O O O O O) O (JLm (.sc (.slice none 0 0)) O (G7 (h1 (Gr [(0,LS 4 Stowed.av l),(1,I64 (q:Int)),(5,.dptr (Stowed.cs x))] [] 77000003 rfl rfl rfl G rfl (by exact⟨.conv (.same rfl),.conv (.same rfl),.ptr,G⟩) (Js fun h2=>Jf [1,5] [0,0,0,0,0,0,2] [0,0,1,1,1,0,2] [[],[(1217,.vec 73 4 0 (l.map Stowed.av))],[(1217,.vec 73 4 4 [])]] Hb0 (by kernel_rfl) rfl rfl ?_)))))))
  refine Gc (u:=LS 4 Stowed.av l) O O ⟨Gt (H36 _ O O) O,G⟩ (D_w (u:=.vec 1217 0 4 l.length) rfl rfl rfl rfl (Gt (J27 (args:=[LS 4 Stowed.av l]) (L0:=[]) (Lr:=[(1217,.vec 73 4 0 (l.map Stowed.av))]) rfl ((H72 l l (J81 l h3)).ver 0) (by kernel_rfl) ⟨.inl rfl,rfl,G⟩ G rfl rfl rfl) rfl) (Gc (u:=I64 (q:Int)) O O ⟨Gt (H36 _ O O) O,Gt (H36 _ O O) O,G⟩ (Gc (u:=.agg (Stowed.cs x)) O O ⟨Gt (Gg J62 O O O) O,Gt (Gg J62 O O O) O,G⟩ (Gc (u:=LS 4 Stowed.av [x]) rfl rfl ⟨Gt (Ha (xs:=[Stowed.av x]) rfl ⟨rfl,rfl,G⟩ Qc (by kernel_rfl) rfl rfl rfl rfl) rfl,Gt (Ha (xs:=[Stowed.av x]) rfl ⟨rfl,rfl,G⟩ Qc (by kernel_rfl) rfl rfl rfl rfl) rfl,G⟩ (D_w (u:=LS 4 Stowed.av (l.take q++x::l.drop q)) rfl rfl rfl rfl (Gt (J27 (args:=[.vec 1217 0 4 l.length,I64 (q:Int),LS 4 Stowed.av [x]]) rfl (J58 l q x (by omega) h3 0) (by kernel_rfl) ⟨.inl rfl,rfl,.inl rfl,rfl,.inl rfl,rfl,G⟩ ⟨rfl,G⟩ rfl rfl rfl) rfl) (Gc (u:=LS 4 Stowed.av (l.take q++x::l.drop q)) O O ⟨Gt (H36 _ O O) O,G⟩ ?_))))))
  refine R2 (h2 (Gq (⟨[LS 4 Stowed.av (l.take q++x::l.drop q)],[],G,O,⟨⟨_,O,.conv (.same O)⟩,G⟩,O,O⟩)))
def Ha4:=PLift.up Ha5
end Go.Proofs.YthcpolfodgjekaaGreat
