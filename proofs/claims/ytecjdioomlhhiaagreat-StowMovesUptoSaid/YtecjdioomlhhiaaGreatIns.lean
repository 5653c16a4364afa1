/-
 What slices.Insert and slices.Delete do to a slice of the call's own: its capacity,parts beyond its length,growing by an append to a part,giving it away.
-/
import Derived.Test.YtecjdioomlhhiaaGreatLent
import Derived.Lib.Overlaps
import Derived.Lib.AppendZerosOnto
namespace Go.Proofs.YtecjdioomlhhiaaGreat
open Go.RowKit

theorem H2e {P:Program} {T E k:Nat} (hT:sliceB P T E k=true) (a:Option Addr) (len cap m n:Nat) (lo hi:Option Value) (w:World) (hmn:m≤n) (hn:n≤cap)
  (hlo:(lo=none∧m=0)∨∃ kd,lo=some (.int kd m)) (hhi:(hi=none∧n=len)∨∃ kd,hi=some (.int kd n)) :
  (Instr.sliceAt T (.slice a len cap) lo hi none).run P w=.ok (.slice (if cap=m then a else a.map (·.add (m*k))) (n - m) (cap - m)) w:=by
 obtain⟨h1,h2⟩:=sliceB.out hT
 have h3:=Qr h2 w
 have hb:∀ (kd:IntKind) (i:Nat) (y:Nat) (c:BoundsCode),i≤y→(Instr.sliceBound (.int kd (i:Int)) y c).run P w=.ok i w:=fun kd i y c hi=>by
  have:(0:Int)≤i∧(i:Int)≤y:=⟨by omega,by omega⟩
  simp [Instr.sliceBound,asIntOf,this]
 have hs:(Instr.sliceBounds true len cap lo hi none).run P w=.ok (m,n,cap) w:=by
  rcases hlo with ⟨rfl,rfl⟩ | ⟨kd,rfl⟩ <;> rcases hhi with ⟨rfl,rfl⟩ | ⟨kd',rfl⟩
  ·simp [Instr.sliceBounds]
  ·simp [Instr.sliceBounds,hb _ n cap _ (by omega)]
  ·simp [Instr.sliceBounds,hb _ m n _ hmn]
  ·simp [Instr.sliceBounds,hb _ m n _ hmn,hb _ n cap _ (by omega)]
 simp [Instr.sliceAt,Instr.slice,run_underlying h1,hs,h3]
theorem R32 {P:Program} {T E k:Nat} (hT:sliceB P T E k=true) (a:Option Addr) (len cap m n x:Nat) (k1 k2 k3:IntKind) (w:World) (hmn:m≤n) (hn:n≤x) (hx:x≤cap) :
  ∃ v,(Instr.sliceAt T (.slice a len cap) (some (.int k1 m)) (some (.int k2 n)) (some (.int k3 x))).run P w=.ok v w:=by
 obtain⟨h1,h2⟩:=sliceB.out hT
 have h3:=Qr h2 w
 have hb:∀ (kd:IntKind) (i:Nat) (y:Nat) (c:BoundsCode),i≤y→(Instr.sliceBound (.int kd (i:Int)) y c).run P w=.ok i w:=fun kd i y c hi=>by
  have:(0:Int)≤i∧(i:Int)≤y:=⟨by omega,by omega⟩
  simp [Instr.sliceBound,asIntOf,this]
 have hs:(Instr.sliceBounds true len cap (some (.int k1 m)) (some (.int k2 n)) (some (.int k3 x))).run P w=.ok (m,n,x) w:=by
  simp [Instr.sliceBounds,hb _ m n _ hmn,hb _ n x _ hn,hb _ x cap _ hx]
 exact⟨_,by simp [Instr.sliceAt,Instr.slice,run_underlying h1,hs,h3]; rfl⟩

theorem V.inv_vcap {w:World} {β:H5} {L:Loc} {i ver k k' n c t:Nat} {xs:List AV} {x:Value} (hi:lk L i=some (.vec t k' ver xs)) (h:V w β L (.vcap i ver k n c) x):Q1f w (β.at_ i) t k n c x:=by
 cases h with
 | data h=>cases h
 | vcap hp _=>
  obtain⟨t',ver',xs',h1,_,h3⟩:=hp
  rw [hi] at h1; cases h1
  exact h3 rfl
theorem Q1f.one {w:World} {ob:Option Nat} {t k n c:Nat} {v:Value} (h:Q1f w ob t k n c v):v.oneCell'=true:=by
 rcases h with ⟨rfl,_⟩ | ⟨b,rfl,_⟩ <;> rfl

section state
variable {N:Cfg} {l:Fr} {L:Loc} {w0 w:World} {β0 β:H5} {L0:Loc} {a:Act}
theorem Q3.over {s:Nat} {u:AV} (h:Q3 a w β L l) (hv:V w β L u (a.tmps.getD s undef)):Q3 a w β L ((s,u)::l):=⟨fun t=>by
 rw [look]
 cases hb:Nat.beq s t with
 | true=>have:=Nat.eq_of_beq_eq_true hb; subst this; exact hv
 | false=>exact h.tmp t⟩
theorem Yt.vcap (hs:Yt N w0 β0 L0 a w β l L) {s i ver k n t:Nat} {xs:List AV} (h1:look l s=.vec i ver k n) (hi:lk L i=some (.vec t k ver xs)):∃ c,xs.length≤c∧c≤maxLen∧Yt N w0 β0 L0 a w β ((s,.vcap i ver k xs.length c)::l) L:=by
 have hv:=hs.frame.tmp s
 rw [h1] at hv
 obtain⟨rfl,_,h⟩:=Gb8 hs.sat hi hv
 suffices hsuf:∃ c,xs.length≤c∧c≤maxLen∧Q1f w (β.at_ i) t k xs.length c (a.tmps.getD s undef) from by
  obtain⟨c,c1,c2,c3⟩:=hsuf
  exact⟨c,c1,c2,hs.sat,hs.step,hs.frame.over (.vcap ⟨t,ver,xs,hi,Nat.le_refl _,fun _=>c3⟩ c3.one),hs.size,hs.base,hs.defers⟩
 rcases h with ⟨e1,rfl,e3⟩ | ⟨b,cap,vs,e1,e2,e3,e4,e5,e6,_⟩
 ·exact⟨0,Nat.le_refl _,Nat.zero_le _,.inl ⟨e1,rfl,rfl,e3⟩⟩
 ·exact⟨cap,e3,e4,.inr ⟨b,e1,e2,e3,e4,by simp [World.shape?,e5,e6]⟩⟩

theorem R42 {k:Nat} (xs:List AV) (q:Nat) {j:Nat} {u:AV} (hj:(flat xs).length≤j) (hu:(flat (xs++List.replicate q (.agg (List.replicate k .junk))))[j]? = some u):u=.junk:=by
 rw [G52,List.getElem?_append_right hj] at hu
 have key:∀ (q:Nat) (j:Nat),(flat (List.replicate q (AV.agg (List.replicate k .junk))))[j]? = some u→u=.junk:=by
  intro q
  induction q with
  | zero=>intro j h; simp [flat] at h
  | succ q ih=>
   intro j h
   rw [List.replicate_succ,flat] at h
   rcases Nat.lt_or_ge j (AV.cells (.agg (List.replicate k .junk))).length with hj | hj
   ·rw [List.getElem?_append_left hj] at h
    exact List.eq_of_mem_replicate (List.mem_of_getElem? h)
   ·rw [List.getElem?_append_right hj] at h
    exact ih _ h
 exact key q _ hu
theorem Yt.vcapExt (hs:Yt N w0 β0 L0 a w β l L) {s i ver k m c t:Nat} {xs:List AV} (h1:look l s=.vcap i ver k m c) (hi:lk L i=some (.vec t k ver xs)) (hm:xs.length≤m) (hmc:m≤c) (h0:0 < xs.length) :
  ∃ β',Yt N w0 β0 L0 a w β' ((s,.vsl i (ver+1) k 0 m)::l) ((i,.vec t k (ver+1) (xs++List.replicate (m - xs.length) (.agg (List.replicate k .junk))))::L):=by
 have hv:=hs.frame.tmp s
 rw [h1] at hv
 have hc:=hv.inv_vcap hi
 obtain⟨o1,o2⟩:=hs.sat.obj i _ hi
 rcases hc with ⟨_,_,rfl,_⟩ | ⟨b,e1,e2,e3,e4,e5⟩
 ·omega
 ·rcases o2 with ⟨o2,_⟩ | ⟨b',o2,vs,o3,o4,o5⟩
  ·rw [show β i=β.at_ i from rfl,e2] at o2; cases o2
  ·rw [show β i=β.at_ i from rfl,e2] at o2; cases o2
   have hsz:vs.size=c*k:=by simpa [World.shape?,o3] using e5
   have hlen:(xs++List.replicate (m - xs.length) (AV.agg (List.replicate k .junk))).length=m:=by simp; omega
   obtain⟨st,sat⟩:=Z6 (w':=w) (t:=t) (k:=k) (ver1:=ver+1) (xs':=xs++List.replicate (m - xs.length) (.agg (List.replicate k .junk))) (ob':=β.at_ i) hs.sat (.inr ⟨ver,xs,hi,by omega,fun e=>by omega⟩) rfl rfl ⟨rfl,Nat.le_refl _⟩ (Nat.le_refl _) (fun _ _ _=>rfl) (.inr (.inl ⟨by rw [inL,hi]; rfl,rfl⟩))
   have hk:∀ y∈xs++List.replicate (m - xs.length) (AV.agg (List.replicate k .junk)),y.cells.length=k:=fun y hy=>by
    rcases List.mem_append.1 hy with h | h
    ·exact o1 y h
    ·rw [List.eq_of_mem_replicate h]; simp [AV.cells]
   have sat':=sat ⟨hk,.inr ⟨b,e2,vs,o3,by rw [hlen,hsz]; exact Nat.mul_le_mul_right _ hmc,fun j u v hu hv=>?_⟩⟩
   ·refine⟨_,sat',hs.step.trans st,(hs.frame.step st).over (.vsl ⟨t,ver+1,_,by rw [Gr,if_pos rfl],Nat.le_refl _,fun _=>⟨by rw [hlen]; omega,⟨_,c,e1,hmc,e4,.inr ⟨b,by simp [upP,e2],by simp⟩⟩,fun _=>.inr ⟨b,c,e1,by simp [upP,e2],hmc,e4,e5⟩⟩⟩ (by rw [e1]; rfl)),hs.size,hs.base,hs.defers.step st⟩
   ·rcases Nat.lt_or_ge j (flat xs).length with hj | hj
    ·rw [G52,List.getElem?_append_left hj] at hu
     exact(o5 j u v hu hv).mono st.stab
    ·rw [R42 xs _ hj hu]; exact .junk
theorem Yt.vcut (hs:Yt N w0 β0 L0 a w β l L) {s i ver k m t:Nat} {xs:List AV} (h1:look l s=.vsl i ver k 0 m) (hi:lk L i=some (.vec t k ver xs)) :
  ∃ β',Yt N w0 β0 L0 a w β' ((s,.vec i (ver+1) k m)::l) ((i,.vec t k (ver+1) (xs.take m))::L):=by
 have hv:=hs.frame.tmp s
 rw [h1] at hv
 have hc:=hv.inv_vsl0 hi
 obtain⟨_,hm,_⟩:=hv.inv_vsl hi
 rw [Nat.zero_add] at hm
 obtain⟨o1,o2⟩:=hs.sat.obj i _ hi
 have hlen:(xs.take m).length=m:=by rw [List.length_take]; omega
 have hk:∀ y∈xs.take m,y.cells.length=k:=fun y hy=>o1 y (List.mem_of_mem_take hy)
 obtain⟨st,sat⟩:=Z6 (w':=w) (t:=t) (k:=k) (ver1:=ver+1) (xs':=xs.take m) (ob':=β.at_ i) hs.sat (.inr ⟨ver,xs,hi,by omega,fun e=>by omega⟩) rfl rfl ⟨rfl,Nat.le_refl _⟩ (Nat.le_refl _) (fun _ _ _=>rfl) (.inr (.inl ⟨by rw [inL,hi]; rfl,rfl⟩))
 have hone:(a.tmps.getD s undef).oneCell'=true:=by
  rcases hc with ⟨e,_⟩ | ⟨b,cap,e,_⟩ <;> rw [e] <;> rfl
 have sat':=sat ⟨hk,?_⟩
 ·refine⟨_,sat',hs.step.trans st,(hs.frame.step st).over (.vec ⟨t,ver+1,_,by rw [Gr,if_pos rfl],Nat.le_refl _,fun _=>⟨hlen.symm,?_⟩⟩ hone),hs.size,hs.base,hs.defers.step st⟩
  rcases hc with ⟨e1,e2,e3⟩ | ⟨b,cap,e1,e2,e3,e4,e5⟩
  ·exact .inl ⟨e1,e2,by simpa [upP] using e3⟩
  ·exact .inr ⟨b,cap,e1,by simpa [upP] using e2,e3,e4,e5⟩
 ·rcases o2 with ⟨o2,rfl⟩ | ⟨b',o2,vs,o3,o4,o5⟩
  ·exact .inl ⟨o2,by simp⟩
  ·refine .inr ⟨b',o2,vs,o3,Nat.le_trans (Nat.mul_le_mul_right _ (by rw [hlen]; exact hm)) o4,fun j u v hu hv=>?_⟩
   rw [G73 o1] at hu
   have hj:=(List.getElem?_eq_some_iff.1 hu).1
   rw [List.length_take] at hj
   rw [List.getElem?_take,if_pos (by omega)] at hu
   exact(o5 j u v hu hv).mono st.stab
end state

section ghosts
variable {P:Program} {N:Cfg} {Q:Post} {l:Fr} {L:Loc} {ops:Array Oper} {rest:List Oper} {c:Code}
theorem R74 (s:Nat) {i ver k n t:Nat} {xs:List AV} (h1:look l s=.vec i ver k n) (hi:lk L i=some (.vec t k ver xs)) (hk:∀ q,xs.length≤q→q≤maxLen→JC P N c Q ((s,.vcap i ver k xs.length q)::l) L):JC P N c Q l L:=
 fun n w0 β0 L0 a w β hs=>by
  obtain⟨q,q1,q2,q3⟩:=hs.vcap h1 hi
  exact hk q q1 q2 n w0 β0 L0 a w β q3
theorem R49 (s:Nat) {i ver k m q t:Nat} {xs:List AV} (h1:look l s=.vcap i ver k m q) (hi:lk L i=some (.vec t k ver xs)) (hm:xs.length≤m) (hmc:m≤q) (h0:0 < xs.length)
  (hk:JL P N ops rest Q ((s,.vsl i (ver+1) k 0 m)::l) ((i,.vec t k (ver+1) (xs++List.replicate (m - xs.length) (.agg (List.replicate k .junk))))::L)):JL P N ops rest Q l L:=
 fun n w0 β0 L0 a w β hs=>by
  obtain⟨β',h⟩:=hs.vcapExt h1 hi hm hmc h0
  exact hk n w0 β0 L0 a w β' h
theorem J9a (s:Nat) {i ver k m q t:Nat} {xs:List AV} (X:List AV) (hX:xs++List.replicate (m - xs.length) (.agg (List.replicate k .junk))=X) (h1:look l s=.vcap i ver k m q) (hi:lk L i=some (.vec t k ver xs)) (hm:xs.length≤m) (hmc:m≤q) (h0:0 < xs.length)
  (hk:JL P N ops rest Q ((s,.vsl i (ver+1) k 0 m)::l) ((i,.vec t k (ver+1) X)::L)):JL P N ops rest Q l L:=by
 subst hX
 exact R49 s h1 hi hm hmc h0 hk
theorem Jb7 (s:Nat) {i ver k m t:Nat} {xs:List AV} (h1:look l s=.vsl i ver k 0 m) (hi:lk L i=some (.vec t k ver xs)) (hk:JC P N c Q ((s,.vec i (ver+1) k m)::l) ((i,.vec t k (ver+1) (xs.take m))::L)):JC P N c Q l L:=
 fun n w0 β0 L0 a w β hs=>by
  obtain⟨β',h⟩:=hs.vcut h1 hi
  exact hk n w0 β0 L0 a w β' h
end ghosts

section ops
variable {P:Program} {N:Cfg} {o:Oper} {l:Fr} {L:Loc} {u:AV}
theorem Q6c {x p q r:Operand} {T E k i ver n lo hi mx:Nat} {k1 k2 k3:IntKind} {z1 z2 z3:Int} {xs:List AV} (ho:o.op=.slice T x (some p) (some q) (some r)) (hT:sliceB P T E k=true) (hx:ev l x=.vec i ver k n) (hL:lk L i=some (.vec E k ver xs))
  (hp:ev l p=.sc (.int k1 z1)) (hq:ev l q=.sc (.int k2 z2)) (hr:ev l r=.sc (.int k3 z3)) (e1:z1=(lo:Int)) (e2:z2=(hi:Int)) (e3:z3=(mx:Int)) (h1:lo≤hi) (h2:hi≤mx) (h3:mx≤xs.length):H1 P o l L (Is .junk L):=
 Hq fun a w β hsat hf=>by
  subst e1 e2 e3
  have hv:=hf.ev x
  rw [hx] at hv
  have v1:=hf.ev p; rw [hp] at v1
  have v2:=hf.ev q; rw [hq] at v2
  have v3:=hf.ev r; rw [hr] at v3
  obtain⟨rfl,a',cap,he,hc1,hc2,hc3⟩:=J37 hsat hL hv
  obtain⟨v,hrun⟩:=R32 (P:=P) hT a' xs.length cap lo hi mx k1 k2 k3 w h1 h2 (by omega)
  refine⟨v,?_,.junk⟩
  simp only [execOp,ho,he,Sem.run_bind,Option.map_some,v1.inv_sc,v2.inv_sc,v3.inv_sc]
  rw [hrun]
  rfl
theorem Q6b {x:Operand} {T E k i ver n c:Nat} {xs:List AV} (ho:o.op=.call { callee:=.builtin .cap,args:=#[x],argTypes:=#[T] }) (hT:sliceB P T E k=true) (hx:ev l x=.vcap i ver k n c) (hL:lk L i=some (.vec E k ver xs)):H1 P o l L (Is (I64 (c:Int)) L):=
 Hq fun a w β hsat hf=>by
  have hv:=hf.ev x
  rw [hx] at hv
  refine⟨.int .i64 c,?_,.sc⟩
  rcases hv.inv_vcap hL with ⟨e1,_,e2,_⟩ | ⟨b,e1,_⟩
  ·subst e2
   simp [execOp,ho,resolve,invoke,builtin,Builtin.cap_,underlying,(sliceB.out hT).1,e1,goInt]
  ·simp [execOp,ho,resolve,invoke,builtin,Builtin.cap_,underlying,(sliceB.out hT).1,e1,goInt]
theorem J5a {x p:Operand} {T E k i ver n c m:Nat} {kd:IntKind} {z:Int} {xs:List AV} (ho:o.op=.slice T x none (some p) none) (hT:sliceB P T E k=true) (hx:ev l x=.vcap i ver k n c) (hL:lk L i=some (.vec E k ver xs)) (hp:ev l p=.sc (.int kd z)) (hz:z=(m:Int)) (hm:m≤c) :
  H1 P o l L (Is (.vcap i ver k m c) L):=
 Hq fun a w β hsat hf=>by
  subst hz
  have hv:=hf.ev x
  rw [hx] at hv
  have v1:=hf.ev p; rw [hp] at v1
  rcases hv.inv_vcap hL with ⟨e1,e2,e3,e4⟩ | ⟨b,e1,e2,e3,e4,e5⟩
  ·have:m=0:=by omega
   subst this
   refine⟨.slice none 0 0,?_,.vcap ⟨E,ver,xs,hL,Nat.le_refl _,fun _=>.inl ⟨rfl,rfl,e3,e4⟩⟩ rfl⟩
   simp only [execOp,ho,e1,Sem.run_bind,Option.map_none,Option.map_some,v1.inv_sc]
   rw [H2e hT none 0 0 0 0 _ _ w (Nat.le_refl _) (Nat.le_refl _) (.inl ⟨rfl,rfl⟩) (.inr ⟨kd,rfl⟩)]
   rfl
  ·refine⟨.slice (some ⟨b,0,none⟩) m c,?_,.vcap ⟨E,ver,xs,hL,Nat.le_refl _,fun _=>.inr ⟨b,rfl,e2,hm,e4,e5⟩⟩ rfl⟩
   simp only [execOp,ho,e1,Sem.run_bind,Option.map_none,Option.map_some,v1.inv_sc]
   rw [H2e hT (some ⟨b,0,none⟩) n c 0 m _ _ w (Nat.zero_le _) hm (.inl ⟨rfl,rfl⟩) (.inr ⟨kd,rfl⟩)]
   simp [Addr.add_lit]
theorem Qf7 {x p:Operand} {T E k i ver n c m:Nat} {kd:IntKind} {z:Int} {xs:List AV} (ho:o.op=.slice T x (some p) none none) (hT:sliceB P T E k=true) (hx:ev l x=.vcap i ver k n c) (hL:lk L i=some (.vec E k ver xs)) (hp:ev l p=.sc (.int kd z)) (hz:z=(m:Int)) (hm:m≤n) (hn:n≤xs.length) (h0:0 < xs.length) :
  H1 P o l L (Is (.vsl i ver k m (n - m)) L):=
 Hq fun a w β hsat hf=>by
  subst hz
  have hv:=hf.ev x
  rw [hx] at hv
  have v1:=hf.ev p; rw [hp] at v1
  rcases hv.inv_vcap hL with ⟨e1,e2,e3,e4⟩ | ⟨b,e1,e2,e3,e4,e5⟩
  ·obtain⟨_,o2⟩:=hsat.obj i _ hL
   rcases o2 with ⟨_,o2⟩ | ⟨b',o2,_⟩
   ·subst o2; simp at h0
   ·rw [show β i=β.at_ i from rfl,e4] at o2; cases o2
  ·refine⟨.slice (if c=m then some ⟨b,0,none⟩ else (some ⟨b,0,none⟩:Option Addr).map (·.add (m*k))) (n - m) (c - m),?_,.vsl ⟨E,ver,xs,hL,Nat.le_refl _,fun _=>⟨by omega,⟨_,_,rfl,by omega,by omega,?_⟩,fun h=>?_⟩⟩ rfl⟩
   ·simp only [execOp,ho,e1,Sem.run_bind,Option.map_none,Option.map_some,v1.inv_sc]
    rw [H2e hT (some ⟨b,0,none⟩) n c m n _ _ w hm e3 (.inr ⟨kd,rfl⟩) (.inl ⟨rfl,rfl⟩)]
    rfl
   ·by_cases h:n - m=0
    ·exact .inl h
    ·refine .inr ⟨b,e2,?_⟩
     rw [if_neg (by omega)]
     simp [Addr.add_lit]
   ·subst h
    refine .inr ⟨b,c,?_,e2,by omega,e4,e5⟩
    split <;> simp [Addr.add_lit]
theorem G8e {x:Operand} {T E k i ver n lo hi:Nat} {lop hip:Option Operand} {xs:List AV} (ho:o.op=.slice T x lop hip none) (hT:sliceB P T E k=true) (hx:ev l x=.vsl i ver k 0 n) (hL:lk L i=some (.vec E k ver xs))
  (hlo:(lop=none∧lo=0)∨∃ kd p,lop=some p∧ev l p=.sc (.int kd lo)) (hhi:(hip=none∧hi=n)∨∃ kd p,hip=some p∧ev l p=.sc (.int kd hi)) (h1:lo≤hi) (h2:hi≤xs.length) (hpos:Nat.blt 0 k=true) :
  H1 P o l L (Is (.vsl i ver k lo (hi - lo)) L):=
 Hq fun a w β hsat hf=>by
  have hk0:0 < k:=by simpa [Nat.blt_eq] using hpos
  have hv:=hf.ev x
  rw [hx] at hv
  obtain⟨_,hn,_⟩:=hv.inv_vsl hL
  obtain⟨_,o2⟩:=hsat.obj i _ hL
  have hlo':(lop.map a.eval=none∧lo=0)∨∃ kd,lop.map a.eval=some (.int kd lo):=by
   rcases hlo with ⟨rfl,h⟩ | ⟨kd,p,rfl,hp⟩
   ·exact .inl ⟨rfl,h⟩
   ·have:=hf.ev p; rw [hp] at this
    exact .inr ⟨kd,by simp [this.inv_sc]⟩
  have hhi':(hip.map a.eval=none∧hi=n)∨∃ kd,hip.map a.eval=some (.int kd hi):=by
   rcases hhi with ⟨rfl,h⟩ | ⟨kd,p,rfl,hp⟩
   ·exact .inl ⟨rfl,h⟩
   ·have:=hf.ev p; rw [hp] at this
    exact .inr ⟨kd,by simp [this.inv_sc]⟩
  rcases hv.inv_vsl0 hL with ⟨e1,e2,e3⟩ | ⟨b,cap,e1,e2,e3,e4,e5⟩
  ·have hxs:xs=[]:=by
    rcases o2 with ⟨_,o2⟩ | ⟨b',o2,_⟩
    ·exact o2
    ·rw [show β i=β.at_ i from rfl,e3] at o2; cases o2
   subst hxs
   have:hi=0:=by simpa using h2
   subst this
   have:lo=0:=by omega
   subst this
   refine⟨.slice none 0 0,?_,.vsl ⟨E,ver,[],hL,Nat.le_refl _,fun _=>⟨by simp,⟨none,0,rfl,Nat.le_refl _,Nat.zero_le _,.inl rfl⟩,fun _=>.inl ⟨rfl,rfl,e3⟩⟩⟩ rfl⟩
   simp only [execOp,ho,e1,Sem.run_bind,Option.map_none]
   rw [H2e hT none 0 0 0 0 _ _ w (Nat.le_refl _) (Nat.le_refl _) hlo' (hhi'.imp (fun h=>⟨h.1,rfl⟩) id)]
   rfl
  ·have hcap:xs.length≤cap:=by
    rcases o2 with ⟨_,o2⟩ | ⟨b',o2,vs,o3,o4,_⟩
    ·subst o2; simp
    ·rw [show β i=β.at_ i from rfl,e2] at o2; cases o2
     have hs:vs.size=cap*k:=by simpa [World.shape?,o3] using e5
     rw [hs] at o4
     exact Nat.le_of_mul_le_mul_right o4 hk0
   refine⟨.slice (if cap=lo then some ⟨b,0,none⟩ else (some ⟨b,0,none⟩:Option Addr).map (·.add (lo*k))) (hi - lo) (cap - lo),?_,.vsl ⟨E,ver,xs,hL,Nat.le_refl _,fun _=>⟨by omega,⟨_,_,rfl,by omega,by omega,?_⟩,fun h=>?_⟩⟩ rfl⟩
   ·simp only [execOp,ho,e1,Sem.run_bind,Option.map_none]
    rw [H2e hT (some ⟨b,0,none⟩) n cap lo hi _ _ w h1 (by omega) hlo' hhi']
    rfl
   ·by_cases h:hi - lo=0
    ·exact .inl h
    ·refine .inr ⟨b,e2,?_⟩
     rw [if_neg (by omega)]
     simp [Addr.add_lit]
   ·subst h
    refine .inr ⟨b,cap,?_,e2,by omega,e4,e5⟩
    split <;> simp [Addr.add_lit]
theorem J59 {x:Operand} {T E k k' i ver off n:Nat} {xs:List AV} (ho:o.op=.call { callee:=.builtin .len,args:=#[x],argTypes:=#[T] }) (hT:sliceB P T E k'=true) (hx:ev l x=.vsl i ver k off n) (hL:lk L i=some (.vec E k ver xs)):H1 P o l L (Is (I64 (n:Int)) L):=
 Hq fun a w β hsat hf=>by
  have hv:=hf.ev x
  rw [hx] at hv
  obtain⟨_,_,a',cap,e1,_⟩:=hv.inv_vsl hL
  refine⟨.int .i64 n,?_,.sc⟩
  simp [execOp,ho,resolve,invoke,builtin,Builtin.len_,underlying,(sliceB.out hT).1,e1,goInt]

theorem J41 (w:World) (tS tR e:TypeId) (ht:P.underlying tS=some (.slice e)) (size:Nat) (hz:∀ w,(Go.sizeOf e).run P w=.ok size w)
  (a b:Addr) (la ca lb cb:Nat) (hne:a.block≠b.block) (tA tB:TypeId) (kA kB:Nat)
  (hsa:w.shape? a.block=some (tA,kA)) (hkA:kA≠0) (hsb:w.shape? b.block=some (tB,kB))
  (hfb:w.frozen? b=false) (hfe:w.frozen? { block:=b.block,off:=kB }=false) :
  (Extern.SlicesOverlaps.overlaps #[tS,tS] #[tR] #[.slice (some a) la ca,.slice (some b) lb cb]).run P w=.ok (.bool false) w:=by
 have hnb:(a.block != b.block)=true:=by simpa using hne
 have hnb':(a.block==b.block)=false:=by simpa using hne
 change Sem.run P (α:=Value) (do
  let some t := (#[tS, tS] : Array TypeId)[0]? | stuck "slices.overlaps: no parameter types"
  let .slice elem ← underlying t | stuck "slices.overlaps: slice type expected"
  let size ← sizeOf elem
  match (some a:Option Addr),(some b:Option Addr) with
  | some a,some b=>
   if la=0∨lb=0∨size=0 then pure (Value.bool false)
   else if a.block != b.block&&(← frozen a)&&(← frozen b) then unsupported .addressObserved
   else do
    if a.block != b.block then do
     noView a; noView b
     if ← mayBeOne a b then return Value.bool ((← choose (.extern "sameAddr.stringBytes" 2)) == 1)
    pure (Value.bool (a.block==b.block&&a.off < b.off+lb*size&&b.off < a.off+la*size))
  | _,_=>pure (Value.bool false)) w=_
 by_cases h0:la=0∨lb=0∨size=0
 ·simp [run_underlying ht,hz,h0]
 ·cases kA with
  | zero=>exact absurd rfl hkA
  | succ kA=>
   cases hfa:w.frozen? a <;> cases hfe2:w.frozen? { block:=a.block,off:=kA+1 } <;>
    simp [run_underlying ht,hz,h0,hnb,hnb',frozen,noView,viewAt,mayBeOne,stringish,shape,Sem.run,hsa,hsb,hfb,hfe,hfa,hfe2]
theorem Q20 {f:FuncId} {fn:Func} {x y:Operand} {T S E k kx i ver n off:Nat} {ts:Array TypeId} {xs ys:List AV} (ho:o.op=.call { callee:=.value (.func f),args:=#[x,y],argTypes:=ts })
  (hf : P.funcs[f]? = some fn) (hname : (fn.name == "runtime.NumGoroutine") = false) (hb : fn.body.isNone = true) (hne : Extern.findNext fn = none) (he : Extern.find fn = some (Extern.SlicesOverlaps.overlaps #[T, T] #[S]))
  (hT:sliceB P T E k=true) (hpos:Nat.blt 0 k=true) (hx:Qd (ev l x)=some (kx,ys)) (hkx:kx=k) (hy:ev l y=.vsl i ver k off n) (hL':lk L i=some (.vec E k ver xs)) (h0:0 < ys.length) (h1:0 < n):H1 P o l L (Is (.sc (.bool false)) L):=
 Hq fun a w β hsat hfr=>by
  subst hkx
  have hk0:0 < kx:=by simpa [Nat.blt_eq] using hpos
  have hv:=(hfr.ev x).Qd hx
  have hv':=hfr.ev y
  rw [hy] at hv'
  obtain⟨cap,b,off1,cur,tA,fz,e1,e2,e5,e6⟩:∃ cap b off1 cur tA fz,a.eval x=.slice (some ⟨b,off1,none⟩) ys.length cap∧β.at_ i≠some b∧w.heap[b]? = some (.cells cur tA fz)∧cur.size≠0:=by
   generalize a.eval x=vx at hv
   cases hv with
   | nil=>simp at h0
   | @list _ b off1 cap _ vals hcap hm hk hS h=>
    have hfl:0 < (flat ys).length:=by rw [Jd hk]; exact Nat.mul_pos h0 hk0
    obtain⟨s1,s2⟩:=hS 0 hfl
    have hnb:β.at_ i≠some b:=fun e=>s1.kept i _ hL' e
    unfold World.cell? at s2
    cases hh:w.heap[b]? with
    | none=>simp [hh] at s2
    | some ob=>
     cases ob with
     | cells cur tA fz=>
      simp [hh] at s2
      refine⟨cap,b,off1,cur,tA,fz,rfl,hnb,hh,fun e=>?_⟩
      have:=(Array.getElem?_eq_some_iff.1 s2).1
      omega
     | _=>simp [hh] at s2
  obtain⟨_,hn,a',cap',d1,d2,d3,d4⟩:=hv'.inv_vsl hL'
  rcases d4 with d4 | ⟨b',d4,rfl⟩
  ·omega
  ·obtain⟨_,vs',q2,q3,_⟩:=Gf5 hsat hL' d4
   have hbb:b≠b':=fun e=>by subst e; exact e2 d4
   have hs1:w.shape? b=some (tA,cur.size):=by simp [World.shape?,e5]
   have hs2:w.shape? b'=some (E,vs'.size):=by simp [World.shape?,q2]
   have hr:=J41 (P:=P) w T S E (sliceB.out hT).1 kx (fun w=>Qr (sliceB.out hT).2 w) ⟨b,off1,none⟩ ⟨b',off*kx,none⟩ ys.length cap n cap' hbb tA E _ _ hs1 e6 hs2 (by simp [World.frozen?,q2]) (by simp [World.frozen?,q2])
   refine⟨.bool false,?_,.sc⟩
   have hc:=run_callFunc_extern (P:=P) hf hname hb hne he #[.slice (some ⟨b,off1,none⟩) ys.length cap,.slice (some ⟨b',off*kx,none⟩) n cap'] w
   rw [hr] at hc
   simp only [Result.andThen] at hc
   have hfn:a.eval (.func f)=.func (.func f) #[] #[]:=rfl
   simp [execOp,ho,resolve,hfn,Deferred.ofValue,invoke,e1,d1,hc]
theorem R51 (j:Nat) {s q:Operand} {T Tn E k by_ i ver m c n:Nat} {kq kn:IntKind} {zi:Int} {xs:List AV} (y:AV) (zs:List Value) (ho:o.op=.call { callee:=.builtin .append,args:=#[s,q],argTypes:=#[T,Tn] }) (hs:ev l s=.vcap i ver k m c) (hi:lk L i=some (.vec E k ver xs)) (hq:ev l q=.sc (.int kq zi)) (hzi:zi=(n:Int))
  (hT:sliceB P T E k=true) (hTn:P.underlying Tn=some (.int kn)) (hE:Zi P E k by_=true) (hz:(P.info? E).bind (fun i=>i.zero.map Value.cells)=some zs.toArray) (hzl:zs.length=k) (hpos:Nat.blt 0 k=true) (hy:y.cells.length=k) (hD:∀ (w:World) (S:Nat→Nat→Prop) (j:Nat) u v,y.cells[j]? = some u→zs[j]? = some v→D w S u v)
  (hb:(m+n)*by_≤140737488355328) (hlen:m+n≤maxLen) (hm:m≤xs.length) (h0:0 < xs.length) (hg:c < m+n) (hn:0 < n) (hj:lk L j=none) :
  H1 P o l L (Is (.vec j 0 k (xs.take m++List.replicate n y).length) ((j,.vec E k 0 (xs.take m++List.replicate n y))::L)):=by
 subst hzi
 intro a w β K Q hsat hf hK
 have hk0:0 < k:=by simpa [Nat.blt_eq] using hpos
 have hv:=hf.ev s
 rw [hs] at hv
 have hv2:=hf.ev q
 rw [hq] at hv2
 obtain⟨inf,z,e1,e2,e3,e4,e5,e6⟩:=Zi.out hE
 have hzc:z.cells=zs.toArray:=by
  rw [e1] at hz
  simp only [Option.bind_some,e4,Option.map_some] at hz
  exact Option.some.inj hz
 rcases hv.inv_vcap hi with ⟨_,_,_,d4⟩ | ⟨b,d1,d2,d3,d4,d5⟩
 ·obtain⟨_,o2⟩:=hsat.obj i _ hi
  rcases o2 with ⟨_,o2⟩ | ⟨b',o2,_⟩
  ·subst o2; simp at h0
  ·rw [show β i=β.at_ i from rfl,d4] at o2; cases o2
 ·obtain⟨q1,vs,q2,q3,q4⟩:=Gf5 hsat hi d2
  have hmk:m*k≤xs.length*k:=Nat.mul_le_mul_right _ hm
  have hol:(vs.toList.take (m*k)).length=m*inf.size:=by rw [e2,List.length_take,Array.length_toList]; omega
  have hocell:∀ j v,(vs.toList.take (m*k))[j]? = some v→w.drew.cell? ((⟨b,0,none⟩:Addr).add j)=some v:=fun j v hv=>by
   have hj:=(List.getElem?_eq_some_iff.1 hv).1
   rw [List.length_take] at hj
   rw [List.getElem?_take,if_pos (by omega)] at hv
   rw [Addr.add_lit,Nat.zero_add]
   show w.cell? _=_
   simp [World.cell?,q2]
   simpa using hv
  have hfit:Builtin.nextslicecap (m+n) c*inf.bytes≤281474976710656:=by
   have:=Nat.mul_le_mul_right inf.bytes (nextslicecap_le hg)
   rw [e3] at this ⊢
   rw [Nat.mul_assoc] at this
   omega
  have h48:n*inf.bytes≤281474976710656:=by
   have:=Nat.mul_le_mul_right by_ (show n≤m+n by omega)
   rw [e3]; omega
  have hr:=Lib.run_append_grow_zeros (P:=P) w T Tn o.type E inf z kq kn (sliceB.out hT).1 hTn e1 e4 (some ⟨b,0,none⟩) m c (vs.toList.take (m*k)) (run_firstCells_some (P:=P) w.drew inf.size m ⟨b,0,none⟩ m c _ hol hocell) n hn (by omega) hg (by have:=hlen; simp [maxLen] at this; omega) h48 hfit
  have hge:=grownCap_ge w (m+n) c E
  have hle:=grownCap_le_maxLen w (m+n) c E hlen
  generalize hgc:grownCap w (m+n) c E=gc at hr hge hle
  generalize hrow:(vs.toList.take (m*k)).toArray++Builtin.zeroCells z.cells n++Builtin.zeroCells z.cells (gc - (m+n))=row at hr
  have hzn:∀ q,(Builtin.zeroCells z.cells q).toList.length=q*k:=fun q=>by simp [Builtin.zeroCells,hzc,hzl]
  have hrs:row.size=gc*k:=by
   rw [← hrow]
   have h1:=hzn n
   have h2:=hzn (gc - (m+n))
   rw [Array.length_toList] at h1 h2
   rw [Array.size_append,Array.size_append,List.size_toArray,hol,e2,h1,h2,← Nat.add_mul,← Nat.add_mul]
   congr 1; omega
  have hrun:(execOp a.eval o).run P w=.ok (.value (.slice (some ⟨w.heap.size,0,none⟩) (m+n) gc)) (w.drew.alloc (.cells row E)):=by
   simp [execOp,ho,resolve,invoke,builtin,d1,hv2.inv_sc,hr]
  unfold Oper.wp
  rw [hrun]
  have hlt:(xs.take m++List.replicate n y).length=m+n:=by rw [List.length_append,List.length_take,List.length_replicate]; omega
  have hheap:∀ b',b' < w.heap.size→(w.drew.alloc (.cells row E)).heap[b']? = w.heap[b']? := fun b' hb'=>by
   show (w.heap.push (.cells row E))[b']? = _
   rw [Array.getElem?_push,if_neg (by omega)]
  have hnew:(w.drew.alloc (.cells row E)).heap[w.heap.size]? = some (.cells row E (0,0)):=by
   show (w.heap.push (.cells row E))[w.heap.size]? = _
   simp
  have hhs:(w.drew.alloc (.cells row E)).heap.size=w.heap.size+1:=by
   show (w.heap.push (.cells row E)).size=_
   simp
  obtain⟨st,sat⟩:=Z6 (w':=w.drew.alloc (.cells row E)) (t:=E) (k:=k) (ver1:=0) (xs':=xs.take m++List.replicate n y) (ob':=some w.heap.size) hsat (.inl hj) rfl rfl ⟨rfl,Nat.le_succ _⟩ (by rw [hhs]; omega) (fun b' hb' _=>hheap b' hb') (.inr (.inr ⟨_,rfl,Nat.le_refl _,by rw [hhs]; omega⟩))
  have hyk:∀ x∈List.replicate n y,x.cells.length=k:=fun x hx=>by rw [List.eq_of_mem_replicate hx]; exact hy
  have hall:∀ y'∈xs.take m++List.replicate n y,y'.cells.length=k:=fun y' hy'=>by
   rcases List.mem_append.1 hy' with h | h
   ·exact q1 y' (List.mem_of_mem_take h)
   ·exact hyk y' h
  have hfl:(flat (xs.take m)).length=m*k:=by rw [G73 q1,List.length_take,Jd q1]; omega
  refine hK _ _ _ _ _ ⟨rfl,rfl⟩ (sat ⟨hall,.inr ⟨_,rfl,row,hnew,by rw [hlt,hrs]; exact Nat.mul_le_mul_right _ hge,fun j u v hu hv=>?_⟩⟩) st (.vec ⟨E,0,_,by rw [Gr,if_pos rfl],Nat.le_refl _,fun _=>⟨rfl,.inr ⟨w.heap.size,gc,by rw [hlt],by simp [upP],by rw [hlt]; exact hge,hle,by unfold World.shape?; rw [hnew]; simp only [hrs]⟩⟩⟩ rfl)
  rw [G52] at hu
  have hv2:((vs.toList.take (m*k))++(Builtin.zeroCells z.cells n).toList++(Builtin.zeroCells z.cells (gc - (m+n))).toList)[j]? = some v:=by
   rw [← hrow] at hv
   simpa [← Array.getElem?_toList] using hv
  have hol':(vs.toList.take (m*k)).length=m*k:=by rw [hol,e2]
  rcases Nat.lt_or_ge j (m*k) with h | h
  ·rw [List.getElem?_append_left (by omega)] at hu
   rw [List.append_assoc,List.getElem?_append_left (by omega),List.getElem?_take,if_pos h] at hv2
   rw [G73 q1,List.getElem?_take,if_pos h] at hu
   exact(q4 j u v hu (by simpa using hv2)).mono st.stab
  ·rw [List.getElem?_append_right (by omega)] at hu
   have hju:=(List.getElem?_eq_some_iff.1 hu).1
   rw [Jd hyk,hfl,List.length_replicate] at hju
   rw [List.append_assoc,List.getElem?_append_right (by omega),List.getElem?_append_left (by rw [hol',hzn]; exact hju)] at hv2
   rw [hfl] at hu
   rw [hol'] at hv2
   have hsz:z.cells.size=k:=e5
   rw [H9a _ _ _ (by rw [hsz]; exact hju),hsz] at hv2
   have hmd:(j - m*k) % k < k:=Nat.mod_lt _ hk0
   have hdv:(j - m*k) / k < n:=(Nat.div_lt_iff_lt_mul hk0).2 hju
   have e:j - m*k=((j - m*k) / k)*k+(j - m*k) % k:=(Nat.div_add_mod (j - m*k) k).symm.trans (by rw [Nat.mul_comm k])
   rw [e,Ga7 hyk (y:=y) (by rw [List.getElem?_replicate,if_pos hdv]) hmd] at hu
   refine hD _ _ ((j - m*k) % k) u v hu ?_
   rw [← hv2,hzc]
   simp [hzl,hmd]
/-! ### Typed elements -/
theorem Ja3 {α:Type} {d x:Operand} {T E k i ver m:Nat} {f:α→AV} {xs ys:List α} (ho:o.op=.call { callee:=.builtin .append,args:=#[d,x],argTypes:=#[T,T] }) (hT:sliceB P T E k=true) (hd:ev l d=.vsl i ver k 0 m) (hi:lk L i=some (.vec E k ver (xs.map f))) (hs:He8 L k (ev l x) (ys.map f)) (hc:∀ y,(f y).flatOk=true) (hfit:m+ys.length≤xs.length) (hpos:Nat.blt 0 k=true) :
  H1 P o l L (Is (.vsl i ver k 0 (m+ys.length)) ((i,.vec E k ver ((xs.take m++ys++xs.drop (m+ys.length)).map f))::L)):=by
 have h:=R52 (P:=P) (m:=m) ho hT hd hi hs (fun y hy=>by
  obtain⟨z,_,rfl⟩:=List.mem_map.1 hy
  exact hc z) (by simpa using hfit) hpos
 simp only [List.map_append,List.map_take,List.map_drop]
 simpa only [List.length_map] using h
theorem Qfe {α:Type} (j:Nat) {s q:Operand} {T Tn E k by_ i ver m c n:Nat} {kq kn:IntKind} {zi:Int} {f:α→AV} {xs:List α} (y:α) (zs:List Value) (ho:o.op=.call { callee:=.builtin .append,args:=#[s,q],argTypes:=#[T,Tn] }) (hs:ev l s=.vcap i ver k m c) (hi:lk L i=some (.vec E k ver (xs.map f))) (hq:ev l q=.sc (.int kq zi)) (hzi:zi=(n:Int))
  (hT:sliceB P T E k=true) (hTn:P.underlying Tn=some (.int kn)) (hE:Zi P E k by_=true) (hz:(P.info? E).bind (fun i=>i.zero.map Value.cells)=some zs.toArray) (hzl:zs.length=k) (hpos:Nat.blt 0 k=true) (hzz:ZOk (f y).cells zs)
  (hb:(m+n)*by_≤140737488355328) (hlen:m+n≤maxLen) (hm:m≤xs.length) (h0:0 < xs.length) (hg:c < m+n) (hn:0 < n) (hj:lk L j=none) :
  H1 P o l L (Is (.vec j 0 k (xs.take m++List.replicate n y).length) ((j,.vec E k 0 ((xs.take m++List.replicate n y).map f))::L)):=by
 have h:=R51 (P:=P) j (f y) zs ho hs hi hq hzi hT hTn hE hz hzl hpos (by rw [hzz.length,hzl]) (fun w S j a b ha hb'=>by
  have:=ZOk.get (w:=w) (β:=⟨fun _=>none,fun b i=>¬ S b i⟩) (L:=[]) hzz j a b ha hb'
  refine(this.data_of_nil).mono fun b i hs=>⟨Classical.byContradiction fun hn=>hs.seen hn,rfl⟩) hb hlen (by simpa using hm) (by simpa using h0) hg hn hj
 simp only [List.map_append,List.map_take,List.map_replicate]
 simpa only [List.length_append,List.length_take,List.length_map,List.length_replicate] using h
theorem Q25 {α:Type} (j:Nat) {s q:Operand} {T Tn E k by_ i ver m c n:Nat} {kq kn:IntKind} {zi:Int} {f:α→AV} {xs:List α} (y:α) (zs:List Value) (X:List α) (hX:xs.take m++List.replicate n y=X) (ho:o.op=.call { callee:=.builtin .append,args:=#[s,q],argTypes:=#[T,Tn] }) (hs:ev l s=.vcap i ver k m c) (hi:lk L i=some (.vec E k ver (xs.map f))) (hq:ev l q=.sc (.int kq zi)) (hzi:zi=(n:Int))
  (hT:sliceB P T E k=true) (hTn:P.underlying Tn=some (.int kn)) (hE:Zi P E k by_=true) (hz:(P.info? E).bind (fun i=>i.zero.map Value.cells)=some zs.toArray) (hzl:zs.length=k) (hpos:Nat.blt 0 k=true) (hzz:ZOk (f y).cells zs)
  (hb:(m+n)*by_≤140737488355328) (hlen:m+n≤maxLen) (hm:m≤xs.length) (h0:0 < xs.length) (hg:c < m+n) (hn:0 < n) (hj:lk L j=none) :
  H1 P o l L (Is (.vec j 0 k X.length) ((j,.vec E k 0 (X.map f))::L)):=by
 subst hX
 exact Qfe j y zs ho hs hi hq hzi hT hTn hE hz hzl hpos hzz hb hlen hm h0 hg hn hj
theorem Jb9 {α:Type} {d x:Operand} {T T2 E k i ver off n:Nat} {f:α→AV} {xs ys:List α} (X:List α) (hX:overlay xs off ys n=X) (ho:o.op=.call { callee:=.builtin .copy,args:=#[d,x],argTypes:=#[T,T2] }) (hT:sliceB P T E k=true) (hd:(ev l d=.vec i ver k n∧off=0)∨ev l d=.vsl i ver k off n) (hi:lk L i=some (.vec E k ver (xs.map f))) (hs:He8 L k (ev l x) (ys.map f)) (hc:∀ y,(f y).flatOk=true) :
  H1 P o l L (Is (I64 ((min ys.length n:Nat):Int)) ((i,.vec E k ver (X.map f))::L)):=by
 subst hX
 exact Y19 ho hT hd hi hs hc
theorem R7d {d x:Operand} {T T2 E k i ver off n:Nat} {xs ys:List AV} (X:List AV) (hX:xs.take off++ys.take (min ys.length n)++xs.drop (off+min ys.length n)=X) (ho:o.op=.call { callee:=.builtin .copy,args:=#[d,x],argTypes:=#[T,T2] }) (hT:sliceB P T E k=true) (hd:Qf3 L k (ev l d) i ver off n E xs) (hs:He8 L k (ev l x) ys) (hc:∀ y∈ys.take (min ys.length n),y.flatOk=true) :
  H1 P o l L (Is (I64 ((min ys.length n:Nat):Int)) ((i,.vec E k ver X)::L)):=by
 subst hX
 exact Q94 ho hT hd hs hc
end ops
end Go.Proofs.YtecjdioomlhhiaaGreat
