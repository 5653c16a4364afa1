/-
 Slices that the call may write in place: Slices of the call's own: Slices of typed elements that the call may write in place. Maps of typed keys and elements:
-/
import Derived.Test.YtokjlondbjdlfaaFrames
set_option linter.unusedSimpArgs false
namespace Go.Proofs.Ytokjlondbjdlfaa
open Go.RowKit

theorem G5d {k:Nat}:∀ {xs:List AV},(∀ x∈xs,x.cells.length=k)→∀ {m f:Nat} {y:AV},xs[m]? = some y→f < k→(flat xs)[m*k+f]? = y.cells[f]?
 | [],_,m,f,y,h,_=>by simp at h
 | x::r,hk,m,f,y,h,hf=>by
  have hx:=hk x (by simp)
  cases m with
  | zero=>
   simp at h; subst h
   rw [flat,Nat.zero_mul,Nat.zero_add,Ke (by omega)]
  | succ m=>
   simp at h
   rw [flat,show (m+1)*k+f=k+(m*k+f) by rw [Nat.add_mul]; omega,Kd (by omega),hx,show k+(m*k+f) - k=m*k+f by omega]
   exact G5d (fun y hy=>hk y (by simp [hy])) h hf
theorem Q1d {k:Nat}:∀ {xs:List AV},(∀ x∈xs,x.cells.length=k)→∀ {m:Nat} {z:AV},m < xs.length→z.cells.length=k→flat (xs.set m z)=(flat xs).take (m*k)++z.cells++(flat xs).drop (m*k+k)
 | [],_,m,z,h,_=>by simp at h
 | x::r,hk,m,z,h,hz=>by
  have hx:=hk x (by simp)
  cases m with
  | zero=>simp [flat,hx]
  | succ m=>
   have ih:=Q1d (xs:=r) (fun y hy=>hk y (by simp [hy])) (m:=m) (z:=z) (by simpa using h) hz
   have e1:(m+1)*k=x.cells.length+m*k:=by rw [hx,Nat.add_mul]; omega
   rw [List.set_cons_succ,flat,ih,flat,e1,List.take_length_add_append,Nat.add_assoc,List.drop_length_add_append]
   simp [List.append_assoc]

section moves
variable {w w':World} {β:H2} {L:Loc} {i t k ver1:Nat} {xs':List AV}
theorem Qb {ob':Option Nat} (h0:Sat w β L)
  (hold:lk L i=none∨∃ ver xs,lk L i=some (.vec t k ver xs)∧ver≤ver1∧(ver1=ver→xs'.length=xs.length∧ob'=β.at_ i∧∀ b,β.at_ i=some b→w'.shape? b=w.shape? b))
  (a4:w'.os=w.os) (a5:w'.tape=w.tape) (a2:w'.output=w.output∧w.drawn≤w'.drawn) (h9:w.heap.size≤w'.heap.size)
  (a0:∀ b,b < w.heap.size→(inL L i=true→β.at_ i≠some b)→w'.heap[b]? = w.heap[b]?)
  (a6:ob'=none∨(inL L i=true∧ob'=β.at_ i)∨∃ b,ob'=some b∧w.heap.size≤b∧b < w'.heap.size) :
  Step w β L w' (upP β i ob') ((i,.vec t k ver1 xs')::L) ∧
  (G77 w' (upP β i ob') ((i,.vec t k ver1 xs')::L) ob' (.vec t k ver1 xs')→Sat w' (upP β i ob') ((i,.vec t k ver1 xs')::L)):=by
 have a1:∀ id b,(lk L id).isSome=true→β.at_ id=some b→i≠id→w'.heap[b]? = w.heap[b]? := by
  intro id b h1 h2 a7
  refine a0 b (h0.bnd id b h1 h2) (fun h3 h4=>a7 ?_)
  exact h0.inj i id b h3 h1 h4 h2
 have h7:∀ id,i≠id→(upP β i ob').at_ id=β.at_ id:=fun id e=>by simp [upP,Ne.symm e]
 have h8:(upP β i ob').at_ i=ob':=by simp [upP]
 have fresh:∀ b,ob'=some b→(inL L i=true∧β.at_ i=some b)∨(w.heap.size≤b∧b < w'.heap.size):=by
  intro b hb
  rcases a6 with h | ⟨h1,h2⟩ | ⟨b',h1,h2,h3⟩
  ·rw [h] at hb; cases hb
  ·exact .inl ⟨h1,by rw [← h2,hb]⟩
  ·rw [h1] at hb; cases hb; exact .inr ⟨h2,h3⟩
 have stabne:∀ b j,J7 w β L b j→inL L i=true→β.at_ i≠some b:=by
  intro b j hs a8 hb
  obtain⟨o,ho⟩:=Ej a8
  have hk:=hs.kept i o ho hb
  rcases hold with h | ⟨ver,xs,h,_⟩
  ·rw [h] at ho; cases ho
  ·rw [h] at ho; cases ho; exact hk
 have st:Step w β L w' (upP β i ob') ((i,.vec t k ver1 xs')::L):=by
  refine⟨a4,a5,a2,h9,fun _ _ _=>Iff.rfl,fun b j hs=>⟨⟨Em hs.lt h9,hs.seen,fun id o hid hb=>?_⟩,J6 (w:=w) (a0 b hs.lt (stabne b j hs))⟩,fun b hb hf=>⟨a0 b hb (fun h=>hf i h),fun id hid e=>?_⟩,fun id t' cs hid=>?_,fun id t' cs hid=>?_,fun id t' n cs hid=>?_,fun id t' k' vr zs hid=>?_,fun id t' k' vr hw hid=>?_⟩
  ·rw [Ga] at hid
   by_cases e:i=id
   ·subst e
    rw [h8] at hb
    rcases fresh b hb with ⟨h1,h2⟩ | ⟨h1,_⟩
    ·exact absurd h2 (stabne b j hs h1)
    ·have:=hs.lt; omega
   ·rw [if_neg e] at hid; rw [h7 id e] at hb; exact hs.kept id o hid hb
  ·rw [Ga] at hid
   by_cases e':i=id
   ·subst e'
    rw [h8] at e
    rcases fresh b e with ⟨h1,h2⟩ | ⟨h1,_⟩
    ·exact hf i h1 h2
    ·omega
   ·rw [if_neg e'] at hid; rw [h7 id e'] at e; exact hf id hid e
  ·have e:i≠id:=fun e=>by subst e; rcases hold with h | ⟨_,_,h,_⟩ <;> rw [h] at hid <;> cases hid
   exact⟨h7 id e,cs,by rw [Ga,if_neg e]; exact hid⟩
  ·have e:i≠id:=fun e=>by subst e; rcases hold with h | ⟨_,_,h,_⟩ <;> rw [h] at hid <;> cases hid
   exact⟨h7 id e,cs,by rw [Ga,if_neg e]; exact hid⟩
  ·have e:i≠id:=fun e=>by subst e; rcases hold with h | ⟨_,_,h,_⟩ <;> rw [h] at hid <;> cases hid
   exact⟨h7 id e,n,cs,by rw [Ga,if_neg e]; exact hid⟩
  ·rw [Ga]
   by_cases e:i=id
   ·subst e
    rcases hold with h | ⟨ver,xs,h,h1,h2⟩
    ·rw [h] at hid; cases hid
    ·rw [h] at hid; cases hid
     refine⟨ver1,xs',if_pos rfl,h1,fun e=>?_⟩
     obtain⟨q1,q2,q3⟩:=h2 e
     exact⟨q1,h8.trans q2,q3⟩
   ·exact⟨vr,zs,by rw [if_neg e]; exact hid,Kc,fun _=>⟨rfl,h7 id e,fun b hb=>Yc (a1 id b (by rw [hid]; rfl) hb e)⟩⟩
  ·have e:i≠id:=fun e=>by subst e; rcases hold with h | ⟨_,_,h,_⟩ <;> rw [h] at hid <;> cases hid
   exact⟨vr,hw,by rw [Ga,if_neg e]; exact hid,Kc,fun _=>⟨rfl,h7 id e,fun b hb=>a1 id b (by rw [hid]; rfl) hb e⟩⟩
 refine⟨st,fun a3=>⟨fun b j h=>Em (h0.hid b j h) h9,fun id b hid hb=>?_,fun id b j hid hb hh=>?_,fun id id' b h1 h2 h3 h4=>?_,fun id o hid=>?_⟩⟩
 ·rw [Ga] at hid
  by_cases e:i=id
  ·subst e
   rw [h8] at hb
   rcases fresh b hb with ⟨h1,h2⟩ | ⟨_,h2⟩
   ·exact Em (h0.bnd i b h1 h2) h9
   ·exact h2
  ·rw [if_neg e] at hid; rw [h7 id e] at hb; exact Em (h0.bnd id b hid hb) h9
 ·rw [Ga] at hid
  by_cases e:i=id
  ·subst e
   rw [h8] at hb
   rcases fresh b hb with ⟨h1,h2⟩ | ⟨h1,_⟩
   ·exact h0.apart i b j h1 h2 hh
   ·have:=h0.hid b j hh; omega
  ·rw [if_neg e] at hid; rw [h7 id e] at hb; exact h0.apart id b j hid hb hh
 ·have key:∀ id,i≠id→(lk ((i,J4.vec t k ver1 xs')::L) id).isSome=true→(upP β i ob').at_ id=some b→ob'=some b→False:=by
   intro id e h1 h3 hb
   rw [Ga,if_neg e] at h1
   rw [h7 id e] at h3
   rcases fresh b hb with ⟨h5,h6⟩ | ⟨h5,_⟩
   ·exact e (h0.inj i id b h5 h1 h6 h3)
   ·have:=h0.bnd id _ h1 h3; omega
  by_cases e:i=id
  ·by_cases e':i=id'
   ·rw [← e,e']
   ·subst e; rw [h8] at h3; exact(key id' e' h2 h4 h3).elim
  ·by_cases e':i=id'
   ·subst e'; rw [h8] at h4; exact(key id e h1 h3 h4).elim
   ·rw [Ga,if_neg e] at h1
    rw [Ga,if_neg e'] at h2
    rw [h7 id e] at h3
    rw [h7 id' e'] at h4
    exact h0.inj id id' b h1 h2 h3 h4
 ·rw [Ga] at hid
  by_cases e:i=id
  ·subst e
   rw [if_pos rfl] at hid; cases hid
   rw [h8]; exact a3
  ·rw [if_neg e] at hid
   rw [h7 id e]
   exact(h0.obj id o hid).step st (fun b hb=>a1 id b (by rw [hid]; rfl) hb e)

theorem G18 {n ver:Nat} {xs:List AV} {x:Value} (h0:Sat w β L) (hi:lk L i=some (.vec t k ver xs)) (hv:V w β L (.vec i ver k n) x) :
  n=xs.length∧(∀ y∈xs,y.cells.length=k)∧((x=.slice none 0 0∧xs=[]∧β.at_ i=none) ∨
   ∃ b cap vs,x=.slice (some ⟨b,0,none⟩) xs.length cap∧β.at_ i=some b∧xs.length≤cap∧cap≤maxLen∧w.heap[b]? = some (.cells vs t (0,0))∧vs.size=cap*k ∧
    ∀ (j:Nat) u v,(flat xs)[j]? = some u→vs[j]? = some v→D w (J7 w β L) u v):=by
 have a0:=h0.obj i _ hi
 cases hv with
 | data h=>cases h
 | vec hp a1=>
  obtain⟨t',ver',xs',h1,h2,h3⟩:=hp
  rw [hi] at h1; cases h1
  obtain⟨rfl,h4⟩:=h3 rfl
  obtain⟨o1,o2⟩:=a0
  refine⟨rfl,o1,?_⟩
  rcases h4 with ⟨rfl,h5,h6⟩ | ⟨b,cap,rfl,h6,h7,h8,h9⟩
  ·exact .inl ⟨rfl,En h5,h6⟩
  ·right
   rcases o2 with ⟨o3,_⟩ | ⟨b',o3,vs,o4,o5,o6⟩
   ·rw [h6] at o3; cases o3
   ·rw [h6] at o3; cases o3
    have hs:vs.size=cap*k:=by
     have:=h9
     simp [World.shape?,o4] at this
     exact this
    exact⟨b,cap,vs,rfl,h6,h7,h8,o4,hs,o6⟩
end moves

section ops
variable {P:Program} {N:Cfg} {o:Oper} {l:Fr} {L L':Loc} {u:AV} {α:Type}

theorem H6b (i E k:Nat) {x:Operand} (ho:o.op=.assign x) (hx:ev l x=.sc (.slice none 0 0)) (hi:lk L i=none):Gt P o l L (Is (.vec i 0 k 0) ((i,.vec E k 0 [])::L)):=by
 intro a w β K Q h0 hf hK
 have hv:=hf.ev x
 rw [hx] at hv
 have hr:(execOp a.eval o).run P w=.ok (.value (.slice none 0 0)) w:=by simp [execOp,ho,hv.inv_sc]
 unfold Oper.wp
 rw [hr]
 obtain⟨st,sat⟩:=Qb (w':=w) (t:=E) (k:=k) (ver1:=0) (xs':=[]) (ob':=none) h0 (.inl hi) rfl rfl ⟨rfl,Kc⟩ (Kc) (fun _ _ _=>rfl) (.inl rfl)
 exact hK _ _ _ w _ ⟨rfl,rfl⟩ (sat ⟨by simp,.inl ⟨rfl,rfl⟩⟩) st (.vec ⟨E,0,[],by rw [Ga,if_pos rfl],Kc,fun _=>⟨rfl,.inl ⟨rfl,rfl,by simp [upP]⟩⟩⟩ rfl)

theorem Jc2 {s x:Operand} {T E k by_ i ver ver1 n:Nat} {kx:Nat} {xs ys:List AV} (ho:o.op=.call { callee:=.builtin .append,args:=#[s,x],argTypes:=#[T,T] }) (hs:ev l s=.vec i ver k n) (hi:lk L i=some (.vec E k ver xs)) (hx:Jj (ev l x)=some (kx,ys))
  (hT:sliceB P T E k=true) (hE:Qw P E k by_=true) (hb:(xs.length+ys.length)*by_≤140737488355328) (b8:xs.length+ys.length≤maxLen) (a9:∀ y∈ys,y.flatOk=true) (hk:kx=k∨ys=[]) (d6:ver < ver1) :
  Gt P o l L (Is (.vec i ver1 k (xs++ys).length) ((i,.vec E k ver1 (xs++ys))::L)):=by
 intro a w β K Q a0 hf hK
 have hv:=hf.ev s
 rw [hs] at hv
 obtain⟨rfl,b2,b3⟩:=G18 a0 hi hv
 generalize c2:a.eval s=vs at hv b3
 have a1:=(hf.ev x).Jj hx
 obtain⟨ao,cap,b4,_⟩:=a1.len
 rw [b4] at a1
 obtain⟨_,c3,c4,news,c5,a2,b5⟩:=a1.vals
 obtain⟨inf,z,e1,e2,e3,e4,e5,e6⟩:=Qw.out hE
 have a3:∀ y∈ys,y.cells.length=k:=by
  rcases hk with rfl | rfl
  ·exact c3
  ·simp
 have b9:∀ u∈news,u.oneCell'=true:=by
  intro u hu
  obtain⟨j,hj,e⟩:=List.mem_iff_getElem.1 hu
  have b6:j < (flat ys).length:=by omega
  obtain⟨x',h9,a4⟩:=b5 j (flat ys)[j] (by simp [b6])
  have:u=x':=by
   have:news[j]? = some u:=by rw [← e]; simp [hj]
   rw [this] at h9; exact K0 h9
  subst this
  have c6:((flat ys)[j]).isCell=true:=Ga3 a9 (List.getElem_mem b6)
  exact(V.data (L:=L) (β:=β) a4).cell c6
 have c7:(flat ys).length=ys.length*k:=Hs a3
 have c8:(flat xs).length=xs.length*k:=Hs b2
 -- the row aQ the kit knows it
 obtain⟨vals,a5,c9,b7⟩:∃ vals:List Value,w.ownsRow 0 E k vs xs.length vals∧(∀ (j:Nat) u v,(flat xs)[j]? = some u→vals[j]? = some v→D w (J7 w β L) u v)∧vs.ownBlock=β.at_ i:=by
  rcases b3 with ⟨rfl,rfl,h3⟩ | ⟨b,cap',cur,rfl,h2,h3,h4,h5,h6,h7⟩
  ·exact⟨[],⟨by simp,.inl ⟨rfl,rfl⟩⟩,fun j u v hu=>by simp [flat] at hu,by rw [h3]; rfl⟩
  ·refine⟨cur.toList.take (xs.length*k),⟨?_,.inr ⟨b,cap',cur,rfl,Nat.zero_le _,h5,h3,h4,h6,rfl⟩⟩,fun j u v hu hv=>h7 j u v hu ?_,by rw [h2]; rfl⟩
   ·rw [List.length_take]; refine Nat.min_eq_left ?_; exact Nat.le_trans (Nat.mul_le_mul_right _ h3) (Nat.le_of_eq (by simpa using h6.symm))
   ·have hj:=(Ey hv).1
    rw [Kh,if_pos (by rw [List.length_take] at hj; omega)] at hv
    simpa using hv
 obtain⟨v',w',hr,h8,d0,d1,c0,d2,a6,a7⟩:=Gdd (P:=P) w T o.type E inf z k (sliceB.out hT).1 e1 e4 e2 e5 e6 vs xs.length vals a5 ao ys.length cap news (by rw [c5,c7]) (fun ad j u h h'=>a2 ad j u h h') c4 b9 b8 (by rw [e3]; exact hb)
 have c1:(execOp a.eval o).run P w=.ok (.value v') w':=by
  simp [execOp,ho,resolve,invoke,builtin,c2,b4,hr]
 unfold Oper.wp
 rw [c1]
 have d3:vals.length=xs.length*k:=a5.1
 have b0:=ownsRow_form h8
 have vlt:∀ b,v'.ownBlock=some b→b < w'.heap.size:=by
  intro b hb
  rcases b0 with ⟨_,_,h0⟩ | ⟨b',cap',cur,_,d4,_,_,hg,_⟩
  ·rw [h0] at hb; cases hb
  ·rw [d4] at hb; cases hb
   exact(Ek hg).1
 obtain⟨st,sat⟩:=Qb (w':=w') (t:=E) (k:=k) (ver1:=ver1) (xs':=xs++ys) (ob':=v'.ownBlock) a0 (.inr ⟨ver,xs,hi,by omega,fun e=>by omega⟩) d0 d1 c0 d2
  (fun b hb d5=>a6 b hb (fun e=>d5 (by rw [inL,hi]; rfl) (b7 ▸ e)))
  (by
   rcases a7 with h | ⟨h,h',_⟩
   ·exact .inr (.inl ⟨by rw [inL,hi]; rfl,h.trans b7⟩)
   ·exact .inr (.inr ⟨_,h,Kc,h'⟩))
 have a8:∀ y∈xs++ys,y.cells.length=k:=fun y hy=>by
  rcases Kp.1 hy with h | h
  ·exact b2 y h
  ·exact a3 y h
 have b1:∀ (j:Nat) u v,(flat (xs++ys))[j]? = some u→(vals++news)[j]? = some v→D w' (J7 w' (upP β i v'.ownBlock) ((i,.vec E k ver1 (xs++ys))::L)) u v:=by
  intro j u v hu hv
  rw [G12] at hu
  rcases Er j (flat xs).length with hj | hj
  ·rw [Ke hj] at hu
   rw [Ke (by omega)] at hv
   exact(c9 j u v hu hv).mono st.stab
  ·rw [Kd hj] at hu
   rw [Kd (by omega)] at hv
   obtain⟨x',h9,a4⟩:=b5 (j - (flat xs).length) u hu
   rw [c8,← d3] at h9
   rw [hv] at h9; cases h9
   exact a4.mono st.stab
 refine hK _ _ v' w' _ ⟨rfl,rfl⟩ (sat ⟨a8,?_⟩) st (.vec ⟨E,ver1,xs++ys,by rw [Ga,if_pos rfl],Kc,fun _=>⟨rfl,?_⟩⟩ ?_)
 ·rcases h8.2 with ⟨h1,h2⟩ | ⟨g,cap',cur,h1,_,h3,h4,h5,h6,h7⟩
  ·refine .inl ⟨by rw [h1]; rfl,En (by rw [Kj]; exact h2)⟩
  ·refine .inr ⟨g,by rw [h1]; rfl,cur,h3,?_,fun j u v hu hv=>b1 j u v hu ?_⟩
   ·rw [Kj,h6]; exact Nat.mul_le_mul_right _ h4
   ·have hj:j < (flat (xs++ys)).length:=(Ey hu).1
    rw [Hs a8,Kj] at hj
    rw [← h7,Kh,if_pos hj]
    simpa using hv
 ·rcases h8.2 with ⟨h1,h2⟩ | ⟨g,cap',cur,h1,_,h3,h4,h5,h6,h7⟩
  ·exact .inl ⟨h1,by rw [Kj]; exact h2,by simp [upP,h1,Value.ownBlock]⟩
  ·exact .inr ⟨g,cap',by rw [Kj]; exact h1,by simp [upP,h1,Value.ownBlock],by rw [Kj]; exact h4,h5,by simp [World.shape?,h3,h6]⟩
 ·rcases h8.2 with ⟨h1,_⟩ | ⟨g,cap',cur,h1,_⟩ <;> rw [h1] <;> rfl

theorem R57 {x:Operand} {T E k k' i ver n:Nat} (hT:sliceB P T E k'=true) (ho:o.op=.call { callee:=.builtin .len,args:=#[x],argTypes:=#[T] }) (hx:ev l x=.vec i ver k n) {xs:List AV} (hi:lk L i=some (.vec E k ver xs)):Gt P o l L (Is (I64 (n:Int)) L):=
 H7 fun a w β h0 hf=>by
  have hv:=hf.ev x
  rw [hx] at hv
  obtain⟨rfl,_,h⟩:=G18 h0 hi hv
  refine⟨.int .i64 xs.length,?_,.sc⟩
  rcases h with ⟨h1,h2,_⟩ | ⟨b,cap,vs,h1,_⟩
  ·subst h2
   simp [execOp,ho,resolve,invoke,builtin,Builtin.len_,underlying,(sliceB.out hT).1,h1,goInt]
  ·simp [execOp,ho,resolve,invoke,builtin,Builtin.len_,underlying,(sliceB.out hT).1,h1,goInt]

theorem Hb8 {x ix:Operand} {T E k i ver n m:Nat} {kd:IntKind} {z:Int} {xs:List AV} (ho:o.op=.indexAddr T x ix) (hx:ev l x=.vec i ver k n) (h4:ev l ix=.sc (.int kd z)) (hi:lk L i=some (.vec E k ver xs)) (hT:sliceB P T E k=true) (hm:m < xs.length) (hz:z=(m:Int)) :
  Gt P o l L (Is (.vptr i ver m 0) L):=
 H7 fun a w β h0 hf=>by
  subst hz
  have hv:=hf.ev x
  rw [hx] at hv
  have h2:=hf.ev ix
  rw [h4] at h2
  obtain⟨rfl,_,h⟩:=G18 h0 hi hv
  rcases h with ⟨h1,h3,_⟩ | ⟨b,cap,vs,h1,h3,_⟩
  ·subst h3; simp at hm
  ·have hr:=Je (sliceB.out hT).2 w
   refine⟨.pointer (some ⟨b,m*k,none⟩),?_,.vptr ⟨E,k,ver,xs,hi,Kc,fun _=>⟨b,h3,rfl⟩⟩ rfl⟩
   simp [execOp,ho,Instr.indexAt,h2.inv_sc,asIntOf,underlying,(sliceB.out hT).1,h1,hm,hr,Addr.add_lit]

theorem V.inv_vptr {w:World} {β:H2} {i ver m f t k:Nat} {xs:List AV} {x:Value} (hi:lk L i=some (.vec t k ver xs)) (h:V w β L (.vptr i ver m f) x):∃ b,β.at_ i=some b∧x=.pointer (some ⟨b,m*k+f,none⟩):=by
 cases h with
 | data h=>cases h
 | vptr hp _=>
  obtain⟨t',k',ver',xs',h1,_,h3⟩:=hp
  rw [hi] at h1; cases h1
  exact h3 rfl

theorem Ga9 {w:World} {β:H2} {i b t k ver:Nat} {xs:List AV} (h0:Sat w β L) (hi:lk L i=some (.vec t k ver xs)) (hb:β.at_ i=some b) :
  (∀ y∈xs,y.cells.length=k)∧∃ vs:Array Value,w.heap[b]? = some (.cells vs t (0,0))∧xs.length*k≤vs.size∧∀ (j:Nat) u v,(flat xs)[j]? = some u→vs[j]? = some v→D w (J7 w β L) u v:=by
 obtain⟨o1,o2⟩:=h0.obj i _ hi
 refine⟨o1,?_⟩
 rcases o2 with ⟨h,_⟩ | ⟨b',h,vs,h1,h2,h3⟩
 ·rw [hb] at h; cases h
 ·rw [hb] at h; cases h; exact⟨vs,h1,h2,h3⟩

theorem Hec {x:Operand} {T i ver m f t k:Nat} {xs:List AV} {y:AV} (hT:Qp P T=true) (ho:o.op=.load T x) (hx:ev l x=.vptr i ver m f) (hi:lk L i=some (.vec t k ver xs)) (hy:xs[m]? = some y) (hu:y.cells[f]? = some u) (h6:f < k):Gt P o l L (Is u L):=
 H7 fun a w β h5 hf=>by
  have hv:=hf.ev x
  rw [hx] at hv
  obtain⟨b,hb,he⟩:=hv.inv_vptr hi
  obtain⟨h1,vs,h2,h3,h4⟩:=Ga9 h5 hi hb
  have hm:=(Ey hy).1
  have h0:m*k+f < vs.size:=by
   have:(m+1)*k≤xs.length*k:=Nat.mul_le_mul_right _ hm
   rw [Nat.add_mul] at this; omega
  refine⟨vs[m*k+f],?_,.data (h4 (m*k+f) u _ (by rw [G5d h1 hy h6]; exact hu) (by simp [h0]))⟩
  have:=G36 (P:=P) (T:=T) (b:=b) (o':=m*k+f) (v:=vs[m*k+f]) hT (w:=w) (by simp [World.cell?,h2,h0])
  simp [execOp,ho,he,this]

theorem Q9e {x:Operand} {T i ver m f t k kk:Nat} {xs ds:List AV} {y:AV} (hT:Gcc P T kk=true) (ho:o.op=.load T x) (hx:ev l x=.vptr i ver m f) (hi:lk L i=some (.vec t k ver xs)) (hy:xs[m]? = some y) (h5:takeN kk (y.cells.drop f)=some ds) (h6:f+kk≤k):Gt P o l L (Is (.agg ds) L):=
 H7 fun a w β h0 hf=>by
  have hv:=hf.ev x
  rw [hx] at hv
  obtain⟨b,hb,he⟩:=hv.inv_vptr hi
  obtain⟨h1,vs,h2,h3,h4⟩:=Ga9 h0 hi hb
  obtain⟨rfl,hk⟩:=H51 h5
  have hm:=(Ey hy).1
  have h7:m*k+f+kk≤vs.size:=by
   have:(m+1)*k≤xs.length*k:=Nat.mul_le_mul_right _ hm
   rw [Nat.add_mul] at this; omega
  have hr:=G1e (P:=P) (T:=T) (k:=kk) (b:=b) (o':=m*k+f) (vs:=(vs.toList.drop (m*k+f)).take kk) hT (by simp; omega) (w:=w) (fun j v hv=>by
   have hj:=(Ey hv).1
   rw [List.length_take] at hj
   rw [Kh,if_pos (by omega),Ki] at hv
   simp [World.cell?,h2] at hv ⊢
   exact hv)
  refine⟨_,by simp [execOp,ho,he,hr]; rfl,.agg (by simp only [List.size_toArray,List.length_take,List.length_drop,Array.length_toList] at hk ⊢; rw [Nat.min_eq_left (by omega),Nat.min_eq_left (by omega)]) (fun j u v hu hv=>?_)⟩
  have hj:=(Ey hu).1
  rw [List.length_take] at hj
  rw [Kh,if_pos (by omega),Ki] at hu
  simp only [List.getElem?_toArray] at hv
  rw [Kh,if_pos (by omega),Ki] at hv
  refine .data (h4 (m*k+(f+j)) u v ?_ ?_)
  ·rw [G5d h1 hy (by omega)]; exact hu
  ·rw [← Nat.add_assoc]; simpa using hv

theorem J84 {x y:Operand} {T i ver m f t k kk:Nat} {xs ds:List AV} {e z:AV} (hT:Rx P T kk=true) (ho:o.op=.store T x y) (hu:ev l y=u) (hx:ev l x=.vptr i ver m f) (hi:lk L i=some (.vec t k ver xs)) (he:xs[m]? = some e)
  (hc:u.flatOk=true) (hd:u.isData=true) (a3:H30 f u.cells e.cells=some ds) (hz:z.cells=ds) (hk:u.cells.length=kk) (a1:Nat.blt 0 kk=true) :
  Gt P o l L (Is .junk ((i,.vec t k ver (xs.set m z))::L)):=by
 subst hu
 have h2:(ev l y).cells≠[]:=fun e=>by rw [e] at hk; subst hk; cases a1
 obtain⟨rfl,h7⟩:=J2f a3 h2
 rw [hk] at h7
 intro a w β K Q h3 hf hK
 have h1:=hf.ev x
 rw [hx] at h1
 obtain⟨b,hb,a4⟩:=h1.inv_vptr hi
 obtain⟨q1,vs,q2,q3,q4⟩:=Ga9 h3 hi hb
 have hm:=(Ey he).1
 have b2:e.cells.length=k:=q1 e (Ka he)
 have a2:m*k+f+kk≤vs.size:=by
  have:(m+1)*k≤xs.length*k:=Nat.mul_le_mul_right _ hm
  rw [Nat.add_mul] at this; omega
 obtain⟨c1,c2,c3⟩:=(hf.ev y).cells hc
 have hr:=Gb1 (P:=P) (off:=m*k+f) hT (c1.trans hk) c3 q2 a2
 unfold Oper.wp
 have a5:(execOp a.eval o).run P w=.ok .skip (w.setRow b (vs.toList.take (m*k+f)++(a.eval y).cells.toList++vs.toList.drop (m*k+f+kk)).toArray):=by
  simp [execOp,ho,a4,hr]
 rw [a5]
 have h8:=setRow_heap w b vs (vs.toList.take (m*k+f)++(a.eval y).cells.toList++vs.toList.drop (m*k+f+kk)).toArray t (0,0) q2
 have h4:(vs.toList.take (m*k+f)++(a.eval y).cells.toList++vs.toList.drop (m*k+f+kk)).toArray.size=vs.size:=by
  simp [c1]; omega
 have h5:z.cells.length=k:=by
  rw [hz]; simp [hk]; omega
 obtain⟨st,sat⟩:=Qb (w':=w.setRow b (vs.toList.take (m*k+f)++(a.eval y).cells.toList++vs.toList.drop (m*k+f+kk)).toArray) (t:=t) (k:=k) (ver1:=ver) (xs':=xs.set m z) (ob':=β.at_ i) h3
  (.inr ⟨ver,xs,hi,Kc,fun _=>⟨by simp,rfl,fun b' h9=>by
   rw [hb] at h9; cases h9
   rw [World.shape?,h8,World.shape?,q2]; simp only [h4]⟩⟩) rfl rfl ⟨rfl,Kc⟩ (by simp)
  (fun b' _ h2=>setRow_other w b b' _ (fun e=>h2 (by rw [inL,hi]; rfl) (by rw [hb,e])))
  (.inr (.inl ⟨by rw [inL,hi]; rfl,rfl⟩))
 have a6:∀ y∈xs.set m z,y.cells.length=k:=fun y hy=>by
  rcases List.mem_or_eq_of_mem_set hy with h | h
  ·exact q1 y h
  ·rw [h]; exact h5
 refine hK _ _ _ _ _ ⟨rfl,rfl⟩ (sat ⟨a6,.inr ⟨b,hb,_,h8,by rw [h4]; simpa using q3,fun j u v hu hv=>?_⟩⟩) st .junk
 rw [Q1d q1 hm h5,hz] at hu
 have b3:(flat xs).length=xs.length*k:=Hs q1
 have b4:m*k+k≤xs.length*k:=by
  have:(m+1)*k≤xs.length*k:=Nat.mul_le_mul_right _ hm
  rwa [Nat.add_mul,Nat.one_mul] at this
 simp only [List.getElem?_toArray] at hv
 have old:∀ j',(flat xs)[j']? = some u→vs[j']? = some v→D _ _ u v:=fun j' a b=>(q4 j' u v a b).mono st.stab
 have h6:(e.cells.take f++(ev l y).cells++e.cells.drop (f+(ev l y).cells.length)).length=k:=by rw [← hz]; exact h5
 have h0:(a.eval y).cells.toList.length=kk:=by rw [Array.length_toList,c1,hk]
 rcases Er j (m*k) with hj | hj
 ·rw [List.append_assoc,Ke (by simp; omega),Kh,if_pos hj] at hu
  rw [List.append_assoc,Ke (by simp; omega),Kh,if_pos (by omega)] at hv
  exact old j hu (by simpa using hv)
 rcases Er j (m*k+k) with a7 | a7
 ·-- in the element
  rw [Ke (by rw [Kj,h6]; simp; omega),Kd (by simp; omega)] at hu
  have a8:(List.take (m*k) (flat xs)).length=m*k:=by simp; omega
  rw [a8] at hu
  rcases Er j (m*k+f) with a0 | a0
  ·rw [List.append_assoc,Ke (by simp; omega),Kh,if_pos (by omega)] at hu
   rw [List.append_assoc,Ke (by simp; omega),Kh,if_pos a0] at hv
   refine old j ?_ (by simpa using hv)
   rw [show j=m*k+(j - m*k) by omega,G5d q1 he (by omega)]; exact hu
  rcases Er j (m*k+f+kk) with a9 | a9
  ·rw [Ke (by simp [hk]; omega),Kd (by simp; omega)] at hu
   rw [Ke (by rw [Kj,h0]; simp; omega),Kd (by simp; omega)] at hv
   have l1:(List.take f e.cells).length=f:=by simp; omega
   have l2:(List.take (m*k+f) vs.toList).length=m*k+f:=by simp; omega
   rw [l1] at hu
   rw [l2] at hv
   rw [show j - m*k - f=j - (m*k+f) by omega] at hu
   have b0:u.isData=true:=by
    have b1:=Ka hu
    exact J52 (ok:=fun _=>false) hd u b1
   exact((c2 _ u v hu (by simpa using hv)).toD b0).mono st.stab
  ·rw [Kd (by simp [hk]; omega),Ki] at hu
   rw [Kd (by rw [Kj,h0]; simp; omega),Ki] at hv
   have l1:(List.take f e.cells++(ev l y).cells).length=f+kk:=by simp [hk]; omega
   have l2:(List.take (m*k+f) vs.toList++(a.eval y).cells.toList).length=m*k+f+kk:=by rw [Kj,h0]; simp; omega
   rw [l1,hk] at hu
   rw [l2] at hv
   refine old j ?_ ?_
   ·rw [show j=m*k+(j - m*k) by omega,G5d q1 he (by omega)]
    rw [show f+kk+(j - m*k - (f+kk))=j - m*k by omega] at hu; exact hu
   ·rw [show m*k+f+kk+(j - (m*k+f+kk))=j by omega] at hv; simpa using hv
 ·rw [Kd (by rw [Kj,h6]; simp; omega),Ki] at hu
  rw [Kd (by rw [Kj,h0]; simp; omega),Ki] at hv
  have l1:(List.take (m*k) (flat xs)++(e.cells.take f++(ev l y).cells++e.cells.drop (f+(ev l y).cells.length))).length=m*k+k:=by rw [Kj,h6]; simp; omega
  have l2:(List.take (m*k+f) vs.toList++(a.eval y).cells.toList).length=m*k+f+kk:=by rw [Kj,h0]; simp; omega
  rw [l1] at hu
  rw [l2] at hv
  refine old j ?_ ?_
  ·rw [show m*k+k+(j - (m*k+k))=j by omega] at hu; exact hu
  ·rw [show m*k+f+kk+(j - (m*k+f+kk))=j by omega] at hv; simpa using hv
end ops

section freeze
variable {P:Program} {N:Cfg} {Q:Post} {l l':Fr} {L L':Loc}

theorem V.vfreeze {w:World} {β:H2} {i ver n t k:Nat} {xs:List AV} {v:Value} (h0:Sat w β L) (hi:lk L i=some (.vec t k ver xs)) (h6:Hb7 L L') (h8:lk L' i=none) (h:V w β L (.vec i ver k n) v):V w β L' (.list k xs) v:=by
 obtain⟨rfl,hk,h⟩:=G18 h0 hi h
 rcases h with ⟨rfl,rfl,_⟩ | ⟨b,cap,vs,rfl,hb,h1,h2,h3,h4,h5⟩
 ·exact .data (.nil (Nat.zero_le _))
 ·have h7:∀ j,j < (flat xs).length→j < vs.size:=fun j hj=>by
   rw [Hs hk] at hj
   have:=Nat.mul_le_mul_right k h1
   omega
  refine .data (.list (fun j=>vs.getD j undef) h1 h2 hk (fun j hj=>⟨⟨(Ek h3).1,h0.apart i b _ (by rw [hi]; rfl) hb,fun id o ho h9=>?_⟩,?_⟩) (fun j u hu=>?_))
  ·obtain⟨o0,a0,_⟩:=h6.like id o ho
   have:=h0.inj i id b (by rw [hi]; rfl) (by rw [a0]; rfl) hb h9
   subst this
   rw [h8] at ho; cases ho
  ·have:=h7 j hj
   simp [World.cell?,h3,this]
  ·have hj:=(Ey hu).1
   have:=h7 j hj
   refine(h5 j u _ hu ?_).mono fun b i hs=>⟨h6.stab hs,rfl⟩
   simp [this]

inductive R90 (i ver k:Nat) (xs:List AV) (ok:Nat→Bool):AV→AV→Prop
 | conv {u u':AV} (h:Conv ok u u'):R90 i ver k xs ok u u'
 | vec {n:Nat}:R90 i ver k xs ok (.vec i ver k n) (.list k xs)
def J7d (i ver k:Nat) (xs:List AV) (ok:Nat→Bool) (l:Fr):Fr→Prop
 | []=>True
 | (t,u)::r=>R90 i ver k xs ok (look l t) u∧J7d i ver k xs ok l r
theorem J7d.get {i ver k:Nat} {xs:List AV} {ok:Nat→Bool} {l:Fr}:∀ {l':Fr},J7d i ver k xs ok l l'→∀ t,R90 i ver k xs ok (look l t) (look l' t)
 | [],_,t=>.conv .junk
 | (s,u)::r,h,t=>by
  simp only [look]
  cases hb:Nat.beq s t with
  | true=>have:=Eo hb; subst this; exact h.1
  | false=>exact J7d.get h.2 t

theorem Q6.vfreeze {w0 w:World} {β0 β:H2} {L0:Loc} {a:Act} (hs:Q6 N w0 β0 L0 a w β l L) (i:Nat) {t ver k:Nat} {xs:List AV} (hi:lk L i=some (.vec t k ver xs))
  (h2:lk L' i=none) (hl:G8e (fun j=>(lk L' j).isSome) L L') (hb:allIn L' N.base=true) (hf:J7d i ver k xs (fun j=>(lk L' j).isSome) l l'):Q6 N w0 β0 L0 a w β l' L':=by
 have h0:Fits N.base l L [] L':=⟨trivial,hl,hb⟩
 have h1:=hs.fits h0
 refine⟨h1.sat,h1.step,⟨fun t'=>?_⟩,h1.size,h1.base,h1.defers⟩
 have hv:=hs.frame.tmp t'
 generalize hu:look l t'=u at hv
 have hz:=hf.get t'
 rw [hu] at hz
 generalize look l' t'=u' at hz
 cases hz with
 | conv hc=>exact hv.conv h0.drop hc
 | vec=>exact hv.vfreeze hs.sat hi h0.drop h2
theorem Ge8 {c:Code} (l':Fr) (L':Loc) (i:Nat) {t ver k:Nat} {xs:List AV} (hi:lk L i=some (.vec t k ver xs)) (h0:lk L' i=none) (hl:G8e (fun j=>(lk L' j).isSome) L L') (hb:allIn L' N.base=true)
  (hf:J7d i ver k xs (fun j=>(lk L' j).isSome) l l') (hk:JC P N c Q l' L'):JC P N c Q l L:=fun n w0 β0 L0 a w β hs=>hk n w0 β0 L0 a w β (hs.vfreeze i hi h0 hl hb hf)
end freeze

def AV.noRef:AV→Bool
 | .junk=>true
 | .sc _=>true
 | .agg cs=>noRefL cs
 | .tup cs=>noRefL cs
 | .list _ []=>true
 | _=>false
where noRefL:List AV→Bool
 | []=>true
 | x::r=>x.noRef&&noRefL r
theorem G69:∀ {cs:List AV},AV.noRef.noRefL cs=true→∀ u∈cs,u.noRef=true
 | [],_,u,hu=>by cases hu
 | x::r,h,u,hu=>by
  simp only [AV.noRef.noRefL,Km] at h
  rcases Ks.1 hu with rfl | hu
  ·exact h.1
  ·exact G69 h.2 u hu
theorem D.noRef {w w':World} {S S':Nat→Nat→Prop} {u:AV} {v:Value} (h:D w S u v):u.noRef=true→D w' S' u v:=by
 induction h with
 | junk=>exact fun _=>.junk
 | sc=>exact fun _=>.sc
 | agg hl _ ih=>exact fun hr=>.agg hl fun j u v hu hv=>ih j u v hu hv (G69 (by simpa [AV.noRef] using hr) u (Ka hu))
 | tup hl _ ih=>exact fun hr=>.tup hl fun j u v hu hv=>ih j u v hu hv (G69 (by simpa [AV.noRef] using hr) u (Ka hu))
 | nil h=>exact fun _=>.nil h
 | @list k b off cap xs vals h0 hm _ _ _ _=>
  intro hr
  cases xs with
  | nil=>exact .nil hm
  | cons x r=>simp [AV.noRef] at hr
 | lnil=>exact fun hr=>by simp [AV.noRef] at hr
 | lst=>exact fun hr=>by simp [AV.noRef] at hr
 | dptr=>exact fun hr=>by simp [AV.noRef] at hr
 | fn=>exact fun hr=>by simp [AV.noRef] at hr
 | bfn=>exact fun hr=>by simp [AV.noRef] at hr
 | opt=>exact fun hr=>by simp [AV.noRef] at hr
 | dmap=>exact fun hr=>by simp [AV.noRef] at hr
 | bag=>exact fun hr=>by simp [AV.noRef] at hr

section calls
variable {P:Program} {o:Oper} {l:Fr} {L:Loc} {u:AV}

inductive G3f (L:Loc):AV→AV→Prop
 | data {u u':AV} (h:u.plain=u') (hd:u'.isData=true):G3f L u u'
 | vec {i ver k n t:Nat} {xs:List AV} (hi:lk L i=some (.vec t k ver xs)):G3f L (.vec i ver k n) (.list k xs)
 | agg {cs ds:List AV} (hl:ds.length=cs.length) (h:∀ (j:Nat) u u',cs[j]? = some u→ds[j]? = some u'→G3f L u u'):G3f L (.agg cs) (.agg ds)
def Gfd (L:Loc):List AV→List AV→Prop
 | [],[]=>True
 | u::r,u'::s=>G3f L u u'∧Gfd L r s
 | _,_=>False
theorem Gfd.len {L:Loc}:∀ {cs ds:List AV},Gfd L cs ds→ds.length=cs.length
 | [],[],_=>rfl
 | _::_,_::_,h=>by simp [Gfd.len h.2]
def Gff (l:Fr) (L:Loc):List Operand→List AV→Prop
 | [],[]=>True
 | x::r,u::s=>G3f L (ev l x) u∧Gff l L r s
 | _,_=>False
theorem Gff.length {l:Fr} {L:Loc}:∀ {xs:List Operand} {us:List AV},Gff l L xs us→xs.length=us.length
 | [],[],_=>rfl
 | _::r,_::s,h=>by simp [Gff.length h.2]
theorem G3f.D {w:World} {β:H2} {u u':AV} (h0:Sat w β L) (h:G3f L u u'):∀ {v:Value},V w β L u v→D w (fun b _=>b < w.heap.size) u' v:=by
 induction h with
 | agg hl _ ih=>
  intro v hv
  obtain⟨vs,rfl,h2,h3⟩:=hv.inv_agg
  refine .agg (h2.trans hl.symm) fun j u' x h1 hx=>?_
  have hj:j < _:=(Ey h1).1
  exact ih j _ u' (Ez (hl ▸ hj)) h1 (h3 j _ x (Ez (hl ▸ hj)) hx)
 | data h hd=>
  intro v hv
  subst h
  exact(hv.plain.toD hd).mono fun b i hs=>⟨hs.lt,rfl⟩
 | @vec i ver k n t xs hi=>
  intro v hv
  have hd:Hb7 L (L.filter fun p=>!Nat.beq p.1 i):=by
   refine⟨fun id o' h=>?_⟩
   have:lk L id=some o':=by
    clear h0 hi hv
    induction L with
    | nil=>simp [lk] at h
    | cons p r ih=>
     obtain⟨q,ob⟩:=p
     rw [List.filter_cons] at h
     by_cases e:(!Nat.beq (q,ob).1 i)=true
     ·rw [if_pos e,Ga] at h
      rw [Ga]
      by_cases e2:q=id
      ·rw [if_pos e2] at h ⊢; exact h
      ·rw [if_neg e2] at h ⊢; exact ih h
     ·rw [if_neg e] at h
      rw [Ga]
      by_cases e2:q=id
      ·exfalso
       subst e2
       have h4:q=i:=by
        cases hb:Nat.beq q i with
        | true=>exact Eo hb
        | false=>exact absurd (by simp [hb]) e
       subst h4
       have h5:∀ r:Loc,lk (r.filter fun p=>!Nat.beq p.1 q) q=none:=by
        intro r
        induction r with
        | nil=>rfl
        | cons p r ih2=>
         rw [List.filter_cons]
         by_cases e3:(!Nat.beq p.1 q)=true
         ·rw [if_pos e3,Ga,if_neg (fun e4=>by rw [e4] at e3; simp at e3)]; exact ih2
         ·rw [if_neg e3]; exact ih2
       rw [h5] at h; cases h
      ·rw [if_neg e2]; exact ih h
   exact⟨o',this,by cases o' <;> simp [J4.like]⟩
  have hn:lk (L.filter fun p=>!Nat.beq p.1 i) i=none:=by
   clear h0 hi hv hd
   induction L with
   | nil=>rfl
   | cons p r ih2=>
    rw [List.filter_cons]
    by_cases e3:(!Nat.beq p.1 i)=true
    ·rw [if_pos e3,Ga,if_neg (fun e4=>by rw [e4] at e3; simp at e3)]; exact ih2
    ·rw [if_neg e3]; exact ih2
  exact((hv.vfreeze h0 hi hd hn).inv_list).mono fun b i hs=>⟨hs.lt,rfl⟩

theorem Hfc {P:Program} {f:FuncId} {args:List AV} {R:AV→Prop} (hc:Pure P f args R) {w:World} {β:H2} (h0:Sat w β L) {vs:Array Value} (hl:vs.size=args.length)
  (hv:∀ (j:Nat) u v,args[j]? = some u→vs[j]? = some v→D w (fun b _=>b < w.heap.size) u v) (hr:∀ r,R r→r.noRef=true) :
  Calls P f vs w fun e w'=>∃ v r,e=.returned v∧Sat w' β L∧Step w β L w' β L∧V w' β L r v∧R r:=by
 have h4:∀ b i:Nat,b < w.heap.size→J7 w ⟨fun _=>none,fun _ _=>False⟩ [] b i:=fun b i hs=>⟨hs,fun h=>h,fun id o h=>by simp [lk] at h⟩
 refine(hc w ⟨fun _=>none,fun _ _=>False⟩ vs ⟨fun b i h=>h.elim,fun id b h=>by simp [lk] at h,fun id b j h=>by simp [lk] at h,fun id id' b h=>by simp [lk] at h,fun id o h=>by simp [lk] at h⟩ hl
  (fun j u v hu h5=>.data ((hv j u v hu h5).mono fun b i hs=>⟨h4 b i hs,rfl⟩))).mono fun e w' h=>?_
 obtain⟨v,r,β',L',he,h7,h3,h6,rfl,hR⟩:=h
 have far:∀ b,b < w.heap.size→w'.heap[b]? = w.heap[b]? := fun b hb=>(h3.far b hb (fun id h=>by simp [lk] at h)).1
 have stab:∀ b i,J7 w β L b i→J7 w' β L b i:=fun b i hs=>⟨Em hs.lt h3.size,hs.seen,hs.kept⟩
 have step:Step w β L w' β L:=⟨h3.os,h3.tape,h3.output,h3.size,fun _ _ _=>Iff.rfl,fun b i hs=>⟨stab b i hs,J6 (w:=w) (far b hs.lt)⟩,fun b hb hf=>⟨far b hb,hf⟩,
  fun _ _ cs h=>⟨rfl,cs,h⟩,fun _ _ cs h=>⟨rfl,cs,h⟩,fun _ _ n cs h=>⟨rfl,n,cs,h⟩,fun id _ _ ver xs h=>⟨ver,xs,h,Kc,fun _=>⟨rfl,rfl,fun b hb=>Yc (far b (h0.bnd id b (by rw [h]; rfl) hb))⟩⟩,fun id _ _ ver hw h=>⟨ver,hw,h,Kc,fun _=>⟨rfl,rfl,fun b hb=>far b (h0.bnd id b (by rw [h]; rfl) hb)⟩⟩⟩
 exact⟨v,r,he,⟨fun b i h=>Em (h0.hid b i h) h3.size,fun id b h1 h2=>Em (h0.bnd id b h1 h2) h3.size,h0.apart,h0.inj,fun id o h=>(h0.obj id o h).step step (fun b hb=>far b (h0.bnd id b (by rw [h]; rfl) hb))⟩,step,.data (h6.data_of_nil.noRef (hr r hR)),hR⟩

def H47 (l:Fr) (L0:Loc):List Operand→List AV→Prop
 | [],[]=>True
 | x::r,u::s=>(ev l x=u∨(ev l x).plain=u)∧u.refs (inL L0)=true∧H47 l L0 r s
 | _,_=>False
theorem H47.length {l:Fr} {L0:Loc}:∀ {xs:List Operand} {us:List AV},H47 l L0 xs us→xs.length=us.length
 | [],[],_=>rfl
 | _::r,_::s,h=>by simp [H47.length h.2.2]
theorem H47.get {l:Fr} {L0:Loc}:∀ {xs:List Operand} {us:List AV},H47 l L0 xs us→∀ {j:Nat} {x:Operand} {u:AV},xs[j]? = some x→us[j]? = some u→(ev l x=u∨(ev l x).plain=u)∧u.refs (inL L0)=true
 | [],[],_,j,x,u,h,_=>by simp at h
 | x::r,u::s,h,0,_,_,hx,hu=>by simp at hx hu; subst hx hu; exact⟨h.1,h.2.1⟩
 | x::r,u::s,h,j+1,_,_,hx,hu=>by simp at hx hu; exact H47.get h.2.2 hx hu

def J8e (L:Loc):Loc→Prop
 | []=>True
 | (i,ob)::r=>lk L i=some ob∧J8e L r
theorem J8e.get {L:Loc}:∀ {L0:Loc},J8e L L0→∀ {id:Nat} {ob:J4},lk L0 id=some ob→lk L id=some ob
 | [],_,id,ob,h=>by simp [lk] at h
 | (i,o')::r,hs,id,ob,h=>by
  rw [Ga] at h
  by_cases e:i=id
  ·subst e; rw [if_pos rfl] at h; cases h; exact hs.1
  ·rw [if_neg e] at h; exact J8e.get hs.2 h
def closedIn (ok:Nat→Bool):Loc→Bool
 | []=>true
 | (_,ob)::r=>ob.refs ok&&closedIn ok r
theorem closedIn.get {ok:Nat→Bool}:∀ {L0:Loc},closedIn ok L0=true→∀ {id:Nat} {ob:J4},lk L0 id=some ob→ob.refs ok=true
 | [],_,id,ob,h=>by simp [lk] at h
 | (i,o')::r,hs,id,ob,h=>by
  simp only [closedIn,Km] at hs
  rw [Ga] at h
  by_cases e:i=id
  ·subst e; rw [if_pos rfl] at h; cases h; exact hs.1
  ·rw [if_neg e] at h; exact closedIn.get hs.2 h
def Gb2 (L L0:Loc):Loc→Bool
 | []=>true
 | (i,_)::r=>(inL L0 i||!inL L i)&&Gb2 L L0 r
theorem Gb2.get {L L0:Loc}:∀ {Lr:Loc},Gb2 L L0 Lr=true→∀ {id:Nat},inL Lr id=true→inL L0 id=true∨lk L id=none
 | [],_,id,h=>by simp [inL,lk] at h
 | (i,_)::r,hs,id,h=>by
  simp only [Gb2,Km,Ku,Bool.not_eq_true'] at hs
  rw [inL,Ga] at h
  by_cases e:i=id
  ·subst e
   exact hs.1.imp id (fun h=>by simpa [inL] using h)
  ·rw [if_neg e] at h; exact Gb2.get hs.2 h

theorem Jb9 {f:FuncId} {vs:Array Value} {args:List AV} {L0 Lr L'':Loc} {a:Act} {w:World} {β:H2} {K:Act→World→Prop} {Q:Exit→Act→World→Prop} (hc:Q8 P f args L0 (fun r L'=>r=u∧L'=Lr)) (h0:Sat w β L)
  (h4:J8e L L0) (h6:closedIn (inL L0) L0=true) (h5:Gb2 L L0 Lr=true) (hL:Lr++Gf4 L L0=L'') (hl:vs.size=args.length)
  (hv:∀ (j:Nat) u v,args[j]? = some u→vs[j]? = some v→V w β L u v∧u.refs (inL L0)=true)
  (hK:∀ u' L' v w' β',Is u L'' u' L'→Sat w' β' L'→Step w β L w' β' L'→V w' β' L' u' v→K (a.put o.dst v) w') :
  Calls P f vs w fun
   | .returned v,w''=>K (a.put o.dst v) w''
   | .panicked chain,w''=>Q (.panic chain) a w''
   | .outgrown,_=>LetsOut Q:=by
 refine(J61 hc h0 (fun id ob h=>h4.get h) (fun id ob h=>closedIn.get h6 h) hl hv (fun r L' hR id h=>by rw [hR.2] at h; exact Gb2.get h5 h)).mono fun e w' h=>?_
 obtain⟨v,r,β',L',rfl,⟨rfl,rfl⟩,h1,h2,h3⟩:=h
 unfold Gc0 at h1 h2 h3
 rw [hL] at h1 h2 h3
 exact hK _ _ v w' _ ⟨rfl,rfl⟩ h1 h2 h3

theorem Gd0 {f:FuncId} {xs:List Operand} {args:List AV} {ts:Array TypeId} {L0 Lr L'':Loc} (ho:o.op=.call { callee:=.value (.func f),args:=xs.toArray,argTypes:=ts }) (hc:Q8 P f args L0 (fun r L'=>r=u∧L'=Lr)) (hB:Hr P f=true) (ha:H47 l L0 xs args)
  (h0:J8e L L0) (h5:closedIn (inL L0) L0=true) (h3:Gb2 L L0 Lr=true) (hL:Lr++Gf4 L L0=L''):Gt P o l L (Is u L''):=by
 intro a w β K Q h4 hf hK
 have hr:(execOp a.eval o).run P w=.ok (.enter f (xs.toArray.map a.eval)) w:=by
  simp [execOp,ho,resolve,Act.eval,Deferred.ofValue,invoke,Hr.out hB]
 unfold Oper.wp
 rw [hr]
 refine Jb9 hc h4 h0 h5 h3 hL (by simp [ha.length]) (fun j u v hu hv=>?_) hK
 simp only [Array.getElem?_map,List.getElem?_toArray,Option.map_eq_some_iff] at hv
 obtain⟨x,hx,rfl⟩:=hv
 obtain⟨h1,h2⟩:=ha.get hx hu
 refine⟨?_,h2⟩
 rcases h1 with h1 | h1
 ·rw [← h1]; exact hf.ev x
 ·rw [← h1]; exact(hf.ev x).plain

end calls

section ops
variable {P:Program} {N:Cfg} {Q:Post} {o:Oper} {ops:Array Oper} {rest:List Oper} {l:Fr} {L L':Loc} {u:AV} {α:Type}

theorem G30 {s x:Operand} {T E k by_ i ver ver1 n kx:Nat} {f:α→AV} {xs ys:List α} (ho:o.op=.call { callee:=.builtin .append,args:=#[s,x],argTypes:=#[T,T] }) (hs:ev l s=.vec i ver k n) (hi:lk L i=some (.vec E k ver (xs.map f))) (hx:Jj (ev l x)=some (kx,ys.map f))
  (hT:sliceB P T E k=true) (hE:Qw P E k by_=true) (hb:decide ((xs.length+ys.length)*by_≤140737488355328∧xs.length+ys.length≤maxLen)=true) (h0:∀ y,(f y).flatOk=true) (hk:kx=k∨ys=[]) (hv:ver < ver1) :
  Gt P o l L (Is (.vec i ver1 k (xs++ys).length) ((i,.vec E k ver1 ((xs++ys).map f))::L)):=by
 have h1:=Eu hb
 have h:=Jc2 (xs:=xs.map f) (ys:=ys.map f) ho hs hi hx hT hE (by simpa using h1.1) (by simpa using h1.2) (fun y hy=>by
  obtain⟨z,_,rfl⟩:=Kq.1 hy
  exact h0 z) (hk.imp id (fun e=>by rw [e]; rfl)) hv
 simpa only [List.map_append,Kj,Ko] using h
theorem Zw {x ix:Operand} {T E k i ver n m:Nat} {kd:IntKind} {z:Int} {f:α→AV} {xs:List α} {y:α} (ho:o.op=.indexAddr T x ix) (hx:ev l x=.vec i ver k n) (h0:ev l ix=.sc (.int kd z)) (hi:lk L i=some (.vec E k ver (xs.map f))) (hT:sliceB P T E k=true) (hy:xs[m]? = some y) (hz:z=(m:Int)) :
  Gt P o l L (Is (.vptr i ver m 0) L):=Hb8 ho hx h0 hi hT (by rw [Ko]; exact(Ey hy).1) hz
theorem Gbc {x:Operand} {T i ver m fo t k:Nat} {f:α→AV} {xs:List α} {y:α} (hT:Qp P T=true) (ho:o.op=.load T x) (hx:ev l x=.vptr i ver m fo) (hi:lk L i=some (.vec t k ver (xs.map f))) (hy:xs[m]? = some y) (hu:(f y).cells[fo]? = some u) (h0:Nat.blt fo k=true):Gt P o l L (Is u L):=
 Hec hT ho hx hi (R77 hy) hu (by simpa [Nat.blt_eq] using h0)
theorem G7b {x:Operand} {T i ver m fo t k kk:Nat} {f:α→AV} {xs:List α} {ds:List AV} {y:α} (hT:Gcc P T kk=true) (ho:o.op=.load T x) (hx:ev l x=.vptr i ver m fo) (hi:lk L i=some (.vec t k ver (xs.map f))) (hy:xs[m]? = some y) (h0:takeN kk ((f y).cells.drop fo)=some ds) (h1:Nat.ble (fo+kk) k=true):Gt P o l L (Is (.agg ds) L):=
 Q9e hT ho hx hi (R77 hy) h0 (by simpa [Nat.ble_eq] using h1)
theorem Q7d {us cs:List AV} (h:us.length=cs.length):H30 0 us cs=some us:=by
 have key:∀ (us cs:List AV),us.length=cs.length→H30 0 us cs=some us:=by
  intro us
  induction us with
  | nil=>intro cs h; cases cs with
   | nil=>rfl
   | cons c r=>simp at h
  | cons a r ih=>intro cs h; cases cs with
   | nil=>simp at h
   | cons c s=>simp [H30,ih s (by simpa using h)]
 exact key us cs h
theorem H1e {x y:Operand} {T i ver m t k:Nat} {f:α→AV} {xs:List α} {z:α} (hT:Rx P T k=true) (ho:o.op=.store T x y) (hu:ev l y=f z) (hx:ev l x=.vptr i ver m 0) (hi:lk L i=some (.vec t k ver (xs.map f))) (hm:m < xs.length)
  (hc:(f z).flatOk=true) (hd:(f z).isData=true) (hk:(f z).cells.length=k) (h1:Nat.blt 0 k=true) :
  Gt P o l L (Is .junk ((i,.vec t k ver ((xs.set m z).map f))::L)):=by
 intro a w β K Q h0 hf hK
 obtain⟨o1,_⟩:=h0.obj i _ hi
 have he:(xs.map f)[m]? = some (f xs[m]):=by simp [hm]
 have h2:(f xs[m]).cells.length=k:=o1 _ (Ka he)
 have h:=J84 (P:=P) (e:=f xs[m]) (z:=f z) (ds:=(f z).cells) hT ho hu hx hi he hc hd (Q7d (hk.trans h2.symm)) rfl hk h1
 rw [← List.map_set] at h
 exact h a w β K Q h0 hf hK
end ops

structure Qk (κ ν:Type) where
 l:List (κ×ν)
 nd:(l.map (·.1)).Nodup
namespace Qk
variable {κ ν:Type} [DecidableEq κ]
def empty:Qk κ ν:=⟨[],List.nodup_nil⟩
def put (m:Qk κ ν) (a:κ) (v:ν):Qk κ ν:=⟨Gca m.l a v,H32 m.nd a v⟩
def get (m:Qk κ ν) (a:κ) (z:ν):ν:=(G3a m.l a).getD z
def has (m:Qk κ ν) (a:κ):Bool:=G11 m.l a
def size (m:Qk κ ν):Nat:=m.l.length
end Qk
def MP {κ ν:Type} (T:Nat) (kv:κ→Value) (av:ν→AV) (m:Qk κ ν):J4:=.map T (mapOf kv av m.l)
section ops
variable {P:Program} {N:Cfg} {o:Oper} {l:Fr} {L L':Loc} {u:AV} {κ ν:Type} {kv:κ→Value} {av:ν→AV}

theorem Qa2 (i:Nat) {T:Nat} (kv:κ→Value) (av:ν→AV) (ho:o.op=.makeMap T none) (hi:lk L i=none) (h0:Nat.blt T 1000000=true:=by rfl):Gt P o l L (Is (.mp i) ((i,MP T kv av Qk.empty)::L)):=R07 i ho hi h0
theorem Jc5 [DecidableEq κ] {x y:Operand} {T K E i:Nat} {ok:Bool} {m:Qk κ ν} {a:κ} (z0:ν) (zv:Value) (ho:o.op=.lookup T x y ok) (hm:ev l x=.mp i) (hi:lk L i=some (MP T kv av m))
  (hx:ev l y=Qy (kv a)) (hk:G7d P K kv) (hT:Yv P T K E=true) (hz:(P.info? E).bind (·.zero)=some zv) (h0:av z0=Qy zv) :
  Gt P o l L (Is (bif ok then .tup [av (m.get a z0),BL (m.has a)] else av (m.get a z0)) L):=J87 z0 zv ho hm hi m.nd hx hk hT hz h0
theorem Qa3 [DecidableEq κ] {x y:Operand} {T K E i:Nat} {m:Qk κ ν} {a:κ} (z0:ν) (zv:Value) (ho:o.op=.lookup T x y true) (hm:ev l x=.mp i) (hi:lk L i=some (MP T kv av m))
  (hx:ev l y=Qy (kv a)) (hk:G7d P K kv) (hT:Yv P T K E=true) (hz:(P.info? E).bind (·.zero)=some zv) (h0:av z0=Qy zv) :
  Gt P o l L (Is (.tup [av (m.get a z0),BL (m.has a)]) L):=Jc5 (ok:=true) z0 zv ho hm hi hx hk hT hz h0
theorem Hed [DecidableEq κ] {x y z:Operand} {T K E i:Nat} {m:Qk κ ν} {a:κ} {v:ν} (ho:o.op=.mapUpdate T x y z) (hm:ev l x=.mp i) (hi:lk L i=some (MP T kv av m))
  (hx:ev l y=Qy (kv a)) (hy:(ev l z).plain=av v) (h0:(av v).isData=true) (hk:G7d P K kv) (hT:Yv P T K E=true) :
  Gt P o l L (Is .junk ((i,MP T kv av (m.put a v))::L)):=Q3b ho hm hi m.nd hx hy h0 hk hT
end ops

section ops
variable {P:Program} {N:Cfg} {Q:Post} {o:Oper} {l:Fr} {L L':Loc} {u:AV} {κ ν:Type} {kv:κ→Value} {av:ν→AV}
end ops

/-! ### Ranging over a map: every order of its entries -/
section range
variable {α β σ:Type}
def Jcc (b:α→σ→(σ→Option (σ ⊕ β))→Option (σ ⊕ β)) (kx:σ→Option β):List α→σ→Option β
 | [],s=>kx s
 | x::xs,s=>match b x s (fun s'=>some (.inl s')) with
  | some (.inl s')=>Jcc b kx xs s'
  | some (.inr r)=>some r
  | none=>none
def Q1f (b:α→σ→(σ→Option (σ ⊕ Prop))→Option (σ ⊕ Prop)) (kx:σ→Option Prop) (l:List α) (s:σ):Option Prop:=
 some (∀ q:List α,q.Perm l→∃ p,Jcc b kx q s=some p∧p)
theorem Ja1 {b:α→σ→(σ→Option (σ ⊕ Prop))→Option (σ ⊕ Prop)} {kx:σ→Option Prop} {x:α} {xs:List α} {s:σ} (h:∃ p,Jcc b kx (x::xs) s=some p∧p) :
  ∃ o,b x s (fun s'=>some (.inl s'))=some o∧(∀ r,o=.inr r→r)∧∀ s',o=.inl s'→∃ p,Jcc b kx xs s'=some p∧p:=by
 obtain⟨p,h,hp⟩:=h
 rw [Jcc] at h
 cases hb:b x s (fun s'=>some (.inl s')) with
 | none=>rw [hb] at h; cases h
 | some o=>
  rw [hb] at h
  cases o with
  | inl s'=>exact⟨_,rfl,(fun r e=>by cases e),(fun s2 e=>by cases e; exact⟨p,h,hp⟩)⟩
  | inr r=>cases h; exact⟨_,rfl,(fun r2 e=>by cases e; exact hp),(fun s2 e=>by cases e)⟩
def MInv (b:α→σ→(σ→Option (σ ⊕ Prop))→Option (σ ⊕ Prop)) (kx:σ→Option Prop) (l:List α) (seen:List Nat) (s:σ):Prop:=
 (seen.Nodup∧∀ j∈seen,j < l.length)∧∀ q:List α,(seen.filterMap (fun j=>l[j]?)++q).Perm l→∃ p,Jcc b kx q s=some p∧p
theorem MInv.start {b:α→σ→(σ→Option (σ ⊕ Prop))→Option (σ ⊕ Prop)} {kx:σ→Option Prop} {l:List α} {s:σ} {p:Prop} (h:Q1f b kx l s=some p) (hp:p):MInv b kx l [] s:=by
 cases h
 exact⟨⟨List.nodup_nil,by simp⟩,by simpa using hp⟩
theorem J55 {l:List α} {seen:List Nat} (hn:seen.Nodup) (hb:∀ j∈seen,j < l.length):∃ q,(seen.filterMap (fun j=>l[j]?)++q).Perm l:=by
 have h1:∃ r,(seen++r).Perm (List.range l.length):=by
  refine⟨(List.range l.length).filter (fun j=>!seen.contains j),?_⟩
  refine(List.perm_ext_iff_of_nodup ?_ List.nodup_range).2 (fun j=>?_)
  ·refine List.nodup_append.2 ⟨hn,List.nodup_range.filter _,fun a ha b h0=>?_⟩
   have:=(Kt.1 h0).2
   intro e; subst e; simp [ha] at this
  ·simp only [Kp,Kt,List.mem_range,Bool.not_eq_true',List.contains_eq_mem,decide_eq_false_iff_not]
   constructor
   ·rintro(h | h)
    ·exact hb j h
    ·exact h.1
   ·intro h
    by_cases hs:j∈seen
    ·exact .inl hs
    ·exact .inr ⟨h,hs⟩
 obtain⟨r,hr⟩:=h1
 have h2:=hr.filterMap (fun j=>l[j]?)
 have h3:(List.range l.length).filterMap (fun j=>l[j]?)=l:=by
  have key:∀ (l m:List α),(List.range' m.length l.length).filterMap (fun j=>(m++l)[j]?)=l:=by
   intro l
   induction l with
   | nil=>intro m; rfl
   | cons a r ih=>
    intro m
    have h1:=ih (m++[a])
    rw [Kf,List.range'_succ,List.filterMap_cons_some (b:=a) (by simp)]
    congr 1
    simpa using h1
  have:=key l []
  simpa [List.range_eq_range'] using this
 rw [List.filterMap_append,h3] at h2
 exact⟨_,h2⟩
theorem MInv.step {b:α→σ→(σ→Option (σ ⊕ Prop))→Option (σ ⊕ Prop)} {kx:σ→Option Prop} {l:List α} {seen:List Nat} {s:σ} {j:Nat} {e:α} (h:MInv b kx l seen s) (hj:l[j]? = some e) (hs:j ∉ seen) :
  ∃ o,b e s (fun s'=>some (.inl s'))=some o∧(∀ r,o=.inr r→r)∧∀ s',o=.inl s'→MInv b kx l (seen++[j]) s':=by
 obtain⟨⟨h1,h2⟩,h3⟩:=h
 have hn:(seen++[j]).Nodup:=List.nodup_append.2 ⟨h1,by simp,fun a ha b hb=>by simp at hb; subst hb; intro e; subst e; exact hs ha⟩
 have hb:∀ i∈seen++[j],i < l.length:=fun i hi=>by
  rcases Kp.1 hi with hi | hi
  ·exact h2 i hi
  ·simp at hi; subst hi; exact(Ey hj).1
 have h0:(seen++[j]).filterMap (fun j=>l[j]?)=seen.filterMap (fun j=>l[j]?)++[e]:=by
  rw [List.filterMap_append]; simp [hj]
 obtain⟨q,hq⟩:=J55 (l:=l) hn hb
 rw [h0,List.append_assoc] at hq
 obtain⟨o,o1,o2,_⟩:=Ja1 (h3 (e::q) hq)
 refine⟨o,o1,o2,fun s' ho=>⟨⟨hn,hb⟩,fun q' h4=>?_⟩⟩
 rw [h0,List.append_assoc] at h4
 obtain⟨o',p1,_,p3⟩:=Ja1 (h3 (e::q') h4)
 rw [o1] at p1; cases p1
 exact p3 s' ho
theorem MInv.done {b:α→σ→(σ→Option (σ ⊕ Prop))→Option (σ ⊕ Prop)} {kx:σ→Option Prop} {l:List α} {seen:List Nat} {s:σ} (h:MInv b kx l seen s) (ha:∀ j,j < l.length→j∈seen):∃ p,kx s=some p∧p:=by
 obtain⟨⟨h1,h2⟩,h3⟩:=h
 obtain⟨q,hq⟩:=J55 (l:=l) h1 h2
 have hl:(seen.filterMap (fun j=>l[j]?)).length=l.length:=by
  have hp:seen.Perm (List.range l.length):=(List.perm_ext_iff_of_nodup h1 List.nodup_range).2 (fun j=>by
   rw [List.mem_range]; exact⟨h2 j,ha j⟩)
  have h5:(seen.filterMap (fun j=>l[j]?)).length=seen.length:=by
   have:∀ s:List Nat,(∀ j∈s,j < l.length)→(s.filterMap (fun j=>l[j]?)).length=s.length:=by
    intro s
    induction s with
    | nil=>intro _; rfl
    | cons a r ih=>
     intro hs
     have ha:=hs a (by simp)
     rw [List.filterMap_cons_some (by simp [ha]; rfl),Kf,ih (fun j hj=>hs j (by simp [hj])),Kf]
   exact this seen h2
  rw [h5,hp.length_eq,List.length_range]
 have h0:q=[]:=by
  have:=hq.length_eq
  rw [Kj,hl] at this
  exact En (by omega)
 subst h0
 exact h3 [] hq
end range
end Go.Proofs.Ytokjlondbjdlfaa
