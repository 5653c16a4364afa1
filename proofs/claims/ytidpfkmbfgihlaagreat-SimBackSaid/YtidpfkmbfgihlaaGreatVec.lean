/-
 Slices that the call may write in place: made,appended to,read,written,frozen,lent.
-/
import Derived.Test.YtidpfkmbfgihlaaGreatFrames
set_option linter.unusedSimpArgs false
namespace Go.Proofs.YtidpfkmbfgihlaaGreat
open Go.RowKit

theorem Gbf {k:Nat}:∀ {xs:List AV},(∀ x∈xs,x.cells.length=k)→∀ {m f:Nat} {y:AV},xs[m]? = some y→f < k→(flat xs)[m*k+f]? = y.cells[f]?
 | [],_,m,f,y,h,_=>by simp at h
 | x::r,hk,m,f,y,h,hf=>by
  have hx:=hk x (by simp)
  cases m with
  | zero=>
   simp at h; subst h
   rw [flat,Nat.zero_mul,Nat.zero_add,List.getElem?_append_left (by omega)]
  | succ m=>
   simp at h
   rw [flat,show (m+1)*k+f=k+(m*k+f) by rw [Nat.add_mul]; omega,List.getElem?_append_right (by omega),hx,show k+(m*k+f) - k=m*k+f by omega]
   exact Gbf (fun y hy=>hk y (by simp [hy])) h hf
theorem R82 {k:Nat}:∀ {xs:List AV},(∀ x∈xs,x.cells.length=k)→∀ {m:Nat} {z:AV},m < xs.length→z.cells.length=k→flat (xs.set m z)=(flat xs).take (m*k)++z.cells++(flat xs).drop (m*k+k)
 | [],_,m,z,h,_=>by simp at h
 | x::r,hk,m,z,h,hz=>by
  have hx:=hk x (by simp)
  cases m with
  | zero=>simp [flat,hx]
  | succ m=>
   have ih:=R82 (xs:=r) (fun y hy=>hk y (by simp [hy])) (m:=m) (z:=z) (by simpa using h) hz
   have e1:(m+1)*k=x.cells.length+m*k:=by rw [hx,Nat.add_mul]; omega
   rw [List.set_cons_succ,flat,ih,flat,e1,List.take_length_add_append,Nat.add_assoc,List.drop_length_add_append]
   simp [List.append_assoc]

section moves
variable {w w':World} {β:H4} {L:Loc} {i t k ver1:Nat} {xs':List AV}
theorem Ru {ob':Option Nat} (hsat:Sat w β L)
  (hold:lk L i=none∨∃ ver xs,lk L i=some (.vec t k ver xs)∧ver≤ver1∧(ver1=ver→xs'.length=xs.length∧ob'=β.at_ i∧∀ b,β.at_ i=some b→w'.shape? b=w.shape? b))
  (hos:w'.os=w.os) (htp:w'.tape=w.tape) (hout:w'.output=w.output∧w.drawn≤w'.drawn) (hsz:w.heap.size≤w'.heap.size)
  (hoth:∀ b,b < w.heap.size→(inL L i=true→β.at_ i≠some b)→w'.heap[b]? = w.heap[b]?)
  (hob:ob'=none∨(inL L i=true∧ob'=β.at_ i)∨∃ b,ob'=some b∧w.heap.size≤b∧b < w'.heap.size) :
  Step w β L w' (upP β i ob') ((i,.vec t k ver1 xs')::L) ∧
  (Gdd w' (upP β i ob') ((i,.vec t k ver1 xs')::L) ob' (.vec t k ver1 xs')→Sat w' (upP β i ob') ((i,.vec t k ver1 xs')::L)):=by
 have hbi:∀ id b,(lk L id).isSome=true→β.at_ id=some b→i≠id→w'.heap[b]? = w.heap[b]? := by
  intro id b h1 h2 hne
  refine hoth b (hsat.bnd id b h1 h2) (fun h3 h4=>hne ?_)
  exact hsat.inj i id b h3 h1 h4 h2
 have hat:∀ id,i≠id→(upP β i ob').at_ id=β.at_ id:=fun id e=>by simp [upP,Ne.symm e]
 have hati:(upP β i ob').at_ i=ob':=by simp [upP]
 have fresh:∀ b,ob'=some b→(inL L i=true∧β.at_ i=some b)∨(w.heap.size≤b∧b < w'.heap.size):=by
  intro b hb
  rcases hob with h | ⟨h1,h2⟩ | ⟨b',h1,h2,h3⟩
  ·rw [h] at hb; cases hb
  ·exact .inl ⟨h1,by rw [← h2,hb]⟩
  ·rw [h1] at hb; cases hb; exact .inr ⟨h2,h3⟩
 have stabne:∀ b j,Jt w β L b j→inL L i=true→β.at_ i≠some b:=by
  intro b j hs hin hb
  obtain⟨o,ho⟩:=Option.isSome_iff_exists.1 hin
  have hk:=hs.kept i o ho hb
  rcases hold with h | ⟨ver,xs,h,_⟩
  ·rw [h] at ho; cases ho
  ·rw [h] at ho; cases ho; exact hk
 have st:Step w β L w' (upP β i ob') ((i,.vec t k ver1 xs')::L):=by
  refine⟨hos,htp,hout,hsz,fun _ _ _=>Iff.rfl,fun b j hs=>⟨⟨Nat.lt_of_lt_of_le hs.lt hsz,hs.seen,fun id o hid hb=>?_⟩,Q2 (w:=w) (hoth b hs.lt (stabne b j hs))⟩,fun b hb hf=>⟨hoth b hb (fun h=>hf i h),fun id hid e=>?_⟩,fun id t' cs hid=>?_,fun id t' cs hid=>?_,fun id t' n cs hid=>?_,fun id t' k' vr zs hid=>?_,fun id t' k' vr hw hid=>?_⟩
  ·rw [Gh] at hid
   by_cases e:i=id
   ·subst e
    rw [hati] at hb
    rcases fresh b hb with ⟨h1,h2⟩ | ⟨h1,_⟩
    ·exact absurd h2 (stabne b j hs h1)
    ·have:=hs.lt; omega
   ·rw [if_neg e] at hid; rw [hat id e] at hb; exact hs.kept id o hid hb
  ·rw [Gh] at hid
   by_cases e':i=id
   ·subst e'
    rw [hati] at e
    rcases fresh b e with ⟨h1,h2⟩ | ⟨h1,_⟩
    ·exact hf i h1 h2
    ·omega
   ·rw [if_neg e'] at hid; rw [hat id e'] at e; exact hf id hid e
  ·have e:i≠id:=fun e=>by subst e; rcases hold with h | ⟨_,_,h,_⟩ <;> rw [h] at hid <;> cases hid
   exact⟨hat id e,cs,by rw [Gh,if_neg e]; exact hid⟩
  ·have e:i≠id:=fun e=>by subst e; rcases hold with h | ⟨_,_,h,_⟩ <;> rw [h] at hid <;> cases hid
   exact⟨hat id e,cs,by rw [Gh,if_neg e]; exact hid⟩
  ·have e:i≠id:=fun e=>by subst e; rcases hold with h | ⟨_,_,h,_⟩ <;> rw [h] at hid <;> cases hid
   exact⟨hat id e,n,cs,by rw [Gh,if_neg e]; exact hid⟩
  ·rw [Gh]
   by_cases e:i=id
   ·subst e
    rcases hold with h | ⟨ver,xs,h,h1,h2⟩
    ·rw [h] at hid; cases hid
    ·rw [h] at hid; cases hid
     refine⟨ver1,xs',if_pos rfl,h1,fun e=>?_⟩
     obtain⟨q1,q2,q3⟩:=h2 e
     exact⟨q1,hati.trans q2,q3⟩
   ·exact⟨vr,zs,by rw [if_neg e]; exact hid,Nat.le_refl _,fun _=>⟨rfl,hat id e,fun b hb=>G12 (hbi id b (by rw [hid]; rfl) hb e)⟩⟩
  ·have e:i≠id:=fun e=>by subst e; rcases hold with h | ⟨_,_,h,_⟩ <;> rw [h] at hid <;> cases hid
   exact⟨vr,hw,by rw [Gh,if_neg e]; exact hid,Nat.le_refl _,fun _=>⟨rfl,hat id e,fun b hb=>hbi id b (by rw [hid]; rfl) hb e⟩⟩
 refine⟨st,fun hobj=>⟨fun b j h=>Nat.lt_of_lt_of_le (hsat.hid b j h) hsz,fun id b hid hb=>?_,fun id b j hid hb hh=>?_,fun id id' b h1 h2 h3 h4=>?_,fun id o hid=>?_⟩⟩
 ·rw [Gh] at hid
  by_cases e:i=id
  ·subst e
   rw [hati] at hb
   rcases fresh b hb with ⟨h1,h2⟩ | ⟨_,h2⟩
   ·exact Nat.lt_of_lt_of_le (hsat.bnd i b h1 h2) hsz
   ·exact h2
  ·rw [if_neg e] at hid; rw [hat id e] at hb; exact Nat.lt_of_lt_of_le (hsat.bnd id b hid hb) hsz
 ·rw [Gh] at hid
  by_cases e:i=id
  ·subst e
   rw [hati] at hb
   rcases fresh b hb with ⟨h1,h2⟩ | ⟨h1,_⟩
   ·exact hsat.apart i b j h1 h2 hh
   ·have:=hsat.hid b j hh; omega
  ·rw [if_neg e] at hid; rw [hat id e] at hb; exact hsat.apart id b j hid hb hh
 ·have key:∀ id,i≠id→(lk ((i,Jh.vec t k ver1 xs')::L) id).isSome=true→(upP β i ob').at_ id=some b→ob'=some b→False:=by
   intro id e h1 h3 hb
   rw [Gh,if_neg e] at h1
   rw [hat id e] at h3
   rcases fresh b hb with ⟨h5,h6⟩ | ⟨h5,_⟩
   ·exact e (hsat.inj i id b h5 h1 h6 h3)
   ·have:=hsat.bnd id _ h1 h3; omega
  by_cases e:i=id
  ·by_cases e':i=id'
   ·rw [← e,e']
   ·subst e; rw [hati] at h3; exact(key id' e' h2 h4 h3).elim
  ·by_cases e':i=id'
   ·subst e'; rw [hati] at h4; exact(key id e h1 h3 h4).elim
   ·rw [Gh,if_neg e] at h1
    rw [Gh,if_neg e'] at h2
    rw [hat id e] at h3
    rw [hat id' e'] at h4
    exact hsat.inj id id' b h1 h2 h3 h4
 ·rw [Gh] at hid
  by_cases e:i=id
  ·subst e
   rw [if_pos rfl] at hid; cases hid
   rw [hati]; exact hobj
  ·rw [if_neg e] at hid
   rw [hat id e]
   exact(hsat.obj id o hid).step st (fun b hb=>hbi id b (by rw [hid]; rfl) hb e)

theorem G5b {n ver:Nat} {xs:List AV} {x:Value} (hsat:Sat w β L) (hi:lk L i=some (.vec t k ver xs)) (hv:V w β L (.vec i ver k n) x) :
  n=xs.length∧(∀ y∈xs,y.cells.length=k)∧((x=.slice none 0 0∧xs=[]∧β.at_ i=none) ∨
   ∃ b cap vs,x=.slice (some ⟨b,0,none⟩) xs.length cap∧β.at_ i=some b∧xs.length≤cap∧cap≤maxLen∧w.heap[b]? = some (.cells vs t (0,0))∧vs.size=cap*k ∧
    ∀ (j:Nat) u v,(flat xs)[j]? = some u→vs[j]? = some v→D w (Jt w β L) u v):=by
 have hobj:=hsat.obj i _ hi
 cases hv with
 | data h=>cases h
 | vec hp hone=>
  obtain⟨t',ver',xs',h1,h2,h3⟩:=hp
  rw [hi] at h1; cases h1
  obtain⟨rfl,h4⟩:=h3 rfl
  obtain⟨o1,o2⟩:=hobj
  refine⟨rfl,o1,?_⟩
  rcases h4 with ⟨rfl,h5,h6⟩ | ⟨b,cap,rfl,h6,h7,h8,h9⟩
  ·exact .inl ⟨rfl,List.eq_nil_of_length_eq_zero h5,h6⟩
  ·right
   rcases o2 with ⟨o3,_⟩ | ⟨b',o3,vs,o4,o5,o6⟩
   ·rw [h6] at o3; cases o3
   ·rw [h6] at o3; cases o3
    have hs:vs.size=cap*k:=by
     have:=h9
     simp [World.shape?,o4] at this
     exact this
    exact⟨b,cap,vs,rfl,h6,h7,h8,o4,hs,o6⟩
end moves

section ops
variable {P:Program} {N:Cfg} {o:Oper} {l:Fr} {L L':Loc} {u:AV} {α:Type}

theorem H44 (i E k:Nat) {x:Operand} (ho:o.op=.assign x) (hx:ev l x=.sc (.slice none 0 0)) (hi:lk L i=none):H0 P o l L (Is (.vec i 0 k 0) ((i,.vec E k 0 [])::L)):=by
 intro a w β K Q hsat hf hK
 have hv:=hf.ev x
 rw [hx] at hv
 have hr:(execOp a.eval o).run P w=.ok (.value (.slice none 0 0)) w:=by simp [execOp,ho,hv.inv_sc]
 unfold Oper.wp
 rw [hr]
 obtain⟨st,sat⟩:=Ru (w':=w) (t:=E) (k:=k) (ver1:=0) (xs':=[]) (ob':=none) hsat (.inl hi) rfl rfl ⟨rfl,Nat.le_refl _⟩ (Nat.le_refl _) (fun _ _ _=>rfl) (.inl rfl)
 exact hK _ _ _ w _ ⟨rfl,rfl⟩ (sat ⟨by simp,.inl ⟨rfl,rfl⟩⟩) st (.vec ⟨E,0,[],by rw [Gh,if_pos rfl],Nat.le_refl _,fun _=>⟨rfl,.inl ⟨rfl,rfl,by simp [upP]⟩⟩⟩ rfl)

theorem Y68 {s x:Operand} {T E k by_ i ver ver1 n:Nat} {kx:Nat} {xs ys:List AV} (ho:o.op=.call { callee:=.builtin .append,args:=#[s,x],argTypes:=#[T,T] }) (hs:ev l s=.vec i ver k n) (hi:lk L i=some (.vec E k ver xs)) (hx:Qf (ev l x)=some (kx,ys))
  (hT:sliceB P T E k=true) (hE:Z5 P E k by_=true) (hb:(xs.length+ys.length)*by_≤140737488355328) (hlen:xs.length+ys.length≤maxLen) (hcell:∀ y∈ys,y.flatOk=true) (hk:kx=k∨ys=[]) (hver:ver < ver1) :
  H0 P o l L (Is (.vec i ver1 k (xs++ys).length) ((i,.vec E k ver1 (xs++ys))::L)):=by
 intro a w β K Q hsat hf hK
 have hv:=hf.ev s
 rw [hs] at hv
 obtain⟨rfl,hxk,hst⟩:=G5b hsat hi hv
 generalize hvs:a.eval s=vs at hv hst
 have hxd:=(hf.ev x).Qf hx
 obtain⟨ao,cap,hxv,_⟩:=hxd.len
 rw [hxv] at hxd
 obtain⟨_,hyk,hno,news,hnl,hncell,hnD⟩:=hxd.vals
 obtain⟨inf,z,e1,e2,e3,e4,e5,e6⟩:=Z5.out hE
 have hyk':∀ y∈ys,y.cells.length=k:=by
  rcases hk with rfl | rfl
  ·exact hyk
  ·simp
 have hone:∀ u∈news,u.oneCell'=true:=by
  intro u hu
  obtain⟨j,hj,e⟩:=List.mem_iff_getElem.1 hu
  have hj':j < (flat ys).length:=by omega
  obtain⟨x',hx1,hx2⟩:=hnD j (flat ys)[j] (by simp [hj'])
  have:u=x':=by
   have:news[j]? = some u:=by rw [← e]; simp [hj]
   rw [this] at hx1; exact Option.some.inj hx1
  subst this
  have hcc:((flat ys)[j]).isCell=true:=Hb7 hcell (List.getElem_mem hj')
  exact(V.data (L:=L) (β:=β) hx2).cell hcc
 have hyl:(flat ys).length=ys.length*k:=J1 hyk'
 have hxl:(flat xs).length=xs.length*k:=J1 hxk
 -- the row as the kit knows it
 obtain⟨vals,hown,hvD,hob⟩:∃ vals:List Value,w.ownsRow 0 E k vs xs.length vals∧(∀ (j:Nat) u v,(flat xs)[j]? = some u→vals[j]? = some v→D w (Jt w β L) u v)∧vs.ownBlock=β.at_ i:=by
  rcases hst with ⟨rfl,rfl,h3⟩ | ⟨b,cap',cur,rfl,h2,h3,h4,h5,h6,h7⟩
  ·exact⟨[],⟨by simp,.inl ⟨rfl,rfl⟩⟩,fun j u v hu=>by simp [flat] at hu,by rw [h3]; rfl⟩
  ·refine⟨cur.toList.take (xs.length*k),⟨?_,.inr ⟨b,cap',cur,rfl,Nat.zero_le _,h5,h3,h4,h6,rfl⟩⟩,fun j u v hu hv=>h7 j u v hu ?_,by rw [h2]; rfl⟩
   ·rw [List.length_take]; refine Nat.min_eq_left ?_; exact Nat.le_trans (Nat.mul_le_mul_right _ h3) (Nat.le_of_eq (by simpa using h6.symm))
   ·have hj:=(List.getElem?_eq_some_iff.1 hv).1
    rw [List.getElem?_take,if_pos (by rw [List.length_take] at hj; omega)] at hv
    simpa using hv
 obtain⟨v',w',hr,hown',hos,htp,hout,hsz,hother,hwhere⟩:=H6c (P:=P) w T o.type E inf z k (sliceB.out hT).1 e1 e4 e2 e5 e6 vs xs.length vals hown ao ys.length cap news (by rw [hnl,hyl]) (fun ad j u h h'=>hncell ad j u h h') hno hone hlen (by rw [e3]; exact hb)
 have hrun:(execOp a.eval o).run P w=.ok (.value v') w':=by
  simp [execOp,ho,resolve,invoke,builtin,hvs,hxv,hr]
 unfold Oper.wp
 rw [hrun]
 have hvl:vals.length=xs.length*k:=hown.1
 have hform:=ownsRow_form hown'
 have vlt:∀ b,v'.ownBlock=some b→b < w'.heap.size:=by
  intro b hb
  rcases hform with ⟨_,_,h0⟩ | ⟨b',cap',cur,_,hb',_,_,hg,_⟩
  ·rw [h0] at hb; cases hb
  ·rw [hb'] at hb; cases hb
   exact(Array.getElem?_eq_some_iff.1 hg).1
 obtain⟨st,sat⟩:=Ru (w':=w') (t:=E) (k:=k) (ver1:=ver1) (xs':=xs++ys) (ob':=v'.ownBlock) hsat (.inr ⟨ver,xs,hi,by omega,fun e=>by omega⟩) hos htp hout hsz
  (fun b hb hne=>hother b hb (fun e=>hne (by rw [inL,hi]; rfl) (hob ▸ e)))
  (by
   rcases hwhere with h | ⟨h,h',_⟩
   ·exact .inr (.inl ⟨by rw [inL,hi]; rfl,h.trans hob⟩)
   ·exact .inr (.inr ⟨_,h,Nat.le_refl _,h'⟩))
 have hall:∀ y∈xs++ys,y.cells.length=k:=fun y hy=>by
  rcases List.mem_append.1 hy with h | h
  ·exact hxk y h
  ·exact hyk' y h
 have hDall:∀ (j:Nat) u v,(flat (xs++ys))[j]? = some u→(vals++news)[j]? = some v→D w' (Jt w' (upP β i v'.ownBlock) ((i,.vec E k ver1 (xs++ys))::L)) u v:=by
  intro j u v hu hv
  rw [G34] at hu
  rcases Nat.lt_or_ge j (flat xs).length with hj | hj
  ·rw [List.getElem?_append_left hj] at hu
   rw [List.getElem?_append_left (by omega)] at hv
   exact(hvD j u v hu hv).mono st.stab
  ·rw [List.getElem?_append_right hj] at hu
   rw [List.getElem?_append_right (by omega)] at hv
   obtain⟨x',hx1,hx2⟩:=hnD (j - (flat xs).length) u hu
   rw [hxl,← hvl] at hx1
   rw [hv] at hx1; cases hx1
   exact hx2.mono st.stab
 refine hK _ _ v' w' _ ⟨rfl,rfl⟩ (sat ⟨hall,?_⟩) st (.vec ⟨E,ver1,xs++ys,by rw [Gh,if_pos rfl],Nat.le_refl _,fun _=>⟨rfl,?_⟩⟩ ?_)
 ·rcases hown'.2 with ⟨h1,h2⟩ | ⟨g,cap',cur,h1,_,h3,h4,h5,h6,h7⟩
  ·refine .inl ⟨by rw [h1]; rfl,List.eq_nil_of_length_eq_zero (by rw [List.length_append]; exact h2)⟩
  ·refine .inr ⟨g,by rw [h1]; rfl,cur,h3,?_,fun j u v hu hv=>hDall j u v hu ?_⟩
   ·rw [List.length_append,h6]; exact Nat.mul_le_mul_right _ h4
   ·have hj:j < (flat (xs++ys)).length:=(List.getElem?_eq_some_iff.1 hu).1
    rw [J1 hall,List.length_append] at hj
    rw [← h7,List.getElem?_take,if_pos hj]
    simpa using hv
 ·rcases hown'.2 with ⟨h1,h2⟩ | ⟨g,cap',cur,h1,_,h3,h4,h5,h6,h7⟩
  ·exact .inl ⟨h1,by rw [List.length_append]; exact h2,by simp [upP,h1,Value.ownBlock]⟩
  ·exact .inr ⟨g,cap',by rw [List.length_append]; exact h1,by simp [upP,h1,Value.ownBlock],by rw [List.length_append]; exact h4,h5,by simp [World.shape?,h3,h6]⟩
 ·rcases hown'.2 with ⟨h1,_⟩ | ⟨g,cap',cur,h1,_⟩ <;> rw [h1] <;> rfl

theorem J83 {x:Operand} {T E k k' i ver n:Nat} (hT:sliceB P T E k'=true) (ho:o.op=.call { callee:=.builtin .len,args:=#[x],argTypes:=#[T] }) (hx:ev l x=.vec i ver k n) {xs:List AV} (hi:lk L i=some (.vec E k ver xs)):H0 P o l L (Is (I64 (n:Int)) L):=
 Hi fun a w β hsat hf=>by
  have hv:=hf.ev x
  rw [hx] at hv
  obtain⟨rfl,_,h⟩:=G5b hsat hi hv
  refine⟨.int .i64 xs.length,?_,.sc⟩
  rcases h with ⟨h1,h2,_⟩ | ⟨b,cap,vs,h1,_⟩
  ·subst h2
   simp [execOp,ho,resolve,invoke,builtin,Builtin.len_,underlying,(sliceB.out hT).1,h1,goInt]
  ·simp [execOp,ho,resolve,invoke,builtin,Builtin.len_,underlying,(sliceB.out hT).1,h1,goInt]

theorem Z1b {x ix:Operand} {T E k i ver n m:Nat} {kd:IntKind} {z:Int} {xs:List AV} (ho:o.op=.indexAddr T x ix) (hx:ev l x=.vec i ver k n) (hix:ev l ix=.sc (.int kd z)) (hi:lk L i=some (.vec E k ver xs)) (hT:sliceB P T E k=true) (hm:m < xs.length) (hz:z=(m:Int)) :
  H0 P o l L (Is (.vptr i ver m 0) L):=
 Hi fun a w β hsat hf=>by
  subst hz
  have hv:=hf.ev x
  rw [hx] at hv
  have h2:=hf.ev ix
  rw [hix] at h2
  obtain⟨rfl,_,h⟩:=G5b hsat hi hv
  rcases h with ⟨h1,h3,_⟩ | ⟨b,cap,vs,h1,h3,_⟩
  ·subst h3; simp at hm
  ·have hr:=Qe (sliceB.out hT).2 w
   refine⟨.pointer (some ⟨b,m*k,none⟩),?_,.vptr ⟨E,k,ver,xs,hi,Nat.le_refl _,fun _=>⟨b,h3,rfl⟩⟩ rfl⟩
   simp [execOp,ho,Instr.indexAt,h2.inv_sc,asIntOf,underlying,(sliceB.out hT).1,h1,hm,hr,Addr.add_lit]

theorem V.inv_vptr {w:World} {β:H4} {i ver m f t k:Nat} {xs:List AV} {x:Value} (hi:lk L i=some (.vec t k ver xs)) (h:V w β L (.vptr i ver m f) x):∃ b,β.at_ i=some b∧x=.pointer (some ⟨b,m*k+f,none⟩):=by
 cases h with
 | data h=>cases h
 | vptr hp _=>
  obtain⟨t',k',ver',xs',h1,_,h3⟩:=hp
  rw [hi] at h1; cases h1
  exact h3 rfl

theorem H16 {w:World} {β:H4} {i b t k ver:Nat} {xs:List AV} (hsat:Sat w β L) (hi:lk L i=some (.vec t k ver xs)) (hb:β.at_ i=some b) :
  (∀ y∈xs,y.cells.length=k)∧∃ vs:Array Value,w.heap[b]? = some (.cells vs t (0,0))∧xs.length*k≤vs.size∧∀ (j:Nat) u v,(flat xs)[j]? = some u→vs[j]? = some v→D w (Jt w β L) u v:=by
 obtain⟨o1,o2⟩:=hsat.obj i _ hi
 refine⟨o1,?_⟩
 rcases o2 with ⟨h,_⟩ | ⟨b',h,vs,h1,h2,h3⟩
 ·rw [hb] at h; cases h
 ·rw [hb] at h; cases h; exact⟨vs,h1,h2,h3⟩

theorem R99 {x:Operand} {T fl off i ver m f t k:Nat} {xs:List AV} (hT:Jj P T fl off=true) (ho:o.op=.fieldAddr T x fl) (hx:ev l x=.vptr i ver m f) (hi:lk L i=some (.vec t k ver xs)):H0 P o l L (Is (.vptr i ver m (f+off)) L):=
 Hi fun a w β hsat hf=>by
  have hv:=hf.ev x
  rw [hx] at hv
  obtain⟨b,hb,he⟩:=hv.inv_vptr hi
  refine⟨.pointer (some ⟨b,m*k+f+off,none⟩),?_,.vptr ⟨t,k,ver,xs,hi,Nat.le_refl _,fun _=>⟨b,hb,by rw [Nat.add_assoc]⟩⟩ rfl⟩
  have:=J19 (P:=P) (b:=b) (o:=m*k+f) hT w
  simp [execOp,ho,he,this]

theorem R97 {x y:Operand} {T i ver m f t k kk:Nat} {xs ds:List AV} {e z:AV} (hT:Yt P T kk=true) (ho:o.op=.store T x y) (hu:ev l y=u) (hx:ev l x=.vptr i ver m f) (hi:lk L i=some (.vec t k ver xs)) (he:xs[m]? = some e)
  (hc:u.flatOk=true) (hd:u.isData=true) (hds:J4c f u.cells e.cells=some ds) (hz:z.cells=ds) (hk:u.cells.length=kk) (hpos:Nat.blt 0 kk=true) :
  H0 P o l L (Is .junk ((i,.vec t k ver (xs.set m z))::L)):=by
 subst hu
 have hne:(ev l y).cells≠[]:=fun e=>by rw [e] at hk; subst hk; cases hpos
 obtain⟨rfl,hfit0⟩:=Q34 hds hne
 rw [hk] at hfit0
 intro a w β K Q hsat hf hK
 have h1:=hf.ev x
 rw [hx] at h1
 obtain⟨b,hb,hax⟩:=h1.inv_vptr hi
 obtain⟨q1,vs,q2,q3,q4⟩:=H16 hsat hi hb
 have hm:=(List.getElem?_eq_some_iff.1 he).1
 have hek:e.cells.length=k:=q1 e (List.mem_of_getElem? he)
 have hfit:m*k+f+kk≤vs.size:=by
  have:(m+1)*k≤xs.length*k:=Nat.mul_le_mul_right _ hm
  rw [Nat.add_mul] at this; omega
 obtain⟨c1,c2,c3⟩:=(hf.ev y).cells hc
 have hr:=H93 (P:=P) (off:=m*k+f) hT (c1.trans hk) c3 q2 hfit
 unfold Oper.wp
 have hr':(execOp a.eval o).run P w=.ok .skip (w.setRow b (vs.toList.take (m*k+f)++(a.eval y).cells.toList++vs.toList.drop (m*k+f+kk)).toArray):=by
  simp [execOp,ho,hax,hr]
 rw [hr']
 have hb2:=setRow_heap w b vs (vs.toList.take (m*k+f)++(a.eval y).cells.toList++vs.toList.drop (m*k+f+kk)).toArray t (0,0) q2
 have hsz2:(vs.toList.take (m*k+f)++(a.eval y).cells.toList++vs.toList.drop (m*k+f+kk)).toArray.size=vs.size:=by
  simp [c1]; omega
 have hzk:z.cells.length=k:=by
  rw [hz]; simp [hk]; omega
 obtain⟨st,sat⟩:=Ru (w':=w.setRow b (vs.toList.take (m*k+f)++(a.eval y).cells.toList++vs.toList.drop (m*k+f+kk)).toArray) (t:=t) (k:=k) (ver1:=ver) (xs':=xs.set m z) (ob':=β.at_ i) hsat
  (.inr ⟨ver,xs,hi,Nat.le_refl _,fun _=>⟨by simp,rfl,fun b' hb'=>by
   rw [hb] at hb'; cases hb'
   rw [World.shape?,hb2,World.shape?,q2]; simp only [hsz2]⟩⟩) rfl rfl ⟨rfl,Nat.le_refl _⟩ (by simp)
  (fun b' _ hne=>setRow_other w b b' _ (fun e=>hne (by rw [inL,hi]; rfl) (by rw [hb,e])))
  (.inr (.inl ⟨by rw [inL,hi]; rfl,rfl⟩))
 have hxs:∀ y∈xs.set m z,y.cells.length=k:=fun y hy=>by
  rcases List.mem_or_eq_of_mem_set hy with h | h
  ·exact q1 y h
  ·rw [h]; exact hzk
 refine hK _ _ _ _ _ ⟨rfl,rfl⟩ (sat ⟨hxs,.inr ⟨b,hb,_,hb2,by rw [hsz2]; simpa using q3,fun j u v hu hv=>?_⟩⟩) st .junk
 rw [R82 q1 hm hzk,hz] at hu
 have hxl:(flat xs).length=xs.length*k:=J1 q1
 have hmk:m*k+k≤xs.length*k:=by
  have:(m+1)*k≤xs.length*k:=Nat.mul_le_mul_right _ hm
  rwa [Nat.add_mul,Nat.one_mul] at this
 simp only [List.getElem?_toArray] at hv
 have old:∀ j',(flat xs)[j']? = some u→vs[j']? = some v→D _ _ u v:=fun j' a b=>(q4 j' u v a b).mono st.stab
 have hzl:(e.cells.take f++(ev l y).cells++e.cells.drop (f+(ev l y).cells.length)).length=k:=by rw [← hz]; exact hzk
 have hvyl:(a.eval y).cells.toList.length=kk:=by rw [Array.length_toList,c1,hk]
 rcases Nat.lt_or_ge j (m*k) with hj | hj
 ·rw [List.append_assoc,List.getElem?_append_left (by simp; omega),List.getElem?_take,if_pos hj] at hu
  rw [List.append_assoc,List.getElem?_append_left (by simp; omega),List.getElem?_take,if_pos (by omega)] at hv
  exact old j hu (by simpa using hv)
 rcases Nat.lt_or_ge j (m*k+k) with hj2 | hj2
 ·-- in the element
  rw [List.getElem?_append_left (by rw [List.length_append,hzl]; simp; omega),List.getElem?_append_right (by simp; omega)] at hu
  have hl0:(List.take (m*k) (flat xs)).length=m*k:=by simp; omega
  rw [hl0] at hu
  rcases Nat.lt_or_ge j (m*k+f) with hj3 | hj3
  ·rw [List.append_assoc,List.getElem?_append_left (by simp; omega),List.getElem?_take,if_pos (by omega)] at hu
   rw [List.append_assoc,List.getElem?_append_left (by simp; omega),List.getElem?_take,if_pos hj3] at hv
   refine old j ?_ (by simpa using hv)
   rw [show j=m*k+(j - m*k) by omega,Gbf q1 he (by omega)]; exact hu
  rcases Nat.lt_or_ge j (m*k+f+kk) with hj4 | hj4
  ·rw [List.getElem?_append_left (by simp [hk]; omega),List.getElem?_append_right (by simp; omega)] at hu
   rw [List.getElem?_append_left (by rw [List.length_append,hvyl]; simp; omega),List.getElem?_append_right (by simp; omega)] at hv
   have l1:(List.take f e.cells).length=f:=by simp; omega
   have l2:(List.take (m*k+f) vs.toList).length=m*k+f:=by simp; omega
   rw [l1] at hu
   rw [l2] at hv
   rw [show j - m*k - f=j - (m*k+f) by omega] at hu
   have hdd:u.isData=true:=by
    have hm2:=List.mem_of_getElem? hu
    exact Q7a (ok:=fun _=>false) hd u hm2
   exact((c2 _ u v hu (by simpa using hv)).toD hdd).mono st.stab
  ·rw [List.getElem?_append_right (by simp [hk]; omega),List.getElem?_drop] at hu
   rw [List.getElem?_append_right (by rw [List.length_append,hvyl]; simp; omega),List.getElem?_drop] at hv
   have l1:(List.take f e.cells++(ev l y).cells).length=f+kk:=by simp [hk]; omega
   have l2:(List.take (m*k+f) vs.toList++(a.eval y).cells.toList).length=m*k+f+kk:=by rw [List.length_append,hvyl]; simp; omega
   rw [l1,hk] at hu
   rw [l2] at hv
   refine old j ?_ ?_
   ·rw [show j=m*k+(j - m*k) by omega,Gbf q1 he (by omega)]
    rw [show f+kk+(j - m*k - (f+kk))=j - m*k by omega] at hu; exact hu
   ·rw [show m*k+f+kk+(j - (m*k+f+kk))=j by omega] at hv; simpa using hv
 ·rw [List.getElem?_append_right (by rw [List.length_append,hzl]; simp; omega),List.getElem?_drop] at hu
  rw [List.getElem?_append_right (by rw [List.length_append,hvyl]; simp; omega),List.getElem?_drop] at hv
  have l1:(List.take (m*k) (flat xs)++(e.cells.take f++(ev l y).cells++e.cells.drop (f+(ev l y).cells.length))).length=m*k+k:=by rw [List.length_append,hzl]; simp; omega
  have l2:(List.take (m*k+f) vs.toList++(a.eval y).cells.toList).length=m*k+f+kk:=by rw [List.length_append,hvyl]; simp; omega
  rw [l1] at hu
  rw [l2] at hv
  refine old j ?_ ?_
  ·rw [show m*k+k+(j - (m*k+k))=j by omega] at hu; exact hu
  ·rw [show m*k+f+kk+(j - (m*k+f+kk))=j by omega] at hv; simpa using hv
end ops
end Go.Proofs.YtidpfkmbfgihlaaGreat
