/-
 Slices that the call may write in place: made,appended to,read,written,frozen,lent. Slices of the call's own: frozen,described anew,lent to calls that only read; calls on local objects. Slices of typed elements that the call may write in place. Maps of typed keys and elements: made,looked into,written,ranged over. A statement whose order is open,in which more than one operation turns the local memory without an order between them (two variables that are made). Slices of the call's own,sorted in place by the library. slices.SortFunc in a model. Slices of whole numbers of the call's own,sorted in place by the library.
-/
import Derived.Test.YthcpolfodgjekaaGreatFrames
import Derived.Shelf.SlSortCmp.WholeK
set_option linter.unusedSimpArgs false
namespace Go.Proofs.YthcpolfodgjekaaGreat
open Go.RowKit

theorem Gc1 {k:Nat}:∀ {xs:List AV},(∀ x∈xs,x.cells.length=k)→∀ {m f:Nat} {y:AV},xs[m]? = some y→f < k→(flat xs)[m*k+f]? = y.cells[f]?
 | [],_,m,f,y,h,_=>by simp at h
 | x::r,hk,m,f,y,h,hf=>by
  have hx:=hk x (by simp)
  cases m with
  | zero=>
   simp at h; subst h
   rw [flat,Nat.zero_mul,Nat.zero_add,List.getElem?_append_left (by omega)]
  | succ m=>
   simp at h
   rw [flat,show (m+1)*k+f=k+(m*k+f) by rw [Nat.add_mul]; omega,List.getElem?_append_right (by omega),hx,show k+(m*k+f) - k=m*k+f by omega]
   exact Gc1 (fun y hy=>hk y (by simp [hy])) h hf
theorem R30 {k:Nat}:∀ {xs:List AV},(∀ x∈xs,x.cells.length=k)→∀ {m:Nat} {z:AV},m < xs.length→z.cells.length=k→flat (xs.set m z)=(flat xs).take (m*k)++z.cells++(flat xs).drop (m*k+k)
 | [],_,m,z,h,_=>by simp at h
 | x::r,hk,m,z,h,hz=>by
  have hx:=hk x (by simp)
  cases m with
  | zero=>simp [flat,hx]
  | succ m=>
   have ih:=R30 (xs:=r) (fun y hy=>hk y (by simp [hy])) (m:=m) (z:=z) (by simpa using h) hz
   have e1:(m+1)*k=x.cells.length+m*k:=by rw [hx,Nat.add_mul]; omega
   rw [List.set_cons_succ,flat,ih,flat,e1,List.take_length_add_append,Nat.add_assoc,List.drop_length_add_append]
   simp [List.append_assoc]

section moves
variable {w w':World} {β:Hd} {L:Loc} {i t k ver1:Nat} {xs':List AV}
theorem G07 {ob':Option Nat} (hsat:Sat w β L)
  (hold:lk L i=none∨∃ ver xs,lk L i=some (.vec t k ver xs)∧ver≤ver1∧(ver1=ver→xs'.length=xs.length∧ob'=β.at_ i∧∀ b,β.at_ i=some b→w'.shape? b=w.shape? b))
  (hos:w'.os=w.os) (htp:w'.tape=w.tape) (hout:w'.output=w.output∧w.drawn≤w'.drawn) (hsz:w.heap.size≤w'.heap.size)
  (hoth:∀ b,b < w.heap.size→(inL L i=true→β.at_ i≠some b)→w'.heap[b]? = w.heap[b]?)
  (hob:ob'=none∨(inL L i=true∧ob'=β.at_ i)∨∃ b,ob'=some b∧w.heap.size≤b∧b < w'.heap.size) :
  Step w β L w' (upP β i ob') ((i,.vec t k ver1 xs')::L) ∧
  (Gd9 w' (upP β i ob') ((i,.vec t k ver1 xs')::L) ob' (.vec t k ver1 xs')→Sat w' (upP β i ob') ((i,.vec t k ver1 xs')::L)):=by
 have hbi:∀ id b,(lk L id).isSome=true→β.at_ id=some b→i≠id→w'.heap[b]? = w.heap[b]? := by
  intro id b h1 h2 hne
  refine hoth b (hsat.bnd id b h1 h2) (fun h3 h4=>hne ?_)
  exact hsat.inj i id b h3 h1 h4 h2
 have hat:∀ id,i≠id→(upP β i ob').at_ id=β.at_ id:=fun id e=>by simp [upP,Ne.symm e]
 have hati:(upP β i ob').at_ i=ob':=by simp [upP]
 have fresh:∀ b,ob'=some b→(inL L i=true∧β.at_ i=some b)∨(w.heap.size≤b∧b < w'.heap.size):=by
  intro b hb
  rcases hob with h | ⟨h1,h2⟩ | ⟨b',h1,h2,h3⟩
  ·rw [h] at hb; cases hb
  ·exact .inl ⟨h1,by rw [← h2,hb]⟩
  ·rw [h1] at hb; cases hb; exact .inr ⟨h2,h3⟩
 have stabne:∀ b j,Qd w β L b j→inL L i=true→β.at_ i≠some b:=by
  intro b j hs hin hb
  obtain⟨o,ho⟩:=Option.isSome_iff_exists.1 hin
  have hk:=hs.kept i o ho hb
  rcases hold with h | ⟨ver,xs,h,_⟩
  ·rw [h] at ho; cases ho
  ·rw [h] at ho; cases ho; exact hk
 have st:Step w β L w' (upP β i ob') ((i,.vec t k ver1 xs')::L):=by
  refine⟨hos,htp,hout,hsz,fun _ _ _=>Iff.rfl,fun b j hs=>⟨⟨Nat.lt_of_lt_of_le hs.lt hsz,hs.seen,fun id o hid hb=>?_⟩,World.cell?_of_block (w:=w) (hoth b hs.lt (stabne b j hs))⟩,fun b hb hf=>⟨hoth b hb (fun h=>hf i h),fun id hid e=>?_⟩,fun id t' cs hid=>?_,fun id t' cs hid=>?_,fun id t' n cs hid=>?_,fun id t' k' vr zs hid=>?_,fun id t' k' vr hw hid=>?_⟩
  ·rw [Gs] at hid
   by_cases e:i=id
   ·subst e
    rw [hati] at hb
    rcases fresh b hb with ⟨h1,h2⟩ | ⟨h1,_⟩
    ·exact absurd h2 (stabne b j hs h1)
    ·have:=hs.lt; omega
   ·rw [if_neg e] at hid; rw [hat id e] at hb; exact hs.kept id o hid hb
  ·rw [Gs] at hid
   by_cases e':i=id
   ·subst e'
    rw [hati] at e
    rcases fresh b e with ⟨h1,h2⟩ | ⟨h1,_⟩
    ·exact hf i h1 h2
    ·omega
   ·rw [if_neg e'] at hid; rw [hat id e'] at e; exact hf id hid e
  ·have e:i≠id:=fun e=>by subst e; rcases hold with h | ⟨_,_,h,_⟩ <;> rw [h] at hid <;> cases hid
   exact⟨hat id e,cs,by rw [Gs,if_neg e]; exact hid⟩
  ·have e:i≠id:=fun e=>by subst e; rcases hold with h | ⟨_,_,h,_⟩ <;> rw [h] at hid <;> cases hid
   exact⟨hat id e,cs,by rw [Gs,if_neg e]; exact hid⟩
  ·have e:i≠id:=fun e=>by subst e; rcases hold with h | ⟨_,_,h,_⟩ <;> rw [h] at hid <;> cases hid
   exact⟨hat id e,n,cs,by rw [Gs,if_neg e]; exact hid⟩
  ·rw [Gs]
   by_cases e:i=id
   ·subst e
    rcases hold with h | ⟨ver,xs,h,h1,h2⟩
    ·rw [h] at hid; cases hid
    ·rw [h] at hid; cases hid
     refine⟨ver1,xs',if_pos rfl,h1,fun e=>?_⟩
     obtain⟨q1,q2,q3⟩:=h2 e
     exact⟨q1,hati.trans q2,q3⟩
   ·exact⟨vr,zs,by rw [if_neg e]; exact hid,Kn,fun _=>⟨rfl,hat id e,fun b hb=>G5a (hbi id b (by rw [hid]; rfl) hb e)⟩⟩
  ·have e:i≠id:=fun e=>by subst e; rcases hold with h | ⟨_,_,h,_⟩ <;> rw [h] at hid <;> cases hid
   exact⟨vr,hw,by rw [Gs,if_neg e]; exact hid,Kn,fun _=>⟨rfl,hat id e,fun b hb=>hbi id b (by rw [hid]; rfl) hb e⟩⟩
 refine⟨st,fun hobj=>⟨fun b j h=>Nat.lt_of_lt_of_le (hsat.hid b j h) hsz,fun id b hid hb=>?_,fun id b j hid hb hh=>?_,fun id id' b h1 h2 h3 h4=>?_,fun id o hid=>?_⟩⟩
 ·rw [Gs] at hid
  by_cases e:i=id
  ·subst e
   rw [hati] at hb
   rcases fresh b hb with ⟨h1,h2⟩ | ⟨_,h2⟩
   ·exact Nat.lt_of_lt_of_le (hsat.bnd i b h1 h2) hsz
   ·exact h2
  ·rw [if_neg e] at hid; rw [hat id e] at hb; exact Nat.lt_of_lt_of_le (hsat.bnd id b hid hb) hsz
 ·rw [Gs] at hid
  by_cases e:i=id
  ·subst e
   rw [hati] at hb
   rcases fresh b hb with ⟨h1,h2⟩ | ⟨h1,_⟩
   ·exact hsat.apart i b j h1 h2 hh
   ·have:=hsat.hid b j hh; omega
  ·rw [if_neg e] at hid; rw [hat id e] at hb; exact hsat.apart id b j hid hb hh
 ·have key:∀ id,i≠id→(lk ((i,Jt.vec t k ver1 xs')::L) id).isSome=true→(upP β i ob').at_ id=some b→ob'=some b→False:=by
   intro id e h1 h3 hb
   rw [Gs,if_neg e] at h1
   rw [hat id e] at h3
   rcases fresh b hb with ⟨h5,h6⟩ | ⟨h5,_⟩
   ·exact e (hsat.inj i id b h5 h1 h6 h3)
   ·have:=hsat.bnd id _ h1 h3; omega
  by_cases e:i=id
  ·by_cases e':i=id'
   ·rw [← e,e']
   ·subst e; rw [hati] at h3; exact(key id' e' h2 h4 h3).elim
  ·by_cases e':i=id'
   ·subst e'; rw [hati] at h4; exact(key id e h1 h3 h4).elim
   ·rw [Gs,if_neg e] at h1
    rw [Gs,if_neg e'] at h2
    rw [hat id e] at h3
    rw [hat id' e'] at h4
    exact hsat.inj id id' b h1 h2 h3 h4
 ·rw [Gs] at hid
  by_cases e:i=id
  ·subst e
   rw [if_pos rfl] at hid; cases hid
   rw [hati]; exact hobj
  ·rw [if_neg e] at hid
   rw [hat id e]
   exact(hsat.obj id o hid).step st (fun b hb=>hbi id b (by rw [hid]; rfl) hb e)

theorem Ge7 {n ver:Nat} {xs:List AV} {x:Value} (hsat:Sat w β L) (hi:lk L i=some (.vec t k ver xs)) (hv:V w β L (.vec i ver k n) x) :
  n=xs.length∧(∀ y∈xs,y.cells.length=k)∧((x=.slice none 0 0∧xs=[]∧β.at_ i=none) ∨
   ∃ b cap vs,x=.slice (some ⟨b,0,none⟩) xs.length cap∧β.at_ i=some b∧xs.length≤cap∧cap≤maxLen∧w.heap[b]? = some (.cells vs t (0,0))∧vs.size=cap*k ∧
    ∀ (j:Nat) u v,(flat xs)[j]? = some u→vs[j]? = some v→D w (Qd w β L) u v):=by
 have hobj:=hsat.obj i _ hi
 cases hv with
 | data h=>cases h
 | vec hp hone=>
  obtain⟨t',ver',xs',h1,h2,h3⟩:=hp
  rw [hi] at h1; cases h1
  obtain⟨rfl,h4⟩:=h3 rfl
  obtain⟨o1,o2⟩:=hobj
  refine⟨rfl,o1,?_⟩
  rcases h4 with ⟨rfl,h5,h6⟩ | ⟨b,cap,rfl,h6,h7,h8,h9⟩
  ·exact .inl ⟨rfl,List.eq_nil_of_length_eq_zero h5,h6⟩
  ·right
   rcases o2 with ⟨o3,_⟩ | ⟨b',o3,vs,o4,o5,o6⟩
   ·rw [h6] at o3; cases o3
   ·rw [h6] at o3; cases o3
    have hs:vs.size=cap*k:=by
     have:=h9
     simp [World.shape?,o4] at this
     exact this
    exact⟨b,cap,vs,rfl,h6,h7,h8,o4,hs,o6⟩
end moves

section ops
variable {P:Program} {N:Cfg} {o:Oper} {l:Fr} {L L':Loc} {u:AV} {α:Type}

theorem Qdb (i E k:Nat) {x:Operand} (ho:o.op=.assign x) (hx:ev l x=.sc (.slice none 0 0)) (hi:lk L i=none):H5 P o l L (Is (.vec i 0 k 0) ((i,.vec E k 0 [])::L)):=by
 intro a w β K Q hsat hf hK
 have hv:=hf.ev x
 rw [hx] at hv
 have hr:(execOp a.eval o).run P w=.ok (.value (.slice none 0 0)) w:=by simp [execOp,ho,hv.inv_sc]
 unfold Oper.wp
 rw [hr]
 obtain⟨st,sat⟩:=G07 (w':=w) (t:=E) (k:=k) (ver1:=0) (xs':=[]) (ob':=none) hsat (.inl hi) rfl rfl ⟨rfl,Kn⟩ (Kn) (fun _ _ _=>rfl) (.inl rfl)
 exact hK _ _ _ w _ ⟨rfl,rfl⟩ (sat ⟨by simp,.inl ⟨rfl,rfl⟩⟩) st (.vec ⟨E,0,[],by rw [Gs,if_pos rfl],Kn,fun _=>⟨rfl,.inl ⟨rfl,rfl,by simp [upP]⟩⟩⟩ rfl)

theorem Q23 (w:World) (t e:TypeId) (i:TypeInfo) (z:Value) (size:Nat) (ht:P.underlying t=some (.slice e)) (hi:P.info? e=some i) (hz:i.zero=some z) (hsize:i.size=size)
  (kl kc:IntKind) (n:Nat) (hbytes:i.bytes*n≤281474976710656) (h63:n≤maxLen) :
  ∃ w',(Instr.makeSlice t (.int kl (n:Int)) (.int kc (n:Int))).run P w=.ok (.slice (some ⟨w.heap.size,0,none⟩) n n) w' ∧
   w'.ownsRow 0 e size (.slice (some ⟨w.heap.size,0,none⟩) n n) n (madeCells z.cells (n*size)).toList∧w.grownBy w' none∧w.drawn≤w'.drawn:=by
 subst hsize
 have h63':(n:Int)≤9223372036854775807:=by
  have h:=h63
  simp [maxLen] at h
  omega
 have hb':(i.bytes:Int)*(n:Int)≤281474976710656:=by
  have h:((i.bytes*n:Nat):Int)≤281474976710656:=by omega
  rwa [Int.natCast_mul] at h
 have hr:=run_make (P:=P) w t e i z ht hi hz kl kc n n (by omega) (Int.le_refl _) hb' h63'
 simp only [Int.toNat_natCast] at hr
 exact⟨_,hr,World.ownsRow_lit w _ n (Nat.zero_le _) h63 (size_madeCells _ _),World.grownBy_alloc w _ none,Kn⟩

theorem Y68 (i:Nat) {x y:Operand} {T E k by_ n:Nat} {kd kd':IntKind} {nx ny:Int} (zs:List Value) (ho:o.op=.makeSlice T x y) (hx:ev l x=.sc (.int kd nx)) (hy:ev l y=.sc (.int kd' ny)) (hi:lk L i=none)
  (hT:sliceB P T E k=true) (hE:Zr P E k by_=true) (hz:(P.info? E).bind (fun i=>i.zero.map Value.cells)=some zs.toArray) (hn:nx=(n:Int)) (hm:ny=(n:Int)) (hb:decide (by_*n≤281474976710656∧n≤maxLen∧n*k≤16777216)=true)
  (z:AV) (hzz:∀ (w:World) (S:Nat→Nat→Prop) (j:Nat) a b,z.cells[j]? = some a→zs[j]? = some b→D w S a b) (hzk:z.cells.length=k) :
  H5 P o l L (Is (.vec i 0 k n) ((i,.vec E k 0 (List.replicate n z))::L)):=by
 subst hn hm
 intro a w β K Q hsat hf hK
 have hb':=Kd hb
 obtain⟨inf,zv,e1,e2,e3,e4,e5,e6⟩:=Zr.out hE
 have hvx:=hf.ev x
 rw [hx] at hvx
 have hvy:=hf.ev y
 rw [hy] at hvy
 obtain⟨w',hr,hown,hg,hdr⟩:=Q23 (P:=P) w T E inf zv k (sliceB.out hT).1 e1 e4 e2 kd kd' n (by rw [e3]; exact hb'.1) hb'.2.1
 have hrun:(execOp a.eval o).run P w=.ok (.value (.slice (some ⟨w.heap.size,0,none⟩) n n)) w':=by
  simp [execOp,ho,hvx.inv_sc,hvy.inv_sc,hr]
 unfold Oper.wp
 rw [hrun]
 have hzs:zv.cells=zs.toArray:=by
  rw [e1] at hz
  simp [e4] at hz
  exact hz
 obtain⟨hl0,hrow⟩:=hown
 rcases hrow with ⟨hno,_⟩ | ⟨g,cap,cur,hv,_,hg',hnc,hcm,hcs,htk⟩
 ·cases hno
 simp only [Value.slice.injEq,Option.some.injEq,Addr.mk.injEq] at hv
 obtain⟨⟨rfl,-,-⟩,-,rfl⟩:=hv
 have hlt:w.heap.size < w'.heap.size:=(Array.getElem?_eq_some_iff.1 hg').1
 obtain⟨st,sat⟩:=G07 (w':=w') (t:=E) (k:=k) (ver1:=0) (xs':=List.replicate n z) (ob':=some w.heap.size) hsat (.inl hi) hg.os hg.tape ⟨hg.output,hdr⟩ hg.size
  (fun b hb _=>hg.block b hb (by simp)) (.inr (.inr ⟨_,rfl,Kn,hlt⟩))
 have hcur:cur=madeCells zv.cells (n*k):=by
  have:cur.toList=(madeCells zv.cells (n*k)).toList:=by
   rw [← htk,List.take_of_length_le (by rw [Array.length_toList]; omega)]
  exact Array.toList_inj.1 this
 refine hK _ _ _ w' _ ⟨rfl,rfl⟩ (sat ⟨fun y hy=>by rw [List.eq_of_mem_replicate hy]; exact hzk,.inr ⟨_,rfl,cur,hg',by simp [hcs],fun j u v hu hv=>?_⟩⟩) st
  (.vec ⟨E,0,_,by rw [Gs,if_pos rfl],Kn,fun _=>⟨by simp,.inr ⟨_,n,rfl,by simp [upP],Kn,hcm,by simp [World.shape?,hg',hcs]⟩⟩⟩ rfl)
 -- the cells
 have hkl:∀ x∈List.replicate n z,x.cells.length=k:=fun y hy=>by rw [List.eq_of_mem_replicate hy]; exact hzk
 have hj:j < n*k:=by
  have:=(Kh hu).1
  rw [Jm hkl] at this
  simpa using this
 have hdm:j=j / k*k+j % k:=by rw [Nat.mul_comm]; exact(Nat.div_add_mod j k).symm
 have hq:j / k < n:=Nat.div_lt_of_lt_mul (by rw [Nat.mul_comm]; exact hj)
 have hzi:(List.replicate n z)[j / k]? = some z:=by simp [hq]
 rw [hdm,Gc1 hkl hzi (Nat.mod_lt _ e6)] at hu
 have hzsl:zs.length=k:=by
  have:=e5
  rw [hzs] at this
  simpa using this
 refine hzz _ _ (j % k) u v hu ?_
 subst hcur
 rw [madeCells] at hv
 simp [hj] at hv
 rw [← hv,hzs]
 have hmk:j % k < zs.length:=by rw [hzsl]; exact Nat.mod_lt _ e6
 simp [hzsl,hmk]
 rw [Ki hmk]; rfl

theorem Y05 {s x:Operand} {T E k by_ i ver ver1 n:Nat} {kx:Nat} {xs ys:List AV} (ho:o.op=.call { callee:=.builtin .append,args:=#[s,x],argTypes:=#[T,T] }) (hs:ev l s=.vec i ver k n) (hi:lk L i=some (.vec E k ver xs)) (hx:Qj (ev l x)=some (kx,ys))
  (hT:sliceB P T E k=true) (hE:Zr P E k by_=true) (hb:(xs.length+ys.length)*by_≤140737488355328) (hlen:xs.length+ys.length≤maxLen) (hcell:∀ y∈ys,y.flatOk=true) (hk:kx=k∨ys=[]) (hver:ver < ver1) :
  H5 P o l L (Is (.vec i ver1 k (xs++ys).length) ((i,.vec E k ver1 (xs++ys))::L)):=by
 intro a w β K Q hsat hf hK
 have hv:=hf.ev s
 rw [hs] at hv
 obtain⟨rfl,hxk,hst⟩:=Ge7 hsat hi hv
 generalize hvs:a.eval s=vs at hv hst
 have hxd:=(hf.ev x).Qj hx
 obtain⟨ao,cap,hxv,_⟩:=hxd.len
 rw [hxv] at hxd
 obtain⟨_,hyk,hno,news,hnl,hncell,hnD⟩:=hxd.vals
 obtain⟨inf,z,e1,e2,e3,e4,e5,e6⟩:=Zr.out hE
 have hyk':∀ y∈ys,y.cells.length=k:=by
  rcases hk with rfl | rfl
  ·exact hyk
  ·simp
 have hone:∀ u∈news,u.oneCell'=true:=by
  intro u hu
  obtain⟨j,hj,e⟩:=List.mem_iff_getElem.1 hu
  have hj':j < (flat ys).length:=by omega
  obtain⟨x',hx1,hx2⟩:=hnD j (flat ys)[j] (by simp [hj'])
  have:u=x':=by
   have:news[j]? = some u:=by rw [← e]; simp [hj]
   rw [this] at hx1; exact Kj hx1
  subst this
  have hcc:((flat ys)[j]).isCell=true:=Ha0 hcell (List.getElem_mem hj')
  exact(V.data (L:=L) (β:=β) hx2).cell hcc
 have hyl:(flat ys).length=ys.length*k:=Jm hyk'
 have hxl:(flat xs).length=xs.length*k:=Jm hxk
 -- the row as the kit knows it
 obtain⟨vals,hown,hvD,hob⟩:∃ vals:List Value,w.ownsRow 0 E k vs xs.length vals∧(∀ (j:Nat) u v,(flat xs)[j]? = some u→vals[j]? = some v→D w (Qd w β L) u v)∧vs.ownBlock=β.at_ i:=by
  rcases hst with ⟨rfl,rfl,h3⟩ | ⟨b,cap',cur,rfl,h2,h3,h4,h5,h6,h7⟩
  ·exact⟨[],⟨by simp,.inl ⟨rfl,rfl⟩⟩,fun j u v hu=>by simp [flat] at hu,by rw [h3]; rfl⟩
  ·refine⟨cur.toList.take (xs.length*k),⟨?_,.inr ⟨b,cap',cur,rfl,Nat.zero_le _,h5,h3,h4,h6,rfl⟩⟩,fun j u v hu hv=>h7 j u v hu ?_,by rw [h2]; rfl⟩
   ·rw [List.length_take]; refine Nat.min_eq_left ?_; exact Nat.le_trans (Nat.mul_le_mul_right _ h3) (Nat.le_of_eq (by simpa using h6.symm))
   ·have hj:=(Kh hv).1
    rw [List.getElem?_take,if_pos (by rw [List.length_take] at hj; omega)] at hv
    simpa using hv
 obtain⟨v',w',hr,hown',hos,htp,hout,hsz,hother,hwhere⟩:=H5b (P:=P) w T o.type E inf z k (sliceB.out hT).1 e1 e4 e2 e5 e6 vs xs.length vals hown ao ys.length cap news (by rw [hnl,hyl]) (fun ad j u h h'=>hncell ad j u h h') hno hone hlen (by rw [e3]; exact hb)
 have hrun:(execOp a.eval o).run P w=.ok (.value v') w':=by
  simp [execOp,ho,resolve,invoke,builtin,hvs,hxv,hr]
 unfold Oper.wp
 rw [hrun]
 have hvl:vals.length=xs.length*k:=hown.1
 have hform:=ownsRow_form hown'
 have vlt:∀ b,v'.ownBlock=some b→b < w'.heap.size:=by
  intro b hb
  rcases hform with ⟨_,_,h0⟩ | ⟨b',cap',cur,_,hb',_,_,hg,_⟩
  ·rw [h0] at hb; cases hb
  ·rw [hb'] at hb; cases hb
   exact(Array.getElem?_eq_some_iff.1 hg).1
 obtain⟨st,sat⟩:=G07 (w':=w') (t:=E) (k:=k) (ver1:=ver1) (xs':=xs++ys) (ob':=v'.ownBlock) hsat (.inr ⟨ver,xs,hi,by omega,fun e=>by omega⟩) hos htp hout hsz
  (fun b hb hne=>hother b hb (fun e=>hne (by rw [inL,hi]; rfl) (hob ▸ e)))
  (by
   rcases hwhere with h | ⟨h,h',_⟩
   ·exact .inr (.inl ⟨by rw [inL,hi]; rfl,h.trans hob⟩)
   ·exact .inr (.inr ⟨_,h,Kn,h'⟩))
 have hall:∀ y∈xs++ys,y.cells.length=k:=fun y hy=>by
  rcases Kt.1 hy with h | h
  ·exact hxk y h
  ·exact hyk' y h
 have hDall:∀ (j:Nat) u v,(flat (xs++ys))[j]? = some u→(vals++news)[j]? = some v→D w' (Qd w' (upP β i v'.ownBlock) ((i,.vec E k ver1 (xs++ys))::L)) u v:=by
  intro j u v hu hv
  rw [G60] at hu
  rcases Nat.lt_or_ge j (flat xs).length with hj | hj
  ·rw [List.getElem?_append_left hj] at hu
   rw [List.getElem?_append_left (by omega)] at hv
   exact(hvD j u v hu hv).mono st.stab
  ·rw [List.getElem?_append_right hj] at hu
   rw [List.getElem?_append_right (by omega)] at hv
   obtain⟨x',hx1,hx2⟩:=hnD (j - (flat xs).length) u hu
   rw [hxl,← hvl] at hx1
   rw [hv] at hx1; cases hx1
   exact hx2.mono st.stab
 refine hK _ _ v' w' _ ⟨rfl,rfl⟩ (sat ⟨hall,?_⟩) st (.vec ⟨E,ver1,xs++ys,by rw [Gs,if_pos rfl],Kn,fun _=>⟨rfl,?_⟩⟩ ?_)
 ·rcases hown'.2 with ⟨h1,h2⟩ | ⟨g,cap',cur,h1,_,h3,h4,h5,h6,h7⟩
  ·refine .inl ⟨by rw [h1]; rfl,List.eq_nil_of_length_eq_zero (by rw [Ko]; exact h2)⟩
  ·refine .inr ⟨g,by rw [h1]; rfl,cur,h3,?_,fun j u v hu hv=>hDall j u v hu ?_⟩
   ·rw [Ko,h6]; exact Nat.mul_le_mul_right _ h4
   ·have hj:j < (flat (xs++ys)).length:=(Kh hu).1
    rw [Jm hall,Ko] at hj
    rw [← h7,List.getElem?_take,if_pos hj]
    simpa using hv
 ·rcases hown'.2 with ⟨h1,h2⟩ | ⟨g,cap',cur,h1,_,h3,h4,h5,h6,h7⟩
  ·exact .inl ⟨h1,by rw [Ko]; exact h2,by simp [upP,h1,Value.ownBlock]⟩
  ·exact .inr ⟨g,cap',by rw [Ko]; exact h1,by simp [upP,h1,Value.ownBlock],by rw [Ko]; exact h4,h5,by simp [World.shape?,h3,h6]⟩
 ·rcases hown'.2 with ⟨h1,_⟩ | ⟨g,cap',cur,h1,_⟩ <;> rw [h1] <;> rfl

theorem Ra2 {x:Operand} {T E k k' i ver n:Nat} (hT:sliceB P T E k'=true) (ho:o.op=.call { callee:=.builtin .len,args:=#[x],argTypes:=#[T] }) (hx:ev l x=.vec i ver k n) {xs:List AV} (hi:lk L i=some (.vec E k ver xs)):H5 P o l L (Is (I64 (n:Int)) L):=
 Hx fun a w β hsat hf=>by
  have hv:=hf.ev x
  rw [hx] at hv
  obtain⟨rfl,_,h⟩:=Ge7 hsat hi hv
  refine⟨.int .i64 xs.length,?_,.sc⟩
  rcases h with ⟨h1,h2,_⟩ | ⟨b,cap,vs,h1,_⟩
  ·subst h2
   simp [execOp,ho,resolve,invoke,builtin,Builtin.len_,underlying,(sliceB.out hT).1,h1,goInt]
  ·simp [execOp,ho,resolve,invoke,builtin,Builtin.len_,underlying,(sliceB.out hT).1,h1,goInt]

theorem Y94 {x ix:Operand} {T E k i ver n m:Nat} {kd:IntKind} {z:Int} {xs:List AV} (ho:o.op=.indexAddr T x ix) (hx:ev l x=.vec i ver k n) (hix:ev l ix=.sc (.int kd z)) (hi:lk L i=some (.vec E k ver xs)) (hT:sliceB P T E k=true) (hm:m < xs.length) (hz:z=(m:Int)) :
  H5 P o l L (Is (.vptr i ver m 0) L):=
 Hx fun a w β hsat hf=>by
  subst hz
  have hv:=hf.ev x
  rw [hx] at hv
  have h2:=hf.ev ix
  rw [hix] at h2
  obtain⟨rfl,_,h⟩:=Ge7 hsat hi hv
  rcases h with ⟨h1,h3,_⟩ | ⟨b,cap,vs,h1,h3,_⟩
  ·subst h3; simp at hm
  ·have hr:=Qw (sliceB.out hT).2 w
   refine⟨.pointer (some ⟨b,m*k,none⟩),?_,.vptr ⟨E,k,ver,xs,hi,Kn,fun _=>⟨b,h3,rfl⟩⟩ rfl⟩
   simp [execOp,ho,Instr.indexAt,h2.inv_sc,asIntOf,underlying,(sliceB.out hT).1,h1,hm,hr,Addr.add_lit]

theorem V.inv_vptr {w:World} {β:Hd} {i ver m f t k:Nat} {xs:List AV} {x:Value} (hi:lk L i=some (.vec t k ver xs)) (h:V w β L (.vptr i ver m f) x):∃ b,β.at_ i=some b∧x=.pointer (some ⟨b,m*k+f,none⟩):=by
 cases h with
 | data h=>cases h
 | vptr hp _=>
  obtain⟨t',k',ver',xs',h1,_,h3⟩:=hp
  rw [hi] at h1; cases h1
  exact h3 rfl

theorem H14 {w:World} {β:Hd} {i b t k ver:Nat} {xs:List AV} (hsat:Sat w β L) (hi:lk L i=some (.vec t k ver xs)) (hb:β.at_ i=some b) :
  (∀ y∈xs,y.cells.length=k)∧∃ vs:Array Value,w.heap[b]? = some (.cells vs t (0,0))∧xs.length*k≤vs.size∧∀ (j:Nat) u v,(flat xs)[j]? = some u→vs[j]? = some v→D w (Qd w β L) u v:=by
 obtain⟨o1,o2⟩:=hsat.obj i _ hi
 refine⟨o1,?_⟩
 rcases o2 with ⟨h,_⟩ | ⟨b',h,vs,h1,h2,h3⟩
 ·rw [hb] at h; cases h
 ·rw [hb] at h; cases h; exact⟨vs,h1,h2,h3⟩

theorem Y69 {x:Operand} {T i ver m f t k:Nat} {xs:List AV} {y:AV} (hT:Z1 P T=true) (ho:o.op=.load T x) (hx:ev l x=.vptr i ver m f) (hi:lk L i=some (.vec t k ver xs)) (hy:xs[m]? = some y) (hu:y.cells[f]? = some u) (hfk:f < k):H5 P o l L (Is u L):=
 Hx fun a w β hsat hf=>by
  have hv:=hf.ev x
  rw [hx] at hv
  obtain⟨b,hb,he⟩:=hv.inv_vptr hi
  obtain⟨h1,vs,h2,h3,h4⟩:=H14 hsat hi hb
  have hm:=(Kh hy).1
  have hlt:m*k+f < vs.size:=by
   have:(m+1)*k≤xs.length*k:=Nat.mul_le_mul_right _ hm
   rw [Nat.add_mul] at this; omega
  refine⟨vs[m*k+f],?_,.data (h4 (m*k+f) u _ (by rw [Gc1 h1 hy hfk]; exact hu) (by simp [hlt]))⟩
  have:=Gbf (P:=P) (T:=T) (b:=b) (o':=m*k+f) (v:=vs[m*k+f]) hT (w:=w) (by simp [World.cell?,h2,hlt])
  simp [execOp,ho,he,this]

theorem R46 {x y:Operand} {T i ver m f t k kk:Nat} {xs ds:List AV} {e z:AV} (hT:Zf P T kk=true) (ho:o.op=.store T x y) (hu:ev l y=u) (hx:ev l x=.vptr i ver m f) (hi:lk L i=some (.vec t k ver xs)) (he:xs[m]? = some e)
  (hc:u.flatOk=true) (hd:u.isData=true) (hds:J28 f u.cells e.cells=some ds) (hz:z.cells=ds) (hk:u.cells.length=kk) (hpos:Nat.blt 0 kk=true) :
  H5 P o l L (Is .junk ((i,.vec t k ver (xs.set m z))::L)):=by
 subst hu
 have hne:(ev l y).cells≠[]:=fun e=>by rw [e] at hk; subst hk; cases hpos
 obtain⟨rfl,hfit0⟩:=Jed hds hne
 rw [hk] at hfit0
 intro a w β K Q hsat hf hK
 have h1:=hf.ev x
 rw [hx] at h1
 obtain⟨b,hb,hax⟩:=h1.inv_vptr hi
 obtain⟨q1,vs,q2,q3,q4⟩:=H14 hsat hi hb
 have hm:=(Kh he).1
 have hek:e.cells.length=k:=q1 e (Kk he)
 have hfit:m*k+f+kk≤vs.size:=by
  have:(m+1)*k≤xs.length*k:=Nat.mul_le_mul_right _ hm
  rw [Nat.add_mul] at this; omega
 obtain⟨c1,c2,c3⟩:=(hf.ev y).cells hc
 have hr:=H87 (P:=P) (off:=m*k+f) hT (c1.trans hk) c3 q2 hfit
 unfold Oper.wp
 have hr':(execOp a.eval o).run P w=.ok .skip (w.setRow b (vs.toList.take (m*k+f)++(a.eval y).cells.toList++vs.toList.drop (m*k+f+kk)).toArray):=by
  simp [execOp,ho,hax,hr]
 rw [hr']
 have hb2:=setRow_heap w b vs (vs.toList.take (m*k+f)++(a.eval y).cells.toList++vs.toList.drop (m*k+f+kk)).toArray t (0,0) q2
 have hsz2:(vs.toList.take (m*k+f)++(a.eval y).cells.toList++vs.toList.drop (m*k+f+kk)).toArray.size=vs.size:=by
  simp [c1]; omega
 have hzk:z.cells.length=k:=by
  rw [hz]; simp [hk]; omega
 obtain⟨st,sat⟩:=G07 (w':=w.setRow b (vs.toList.take (m*k+f)++(a.eval y).cells.toList++vs.toList.drop (m*k+f+kk)).toArray) (t:=t) (k:=k) (ver1:=ver) (xs':=xs.set m z) (ob':=β.at_ i) hsat
  (.inr ⟨ver,xs,hi,Kn,fun _=>⟨by simp,rfl,fun b' hb'=>by
   rw [hb] at hb'; cases hb'
   rw [World.shape?,hb2,World.shape?,q2]; simp only [hsz2]⟩⟩) rfl rfl ⟨rfl,Kn⟩ (by simp)
  (fun b' _ hne=>setRow_other w b b' _ (fun e=>hne (by rw [inL,hi]; rfl) (by rw [hb,e])))
  (.inr (.inl ⟨by rw [inL,hi]; rfl,rfl⟩))
 have hxs:∀ y∈xs.set m z,y.cells.length=k:=fun y hy=>by
  rcases List.mem_or_eq_of_mem_set hy with h | h
  ·exact q1 y h
  ·rw [h]; exact hzk
 refine hK _ _ _ _ _ ⟨rfl,rfl⟩ (sat ⟨hxs,.inr ⟨b,hb,_,hb2,by rw [hsz2]; simpa using q3,fun j u v hu hv=>?_⟩⟩) st .junk
 rw [R30 q1 hm hzk,hz] at hu
 have hxl:(flat xs).length=xs.length*k:=Jm q1
 have hmk:m*k+k≤xs.length*k:=by
  have:(m+1)*k≤xs.length*k:=Nat.mul_le_mul_right _ hm
  rwa [Nat.add_mul,Nat.one_mul] at this
 simp only [List.getElem?_toArray] at hv
 have old:∀ j',(flat xs)[j']? = some u→vs[j']? = some v→D _ _ u v:=fun j' a b=>(q4 j' u v a b).mono st.stab
 have hzl:(e.cells.take f++(ev l y).cells++e.cells.drop (f+(ev l y).cells.length)).length=k:=by rw [← hz]; exact hzk
 have hvyl:(a.eval y).cells.toList.length=kk:=by rw [Array.length_toList,c1,hk]
 rcases Nat.lt_or_ge j (m*k) with hj | hj
 ·rw [List.append_assoc,List.getElem?_append_left (by simp; omega),List.getElem?_take,if_pos hj] at hu
  rw [List.append_assoc,List.getElem?_append_left (by simp; omega),List.getElem?_take,if_pos (by omega)] at hv
  exact old j hu (by simpa using hv)
 rcases Nat.lt_or_ge j (m*k+k) with hj2 | hj2
 ·-- in the element
  rw [List.getElem?_append_left (by rw [Ko,hzl]; simp; omega),List.getElem?_append_right (by simp; omega)] at hu
  have hl0:(List.take (m*k) (flat xs)).length=m*k:=by simp; omega
  rw [hl0] at hu
  rcases Nat.lt_or_ge j (m*k+f) with hj3 | hj3
  ·rw [List.append_assoc,List.getElem?_append_left (by simp; omega),List.getElem?_take,if_pos (by omega)] at hu
   rw [List.append_assoc,List.getElem?_append_left (by simp; omega),List.getElem?_take,if_pos hj3] at hv
   refine old j ?_ (by simpa using hv)
   rw [show j=m*k+(j - m*k) by omega,Gc1 q1 he (by omega)]; exact hu
  rcases Nat.lt_or_ge j (m*k+f+kk) with hj4 | hj4
  ·rw [List.getElem?_append_left (by simp [hk]; omega),List.getElem?_append_right (by simp; omega)] at hu
   rw [List.getElem?_append_left (by rw [Ko,hvyl]; simp; omega),List.getElem?_append_right (by simp; omega)] at hv
   have l1:(List.take f e.cells).length=f:=by simp; omega
   have l2:(List.take (m*k+f) vs.toList).length=m*k+f:=by simp; omega
   rw [l1] at hu
   rw [l2] at hv
   rw [show j - m*k - f=j - (m*k+f) by omega] at hu
   have hdd:u.isData=true:=by
    have hm2:=Kk hu
    exact Q26 (ok:=fun _=>false) hd u hm2
   exact((c2 _ u v hu (by simpa using hv)).toD hdd).mono st.stab
  ·rw [List.getElem?_append_right (by simp [hk]; omega),List.getElem?_drop] at hu
   rw [List.getElem?_append_right (by rw [Ko,hvyl]; simp; omega),List.getElem?_drop] at hv
   have l1:(List.take f e.cells++(ev l y).cells).length=f+kk:=by simp [hk]; omega
   have l2:(List.take (m*k+f) vs.toList++(a.eval y).cells.toList).length=m*k+f+kk:=by rw [Ko,hvyl]; simp; omega
   rw [l1,hk] at hu
   rw [l2] at hv
   refine old j ?_ ?_
   ·rw [show j=m*k+(j - m*k) by omega,Gc1 q1 he (by omega)]
    rw [show f+kk+(j - m*k - (f+kk))=j - m*k by omega] at hu; exact hu
   ·rw [show m*k+f+kk+(j - (m*k+f+kk))=j by omega] at hv; simpa using hv
 ·rw [List.getElem?_append_right (by rw [Ko,hzl]; simp; omega),List.getElem?_drop] at hu
  rw [List.getElem?_append_right (by rw [Ko,hvyl]; simp; omega),List.getElem?_drop] at hv
  have l1:(List.take (m*k) (flat xs)++(e.cells.take f++(ev l y).cells++e.cells.drop (f+(ev l y).cells.length))).length=m*k+k:=by rw [Ko,hzl]; simp; omega
  have l2:(List.take (m*k+f) vs.toList++(a.eval y).cells.toList).length=m*k+f+kk:=by rw [Ko,hvyl]; simp; omega
  rw [l1] at hu
  rw [l2] at hv
  refine old j ?_ ?_
  ·rw [show m*k+k+(j - (m*k+k))=j by omega] at hu; exact hu
  ·rw [show m*k+f+kk+(j - (m*k+f+kk))=j by omega] at hv; simpa using hv
end ops

section freeze
variable {P:Program} {N:Cfg} {Q:Post} {l l':Fr} {L L':Loc}

theorem V.vfreeze {w:World} {β:Hd} {i ver n t k:Nat} {xs:List AV} {v:Value} (hsat:Sat w β L) (hi:lk L i=some (.vec t k ver xs)) (hdr:J5c L L') (hi':lk L' i=none) (h:V w β L (.vec i ver k n) v):V w β L' (.list k xs) v:=by
 obtain⟨rfl,hk,h⟩:=Ge7 hsat hi h
 rcases h with ⟨rfl,rfl,_⟩ | ⟨b,cap,vs,rfl,hb,h1,h2,h3,h4,h5⟩
 ·exact .data (.nil (Nat.zero_le _))
 ·have hlt:∀ j,j < (flat xs).length→j < vs.size:=fun j hj=>by
   rw [Jm hk] at hj
   have:=Nat.mul_le_mul_right k h1
   omega
  refine .data (.list (fun j=>vs.getD j undef) h1 h2 hk (fun j hj=>⟨⟨(Array.getElem?_eq_some_iff.1 h3).1,hsat.apart i b _ (by rw [hi]; rfl) hb,fun id o ho hb'=>?_⟩,?_⟩) (fun j u hu=>?_))
  ·obtain⟨o0,ho0,_⟩:=hdr.like id o ho
   have:=hsat.inj i id b (by rw [hi]; rfl) (by rw [ho0]; rfl) hb hb'
   subst this
   rw [hi'] at ho; cases ho
  ·have:=hlt j hj
   simp [World.cell?,h3,this]
  ·have hj:=(Kh hu).1
   have:=hlt j hj
   refine(h5 j u _ hu ?_).mono fun b i hs=>⟨hdr.stab hs,rfl⟩
   simp [this]

inductive Y62 (i ver k:Nat) (xs:List AV) (ok:Nat→Bool):AV→AV→Prop
 | conv {u u':AV} (h:Conv ok u u'):Y62 i ver k xs ok u u'
 | vec {n:Nat}:Y62 i ver k xs ok (.vec i ver k n) (.list k xs)
def Q68 (i ver k:Nat) (xs:List AV) (ok:Nat→Bool) (l:Fr):Fr→Prop
 | []=>True
 | (t,u)::r=>Y62 i ver k xs ok (look l t) u∧Q68 i ver k xs ok l r
theorem Q68.get {i ver k:Nat} {xs:List AV} {ok:Nat→Bool} {l:Fr}:∀ {l':Fr},Q68 i ver k xs ok l l'→∀ t,Y62 i ver k xs ok (look l t) (look l' t)
 | [],_,t=>.conv .junk
 | (s,u)::r,h,t=>by
  simp only [look]
  cases hb:Nat.beq s t with
  | true=>have:=Nat.eq_of_beq_eq_true hb; subst this; exact h.1
  | false=>exact Q68.get h.2 t

theorem Ys.vfreeze {w0 w:World} {β0 β:Hd} {L0:Loc} {a:Act} (hs:Ys N w0 β0 L0 a w β l L) (i:Nat) {t ver k:Nat} {xs:List AV} (hi:lk L i=some (.vec t k ver xs))
  (hi':lk L' i=none) (hl:H00 (fun j=>(lk L' j).isSome) L L') (hb:allIn L' N.base=true) (hf:Q68 i ver k xs (fun j=>(lk L' j).isSome) l l'):Ys N w0 β0 L0 a w β l' L':=by
 have hfit:Fits N.base l L [] L':=⟨trivial,hl,hb⟩
 have h1:=hs.fits hfit
 refine⟨h1.sat,h1.step,⟨fun t'=>?_⟩,h1.size,h1.base,h1.defers⟩
 have hv:=hs.frame.tmp t'
 generalize hu:look l t'=u at hv
 have hz:=hf.get t'
 rw [hu] at hz
 generalize look l' t'=u' at hz
 cases hz with
 | conv hc=>exact hv.conv hfit.drop hc
 | vec=>exact hv.vfreeze hs.sat hi hfit.drop hi'
theorem Q64 {c:Code} (l':Fr) (L':Loc) (i:Nat) {t ver k:Nat} {xs:List AV} (hi:lk L i=some (.vec t k ver xs)) (hi':lk L' i=none) (hl:H00 (fun j=>(lk L' j).isSome) L L') (hb:allIn L' N.base=true)
  (hf:Q68 i ver k xs (fun j=>(lk L' j).isSome) l l') (hk:JC P N c Q l' L'):JC P N c Q l L:=fun n w0 β0 L0 a w β hs=>hk n w0 β0 L0 a w β (hs.vfreeze i hi hi' hl hb hf)
end freeze

section calls
variable {P:Program} {o:Oper} {l:Fr} {L:Loc} {u:AV}

inductive Gce (L:Loc):AV→AV→Prop
 | data {u u':AV} (h:u.plain=u') (hd:u'.isData=true):Gce L u u'
 | vec {i ver k n t:Nat} {xs:List AV} (hi:lk L i=some (.vec t k ver xs)):Gce L (.vec i ver k n) (.list k xs)
 | agg {cs ds:List AV} (hl:ds.length=cs.length) (h:∀ (j:Nat) u u',cs[j]? = some u→ds[j]? = some u'→Gce L u u'):Gce L (.agg cs) (.agg ds)
def H8f (L:Loc):List AV→List AV→Prop
 | [],[]=>True
 | u::r,u'::s=>Gce L u u'∧H8f L r s
 | _,_=>False
def H92 (l:Fr) (L:Loc):List Operand→List AV→Prop
 | [],[]=>True
 | x::r,u::s=>Gce L (ev l x) u∧H92 l L r s
 | _,_=>False
def J0f (l:Fr) (L0:Loc):List Operand→List AV→Prop
 | [],[]=>True
 | x::r,u::s=>(ev l x=u∨(ev l x).plain=u)∧u.refs (inL L0)=true∧J0f l L0 r s
 | _,_=>False
theorem J0f.length {l:Fr} {L0:Loc}:∀ {xs:List Operand} {us:List AV},J0f l L0 xs us→xs.length=us.length
 | [],[],_=>rfl
 | _::r,_::s,h=>by simp [J0f.length h.2.2]
theorem J0f.get {l:Fr} {L0:Loc}:∀ {xs:List Operand} {us:List AV},J0f l L0 xs us→∀ {j:Nat} {x:Operand} {u:AV},xs[j]? = some x→us[j]? = some u→(ev l x=u∨(ev l x).plain=u)∧u.refs (inL L0)=true
 | [],[],_,j,x,u,h,_=>by simp at h
 | x::r,u::s,h,0,_,_,hx,hu=>by simp at hx hu; subst hx hu; exact⟨h.1,h.2.1⟩
 | x::r,u::s,h,j+1,_,_,hx,hu=>by simp at hx hu; exact J0f.get h.2.2 hx hu

def Q78 (L:Loc):Loc→Prop
 | []=>True
 | (i,ob)::r=>lk L i=some ob∧Q78 L r
theorem Q78.get {L:Loc}:∀ {L0:Loc},Q78 L L0→∀ {id:Nat} {ob:Jt},lk L0 id=some ob→lk L id=some ob
 | [],_,id,ob,h=>by simp [lk] at h
 | (i,o')::r,hs,id,ob,h=>by
  rw [Gs] at h
  by_cases e:i=id
  ·subst e; rw [if_pos rfl] at h; cases h; exact hs.1
  ·rw [if_neg e] at h; exact Q78.get hs.2 h
def closedIn (ok:Nat→Bool):Loc→Bool
 | []=>true
 | (_,ob)::r=>ob.refs ok&&closedIn ok r
theorem closedIn.get {ok:Nat→Bool}:∀ {L0:Loc},closedIn ok L0=true→∀ {id:Nat} {ob:Jt},lk L0 id=some ob→ob.refs ok=true
 | [],_,id,ob,h=>by simp [lk] at h
 | (i,o')::r,hs,id,ob,h=>by
  simp only [closedIn,Kq] at hs
  rw [Gs] at h
  by_cases e:i=id
  ·subst e; rw [if_pos rfl] at h; cases h; exact hs.1
  ·rw [if_neg e] at h; exact closedIn.get hs.2 h
def H5e (L L0:Loc):Loc→Bool
 | []=>true
 | (i,_)::r=>(inL L0 i||!inL L i)&&H5e L L0 r
theorem H5e.get {L L0:Loc}:∀ {Lr:Loc},H5e L L0 Lr=true→∀ {id:Nat},inL Lr id=true→inL L0 id=true∨lk L id=none
 | [],_,id,h=>by simp [inL,lk] at h
 | (i,_)::r,hs,id,h=>by
  simp only [H5e,Kq,Ky,Bool.not_eq_true'] at hs
  rw [inL,Gs] at h
  by_cases e:i=id
  ·subst e
   exact hs.1.imp id (fun h=>by simpa [inL] using h)
  ·rw [if_neg e] at h; exact H5e.get hs.2 h

theorem Qaf {f:FuncId} {vs:Array Value} {args:List AV} {L0 Lr L'':Loc} {a:Act} {w:World} {β:Hd} {K:Act→World→Prop} {Q:Exit→Act→World→Prop} (hc:Ym P f args L0 (fun r L'=>r=u∧L'=Lr)) (hsat:Sat w β L)
  (hsub:Q78 L L0) (hcl:closedIn (inL L0) L0=true) (hnew:H5e L L0 Lr=true) (hL:Lr++Hd3 L L0=L'') (hl:vs.size=args.length)
  (hv:∀ (j:Nat) u v,args[j]? = some u→vs[j]? = some v→V w β L u v∧u.refs (inL L0)=true)
  (hK:∀ u' L' v w' β',Is u L'' u' L'→Sat w' β' L'→Step w β L w' β' L'→V w' β' L' u' v→K (a.put o.dst v) w') :
  Calls P f vs w fun
   | .returned v,w''=>K (a.put o.dst v) w''
   | .panicked chain,w''=>Q (.panic chain) a w''
   | .outgrown,_=>LetsOut Q:=by
 refine(Q3a hc hsat (fun id ob h=>hsub.get h) (fun id ob h=>closedIn.get hcl h) hl hv (fun r L' hR id h=>by rw [hR.2] at h; exact H5e.get hnew h)).mono fun e w' h=>?_
 obtain⟨v,r,β',L',rfl,⟨rfl,rfl⟩,h1,h2,h3⟩:=h
 unfold H30 at h1 h2 h3
 rw [hL] at h1 h2 h3
 exact hK _ _ v w' _ ⟨rfl,rfl⟩ h1 h2 h3

theorem J27 {f:FuncId} {xs:List Operand} {args:List AV} {ts:Array TypeId} {L0 Lr L'':Loc} (ho:o.op=.call { callee:=.value (.func f),args:=xs.toArray,argTypes:=ts }) (hc:Ym P f args L0 (fun r L'=>r=u∧L'=Lr)) (hB:Hf P f=true) (ha:J0f l L0 xs args)
  (hsub:Q78 L L0) (hcl:closedIn (inL L0) L0=true) (hnew:H5e L L0 Lr=true) (hL:Lr++Hd3 L L0=L''):H5 P o l L (Is u L''):=by
 intro a w β K Q hsat hf hK
 have hr:(execOp a.eval o).run P w=.ok (.enter f (xs.toArray.map a.eval)) w:=by
  simp [execOp,ho,resolve,Act.eval,Deferred.ofValue,invoke,Hf.out hB]
 unfold Oper.wp
 rw [hr]
 refine Qaf hc hsat hsub hcl hnew hL (by simp [ha.length]) (fun j u v hu hv=>?_) hK
 simp only [Array.getElem?_map,List.getElem?_toArray,Option.map_eq_some_iff] at hv
 obtain⟨x,hx,rfl⟩:=hv
 obtain⟨h1,h2⟩:=ha.get hx hu
 refine⟨?_,h2⟩
 rcases h1 with h1 | h1
 ·rw [← h1]; exact hf.ev x
 ·rw [← h1]; exact(hf.ev x).plain

theorem Q72 {f:FuncId} {x:Operand} {xs:List Operand} {args caps:List AV} {ts:Array TypeId} {L0 Lr L'':Loc} (ho:o.op=.call { callee:=.value x,args:=xs.toArray,argTypes:=ts }) (hx:ev l x=.fn f caps) (hc:Ym P f (args++caps) L0 (fun r L'=>r=u∧L'=Lr)) (hB:Hf P f=true) (ha:J0f l L0 xs args)
  (hcd:G2c (inL L0) caps=true) (hsub:Q78 L L0) (hcl:closedIn (inL L0) L0=true) (hnew:H5e L L0 Lr=true) (hL:Lr++Hd3 L L0=L''):H5 P o l L (Is u L''):=by
 intro a w β K Q hsat hf hK
 have hvx:=hf.ev x
 rw [hx] at hvx
 obtain⟨cs,he,hcl',hcv⟩:=hvx.inv_fn
 have hr:(execOp a.eval o).run P w=.ok (.enter f (xs.toArray.map a.eval++cs)) w:=by
  simp [execOp,ho,resolve,he,Deferred.ofValue,invoke,Hf.out hB]
 unfold Oper.wp
 rw [hr]
 refine Qaf hc hsat hsub hcl hnew hL (by simp [ha.length,hcl']) (fun j u v hu hv=>?_) hK
 rcases Nat.lt_or_ge j args.length with hj | hj
 ·rw [List.getElem?_append_left hj] at hu
  rw [Array.getElem?_append_left (by simp [ha.length]; exact hj)] at hv
  simp only [Array.getElem?_map,List.getElem?_toArray,Option.map_eq_some_iff] at hv
  obtain⟨y,hy,rfl⟩:=hv
  obtain⟨h1,h2⟩:=ha.get hy hu
  refine⟨?_,h2⟩
  rcases h1 with h1 | h1
  ·rw [← h1]; exact hf.ev y
  ·rw [← h1]; exact(hf.ev y).plain
 ·rw [List.getElem?_append_right hj] at hu
  rw [Array.getElem?_append_right (by simp [ha.length]; exact hj)] at hv
  simp only [Array.size_map,List.size_toArray,ha.length] at hv
  exact⟨hcv _ u v hu hv,G37 hcd u (Kk hu)⟩
end calls

section ops
variable {P:Program} {N:Cfg} {Q:Post} {o:Oper} {ops:Array Oper} {rest:List Oper} {l:Fr} {L L':Loc} {u:AV} {α:Type}

theorem H11 {s x:Operand} {T E k by_ i ver ver1 n kx:Nat} {f:α→AV} {xs ys:List α} (ho:o.op=.call { callee:=.builtin .append,args:=#[s,x],argTypes:=#[T,T] }) (hs:ev l s=.vec i ver k n) (hi:lk L i=some (.vec E k ver (xs.map f))) (hx:Qj (ev l x)=some (kx,ys.map f))
  (hT:sliceB P T E k=true) (hE:Zr P E k by_=true) (hb:decide ((xs.length+ys.length)*by_≤140737488355328∧xs.length+ys.length≤maxLen)=true) (hcell:∀ y,(f y).flatOk=true) (hk:kx=k∨ys=[]) (hv:ver < ver1) :
  H5 P o l L (Is (.vec i ver1 k (xs++ys).length) ((i,.vec E k ver1 ((xs++ys).map f))::L)):=by
 have hb':=Kd hb
 have h:=Y05 (xs:=xs.map f) (ys:=ys.map f) ho hs hi hx hT hE (by simpa using hb'.1) (by simpa using hb'.2) (fun y hy=>by
  obtain⟨z,_,rfl⟩:=Ku.1 hy
  exact hcell z) (hk.imp id (fun e=>by rw [e]; rfl)) hv
 simpa only [List.map_append,Ko,Ks] using h
theorem H1c {x ix:Operand} {T E k i ver n m:Nat} {kd:IntKind} {z:Int} {f:α→AV} {xs:List α} {y:α} (ho:o.op=.indexAddr T x ix) (hx:ev l x=.vec i ver k n) (hix:ev l ix=.sc (.int kd z)) (hi:lk L i=some (.vec E k ver (xs.map f))) (hT:sliceB P T E k=true) (hy:xs[m]? = some y) (hz:z=(m:Int)) :
  H5 P o l L (Is (.vptr i ver m 0) L):=Y94 ho hx hix hi hT (by rw [Ks]; exact(Kh hy).1) hz
theorem Hac {x:Operand} {T i ver m fo t k:Nat} {f:α→AV} {xs:List α} {y:α} (hT:Z1 P T=true) (ho:o.op=.load T x) (hx:ev l x=.vptr i ver m fo) (hi:lk L i=some (.vec t k ver (xs.map f))) (hy:xs[m]? = some y) (hu:(f y).cells[fo]? = some u) (hfk:Nat.blt fo k=true):H5 P o l L (Is u L):=
 Y69 hT ho hx hi (Y51 hy) hu (by simpa [Nat.blt_eq] using hfk)
theorem R88 {us cs:List AV} (h:us.length=cs.length):J28 0 us cs=some us:=by
 have key:∀ (us cs:List AV),us.length=cs.length→J28 0 us cs=some us:=by
  intro us
  induction us with
  | nil=>intro cs h; cases cs with
   | nil=>rfl
   | cons c r=>simp at h
  | cons a r ih=>intro cs h; cases cs with
   | nil=>simp at h
   | cons c s=>simp [J28,ih s (by simpa using h)]
 exact key us cs h
theorem J24 {x y:Operand} {T i ver m t k:Nat} {f:α→AV} {xs:List α} {z:α} (hT:Zf P T k=true) (ho:o.op=.store T x y) (hu:ev l y=f z) (hx:ev l x=.vptr i ver m 0) (hi:lk L i=some (.vec t k ver (xs.map f))) (hm:m < xs.length)
  (hc:(f z).flatOk=true) (hd:(f z).isData=true) (hk:(f z).cells.length=k) (hpos:Nat.blt 0 k=true) :
  H5 P o l L (Is .junk ((i,.vec t k ver ((xs.set m z).map f))::L)):=by
 intro a w β K Q hsat hf hK
 obtain⟨o1,_⟩:=hsat.obj i _ hi
 have he:(xs.map f)[m]? = some (f xs[m]):=by simp [hm]
 have hel:(f xs[m]).cells.length=k:=o1 _ (Kk he)
 have h:=R46 (P:=P) (e:=f xs[m]) (z:=f z) (ds:=(f z).cells) hT ho hu hx hi he hc hd (R88 (hk.trans hel.symm)) rfl hk hpos
 rw [← List.map_set] at h
 exact h a w β K Q hsat hf hK
theorem R47 (i:Nat) {x y:Operand} {T E k by_ n:Nat} {kd kd':IntKind} {nx ny:Int} {f:α→AV} (z:α) (zs:List Value) (ho:o.op=.makeSlice T x y) (hx:ev l x=.sc (.int kd nx)) (hy:ev l y=.sc (.int kd' ny)) (hi:lk L i=none)
  (hT:sliceB P T E k=true) (hE:Zr P E k by_=true) (hz:(P.info? E).bind (fun i=>i.zero.map Value.cells)=some zs.toArray) (hn:nx=(n:Int)) (hm:ny=(n:Int)) (hb:decide (by_*n≤281474976710656∧n≤maxLen∧n*k≤16777216)=true)
  (hzz:ZOk (f z).cells zs) (hzk:(f z).cells.length=k) :
  H5 P o l L (Is (.vec i 0 k (List.replicate n z).length) ((i,.vec E k 0 ((List.replicate n z).map f))::L)):=by
 have h:=Y68 (P:=P) (T:=T) (E:=E) i zs ho hx hy hi hT hE hz hn hm hb (f z) (fun w S j a b ha hb'=>by
  have:=ZOk.get (w:=w) (β:=⟨fun _=>none,fun b i=>¬ S b i⟩) (L:=[]) hzz j a b ha hb'
  refine(this.data_of_nil).mono fun b i hs=>⟨Classical.byContradiction fun hn=>hs.seen hn,rfl⟩) hzk
 simpa only [List.map_replicate,List.length_replicate] using h
def Gd7 (z:Int):Option Nat:=bif decide (0≤z) then some z.toNat else none
theorem G56 {z:Int} {n:Nat} (h:Gd7 z=some n):z=(n:Int):=by
 unfold Gd7 at h
 cases hb:decide (0≤z) with
 | true=>rw [hb] at h; cases h; have:=Kd hb; omega
 | false=>rw [hb] at h; cases h
end ops

structure Hr (κ ν:Type) where
 l:List (κ×ν)
 nd:(l.map (·.1)).Nodup
namespace Hr
variable {κ ν:Type} [DecidableEq κ]
def empty:Hr κ ν:=⟨[],List.nodup_nil⟩
def put (m:Hr κ ν) (a:κ) (v:ν):Hr κ ν:=⟨H77 m.l a v,Q31 m.nd a v⟩
def get (m:Hr κ ν) (a:κ) (z:ν):ν:=(G93 m.l a).getD z
def has (m:Hr κ ν) (a:κ):Bool:=Ge6 m.l a
def size (m:Hr κ ν):Nat:=m.l.length
end Hr
def MP {κ ν:Type} (T:Nat) (kv:κ→Value) (av:ν→AV) (m:Hr κ ν):Jt:=.map T (mapOf kv av m.l)
def MI {κ ν:Type} [DecidableEq κ] (T:Nat) (kv:κ→Value) (av:ν→AV) (m:Hr κ ν) (a:κ) (z:ν):Jt:=.map T (mapOf kv av (H20 m.l a z))

section ops
variable {P:Program} {N:Cfg} {o:Oper} {l:Fr} {L L':Loc} {u:AV} {κ ν:Type} {kv:κ→Value} {av:ν→AV}

theorem J5d (i:Nat) {T:Nat} (kv:κ→Value) (av:ν→AV) (ho:o.op=.makeMap T none) (hi:lk L i=none):H5 P o l L (Is (.mp i) ((i,MP T kv av Hr.empty)::L)):=Y09 i ho hi
theorem Qb6 [DecidableEq κ] {x y:Operand} {T K E i:Nat} {ok:Bool} {m:Hr κ ν} {a:κ} (z0:ν) (zv:Value) (ho:o.op=.lookup T x y ok) (hm:ev l x=.mp i) (hi:lk L i=some (MP T kv av m))
  (hx:ev l y=G2a (kv a)) (hk:H83 P K kv) (hT:Gf0 P T K E=true) (hz:(P.info? E).bind (·.zero)=some zv) (hzv:av z0=G2a zv) :
  H5 P o l L (Is (bif ok then .tup [av (m.get a z0),BL (m.has a)] else av (m.get a z0)) L):=Q6d z0 zv ho hm hi m.nd hx hk hT hz hzv
theorem J5e [DecidableEq κ] {x y:Operand} {T K E i:Nat} {m:Hr κ ν} {a:κ} (z0:ν) (zv:Value) (ho:o.op=.lookup T x y false) (hm:ev l x=.mp i) (hi:lk L i=some (MP T kv av m))
  (hx:ev l y=G2a (kv a)) (hk:H83 P K kv) (hT:Gf0 P T K E=true) (hz:(P.info? E).bind (·.zero)=some zv) (hzv:av z0=G2a zv) :
  H5 P o l L (Is (av (m.get a z0)) L):=Qb6 (ok:=false) z0 zv ho hm hi hx hk hT hz hzv
theorem Ra5 [DecidableEq κ] {x y:Operand} {T K E i:Nat} {m:Hr κ ν} {a:κ} (z0:ν) (zv:Value) (ho:o.op=.lookup T x y true) (hm:ev l x=.mp i) (hi:lk L i=some (MP T kv av m))
  (hx:ev l y=G2a (kv a)) (hk:H83 P K kv) (hT:Gf0 P T K E=true) (hz:(P.info? E).bind (·.zero)=some zv) (hzv:av z0=G2a zv) :
  H5 P o l L (Is (.tup [av (m.get a z0),BL (m.has a)]) L):=Qb6 (ok:=true) z0 zv ho hm hi hx hk hT hz hzv
theorem Q6c [DecidableEq κ] {x y:Operand} {T K E i:Nat} {m:Hr κ ν} {a:κ} (z0:ν) (zv:Value) (ho:o.op=.lookup T x y false) (hm:ev l x=.mp i) (hi:lk L i=some (MI T kv av m a z0))
  (hx:ev l y=G2a (kv a)) (hk:H83 P K kv) (hT:Gf0 P T K E=true) (hz:(P.info? E).bind (·.zero)=some zv) (hzv:av z0=G2a zv) :
  H5 P o l L (Is (av (m.get a z0)) L):=R4b z0 zv ho hm hi m.nd hx hk hT hz hzv
theorem J8c [DecidableEq κ] {x y z:Operand} {T K E i:Nat} {m:Hr κ ν} {a:κ} {v:ν} (ho:o.op=.mapUpdate T x y z) (hm:ev l x=.mp i) (hi:lk L i=some (MP T kv av m))
  (hx:ev l y=G2a (kv a)) (hy:(ev l z).plain=av v) (hyd:(av v).isData=true) (hk:H83 P K kv) (hT:Gf0 P T K E=true) :
  H5 P o l L (Is .junk ((i,MP T kv av (m.put a v))::L)):=R4a ho hm hi m.nd hx hy hyd hk hT
theorem Jde [DecidableEq κ] {x y:Operand} {T K E i:Nat} {m:Hr κ ν} {a:κ} (z0:ν) (zv:Value) (ho:o.op=.mapEntry T x y) (hm:ev l x=.mp i) (hi:lk L i=some (MP T kv av m))
  (hx:ev l y=G2a (kv a)) (hk:H83 P K kv) (hT:Gf0 P T K E=true) (hz:(P.info? E).bind (·.zero)=some zv) (hzv:av z0=G2a zv) :
  H5 P o l L (Is (.tup [.junk,I64 (G5c m.l a)]) ((i,MI T kv av m a z0)::L)):=Ra4 z0 zv ho hm hi m.nd hx hk hT hz hzv
theorem J38 [DecidableEq κ] {x s y:Operand} {T i:Nat} {m:Hr κ ν} {a:κ} {v:ν} (z0:ν) (ho:o.op=.entryStore T x s y) (hm:ev l x=.mp i) (hi:lk L i=some (MI T kv av m a z0))
  (hs:ev l s=I64 (G5c m.l a)) (hy:(ev l y).plain=av v) (hyd:(av v).isData=true) :
  H5 P o l L (Is .junk ((i,MP T kv av (m.put a v))::L)):=Qde z0 ho hm hi m.nd hs hy hyd
theorem Q6a (i:Nat) {x:Operand} {T K E j:Nat} {m:Hr κ ν} (ho:o.op=.range T x) (hx:ev l x=.mp j) (hm:lk L j=some (MP T kv av m)) (hi:lk L i=none) (hT:Gf0 P T K E=true) :
  H5 P o l L (Is (.it i) ((i,.iter j m.size [])::L)):=by
 have h:=Y6a (P:=P) i ho hx hm hi hT
 simpa only [mapOf,Ks,Hr.size] using h
end ops

section ops
variable {P:Program} {N:Cfg} {Q:Post} {o:Oper} {l:Fr} {L L':Loc} {u:AV} {κ ν:Type} {kv:κ→Value} {av:ν→AV}
def Ybb (i j:Nat) (L:Loc) (kv:κ→Value) (av:ν→AV) (m:Hr κ ν) (seen:List Nat):AV→Loc→Prop:=fun u L'=>
 (∃ q e,m.l[q]? = some e∧q ∉ seen∧u=.tup [BL true,G2a (kv e.1),av e.2]∧L'=(i,.iter j m.size (seen++[q]))::L)∨((∀ q,q < m.l.length→q∈seen)∧u=.tup [BL false]∧L'=L)
theorem H5.weaken {R R':AV→Loc→Prop} (h:H5 P o l L R) (hR:∀ u L',R u L'→R' u L'):H5 P o l L R':=fun a w β K Q h1 h2 h3=>h a w β K Q h1 h2 (fun u L' v w' β' hr=>h3 u L' v w' β' (hR u L' hr))
theorem Y27 {m:Hr κ ν} {q:Nat} {k:Value} {v:AV} (h:(mapOf kv av m.l)[q]? = some (k,v)):∃ e:κ×ν,m.l[q]? = some e∧k=kv e.1∧v=av e.2:=by
 rw [mapOf,List.getElem?_map] at h
 cases hl:m.l[q]? with
 | none=>rw [hl] at h; cases h
 | some e=>rw [hl] at h; cases h; exact⟨e,rfl,rfl,rfl⟩
theorem Qdc {x:Operand} {i j T:Nat} {m:Hr κ ν} {seen:List Nat} (ho:o.op=.next x false) (hx:ev l x=.it i) (hi:lk L i=some (.iter j m.size seen)) (hm:lk L j=some (MP T kv av m)):H5 P o l L (Ybb i j L kv av m seen):=by
 have hi':lk L i=some (.iter j (mapOf kv av m.l).length seen):=by rw [hi]; simp [mapOf,Hr.size]
 refine(Y99 ho hx hi' hm).weaken (fun u L' h=>?_)
 rcases h with ⟨q,k,v,h1,h2,h3,h4⟩ | ⟨h1,h2,h3⟩
 ·obtain⟨e,he,rfl,rfl⟩:=Y27 h1
  exact .inl ⟨q,e,he,h2,h3,by rw [h4]; simp [mapOf,Hr.size]⟩
 ·exact .inr ⟨fun q hq=>h1 q (by simpa [mapOf] using hq),h2,h3⟩
theorem Q6f {x:Operand} {i j T q:Nat} {m:Hr κ ν} {seen:List Nat} {e:κ×ν} (ho:o.op=.entry x) (hx:ev l x=.it i) (hi:lk L i=some (.iter j m.size (seen++[q]))) (hm:lk L j=some (MP T kv av m)) (he:m.l[q]? = some e) :
  H5 P o l L (Is (.tup [G2a (kv e.1),av e.2]) L):=by
 have hi':lk L i=some (.iter j (mapOf kv av m.l).length (seen++[q])):=by rw [hi]; simp [mapOf,Hr.size]
 exact Y6e ho hx hi' hm (by rw [mapOf,List.getElem?_map,he]; rfl)
theorem Q65 {body:Code} {σ:Type} (n:Nat) (I:List Nat→σ→Prop) (F:List Nat→σ→Fr) (M:List Nat→σ→Loc) (s0:σ) (h0:I [] s0) (hf:Fits N.base l L (F [] s0) (M [] s0))
  (hr:∀ i s,I i s→∀ K:Fr→Loc→Prop,(∀ l L i' s',I i' s'→unseen n i' < unseen n i→Fits N.base l L (F i' s') (M i' s')→K l L)→JC P N body (Q.seq K) (F i s) (M i s)):JC P N (.loop body) Q l L:=
 Rcb (fun x:List Nat×σ=>I x.1 x.2) (fun x=>F x.1 x.2) (fun x=>M x.1 x.2) (fun x=>unseen n x.1) ([],s0) h0 hf
  (fun x hi K hK=>hr x.1 x.2 hi K (fun l L i' s' h1 h2 h3=>hK l L (i',s') h1 h2 h3))
end ops

/-! ### Ranging over a map: every order of its entries -/
section range
variable {α β σ:Type}
def J4f (b:α→σ→(σ→Option (σ ⊕ β))→Option (σ ⊕ β)) (kx:σ→Option β):List α→σ→Option β
 | [],s=>kx s
 | x::xs,s=>match b x s (fun s'=>some (.inl s')) with
  | some (.inl s')=>J4f b kx xs s'
  | some (.inr r)=>some r
  | none=>none
def lft (x:Option β):Option (σ ⊕ β):=x.map .inr
def Q42 (b:α→σ→(σ→Option (σ ⊕ Prop))→Option (σ ⊕ Prop)) (kx:σ→Option Prop) (l:List α) (s:σ):Option Prop:=
 some (∀ q:List α,q.Perm l→∃ p,J4f b kx q s=some p∧p)
theorem Y52 {x:Option β} {r:σ ⊕ β} (h:lft x=some r):∃ y,r=.inr y∧x=some y:=by
 cases x with
 | none=>cases h
 | some y=>cases h; exact⟨y,rfl,rfl⟩
theorem Q9c {b:α→σ→(σ→Option (σ ⊕ Prop))→Option (σ ⊕ Prop)} {kx:σ→Option Prop} {x:α} {xs:List α} {s:σ} (h:∃ p,J4f b kx (x::xs) s=some p∧p) :
  ∃ o,b x s (fun s'=>some (.inl s'))=some o∧(∀ r,o=.inr r→r)∧∀ s',o=.inl s'→∃ p,J4f b kx xs s'=some p∧p:=by
 obtain⟨p,h,hp⟩:=h
 rw [J4f] at h
 cases hb:b x s (fun s'=>some (.inl s')) with
 | none=>rw [hb] at h; cases h
 | some o=>
  rw [hb] at h
  cases o with
  | inl s'=>exact⟨_,rfl,(fun r e=>by cases e),(fun s2 e=>by cases e; exact⟨p,h,hp⟩)⟩
  | inr r=>cases h; exact⟨_,rfl,(fun r2 e=>by cases e; exact hp),(fun s2 e=>by cases e)⟩
def MInv (b:α→σ→(σ→Option (σ ⊕ Prop))→Option (σ ⊕ Prop)) (kx:σ→Option Prop) (l:List α) (seen:List Nat) (s:σ):Prop:=
 (seen.Nodup∧∀ j∈seen,j < l.length)∧∀ q:List α,(seen.filterMap (fun j=>l[j]?)++q).Perm l→∃ p,J4f b kx q s=some p∧p
theorem MInv.start {b:α→σ→(σ→Option (σ ⊕ Prop))→Option (σ ⊕ Prop)} {kx:σ→Option Prop} {l:List α} {s:σ} {p:Prop} (h:Q42 b kx l s=some p) (hp:p):MInv b kx l [] s:=by
 cases h
 exact⟨⟨List.nodup_nil,by simp⟩,by simpa using hp⟩
theorem Q41 {b:α→σ→(σ→Option (σ ⊕ Prop))→Option (σ ⊕ Prop)} {kx:σ→Option Prop} {l:List α} {s:σ} {r:Option Prop} (h:Q42 b kx l s=r):∃ b' kx',b=b'∧kx=kx'∧Q42 b' kx' l s=r:=⟨b,kx,rfl,rfl,h⟩
theorem Q2f {l:List α} {seen:List Nat} (hn:seen.Nodup) (hb:∀ j∈seen,j < l.length):∃ q,(seen.filterMap (fun j=>l[j]?)++q).Perm l:=by
 have h1:∃ r,(seen++r).Perm (List.range l.length):=by
  refine⟨(List.range l.length).filter (fun j=>!seen.contains j),?_⟩
  refine(List.perm_ext_iff_of_nodup ?_ List.nodup_range).2 (fun j=>?_)
  ·refine List.nodup_append.2 ⟨hn,List.nodup_range.filter _,fun a ha b hb'=>?_⟩
   have:=(Kx.1 hb').2
   intro e; subst e; simp [ha] at this
  ·simp only [Kt,Kx,List.mem_range,Bool.not_eq_true',List.contains_eq_mem,decide_eq_false_iff_not]
   constructor
   ·rintro(h | h)
    ·exact hb j h
    ·exact h.1
   ·intro h
    by_cases hs:j∈seen
    ·exact .inl hs
    ·exact .inr ⟨h,hs⟩
 obtain⟨r,hr⟩:=h1
 have h2:=hr.filterMap (fun j=>l[j]?)
 have h3:(List.range l.length).filterMap (fun j=>l[j]?)=l:=by
  have key:∀ (l m:List α),(List.range' m.length l.length).filterMap (fun j=>(m++l)[j]?)=l:=by
   intro l
   induction l with
   | nil=>intro m; rfl
   | cons a r ih=>
    intro m
    have h1:=ih (m++[a])
    rw [List.length_cons,List.range'_succ,List.filterMap_cons_some (b:=a) (by simp)]
    congr 1
    simpa using h1
  have:=key l []
  simpa [List.range_eq_range'] using this
 rw [List.filterMap_append,h3] at h2
 exact⟨_,h2⟩
theorem MInv.step {b:α→σ→(σ→Option (σ ⊕ Prop))→Option (σ ⊕ Prop)} {kx:σ→Option Prop} {l:List α} {seen:List Nat} {s:σ} {j:Nat} {e:α} (h:MInv b kx l seen s) (hj:l[j]? = some e) (hs:j ∉ seen) :
  ∃ o,b e s (fun s'=>some (.inl s'))=some o∧(∀ r,o=.inr r→r)∧∀ s',o=.inl s'→MInv b kx l (seen++[j]) s':=by
 obtain⟨⟨h1,h2⟩,h3⟩:=h
 have hn:(seen++[j]).Nodup:=List.nodup_append.2 ⟨h1,by simp,fun a ha b hb=>by simp at hb; subst hb; intro e; subst e; exact hs ha⟩
 have hb:∀ i∈seen++[j],i < l.length:=fun i hi=>by
  rcases Kt.1 hi with hi | hi
  ·exact h2 i hi
  ·simp at hi; subst hi; exact(Kh hj).1
 have hfm:(seen++[j]).filterMap (fun j=>l[j]?)=seen.filterMap (fun j=>l[j]?)++[e]:=by
  rw [List.filterMap_append]; simp [hj]
 obtain⟨q,hq⟩:=Q2f (l:=l) hn hb
 rw [hfm,List.append_assoc] at hq
 obtain⟨o,o1,o2,_⟩:=Q9c (h3 (e::q) hq)
 refine⟨o,o1,o2,fun s' ho=>⟨⟨hn,hb⟩,fun q' hq'=>?_⟩⟩
 rw [hfm,List.append_assoc] at hq'
 obtain⟨o',p1,_,p3⟩:=Q9c (h3 (e::q') hq')
 rw [o1] at p1; cases p1
 exact p3 s' ho
theorem MInv.done {b:α→σ→(σ→Option (σ ⊕ Prop))→Option (σ ⊕ Prop)} {kx:σ→Option Prop} {l:List α} {seen:List Nat} {s:σ} (h:MInv b kx l seen s) (ha:∀ j,j < l.length→j∈seen):∃ p,kx s=some p∧p:=by
 obtain⟨⟨h1,h2⟩,h3⟩:=h
 obtain⟨q,hq⟩:=Q2f (l:=l) h1 h2
 have hl:(seen.filterMap (fun j=>l[j]?)).length=l.length:=by
  have hp:seen.Perm (List.range l.length):=(List.perm_ext_iff_of_nodup h1 List.nodup_range).2 (fun j=>by
   rw [List.mem_range]; exact⟨h2 j,ha j⟩)
  have h5:(seen.filterMap (fun j=>l[j]?)).length=seen.length:=by
   have:∀ s:List Nat,(∀ j∈s,j < l.length)→(s.filterMap (fun j=>l[j]?)).length=s.length:=by
    intro s
    induction s with
    | nil=>intro _; rfl
    | cons a r ih=>
     intro hs
     have ha:=hs a (by simp)
     rw [List.filterMap_cons_some (by simp [ha]; rfl),List.length_cons,ih (fun j hj=>hs j (by simp [hj])),List.length_cons]
   exact this seen h2
  rw [h5,hp.length_eq,List.length_range]
 have hq0:q=[]:=by
  have:=hq.length_eq
  rw [Ko,hl] at this
  exact List.eq_nil_of_length_eq_zero (by omega)
 subst hq0
 exact h3 [] hq
end range

def H73 (L L':Loc):Prop:=∀ id,lk L id=lk L' id
theorem Sat.locEq {w:World} {β:Hd} {L L':Loc} (h:Sat w β L) (e:H73 L L'):Sat w β L':=by
 have hS:∀ b i,Qd w β L b i→Qd w β L' b i:=fun b i hs=>⟨hs.lt,hs.seen,fun id o ho=>hs.kept id o (by rw [e]; exact ho)⟩
 exact⟨h.hid,fun id b h1=>h.bnd id b (by rw [e]; exact h1),fun id b j h1=>h.apart id b j (by rw [e]; exact h1),fun id id' b h1 h2=>h.inj id id' b (by rw [e]; exact h1) (by rw [e]; exact h2),
  fun id o ho=>(h.obj id o (by rw [e]; exact ho)).up hS (fun id o ho=>⟨by rw [← e]; exact ho,rfl⟩)⟩
theorem Step.locEq {w w':World} {β β':Hd} {L L1 L':Loc} (h:Step w β L w' β' L1) (e:H73 L1 L'):Step w β L w' β' L' where
 os:=h.os
 tape:=h.tape
 output:=h.output
 size:=h.size
 hid:=h.hid
 stab:=fun b i hs=>by
  obtain⟨h1,h2⟩:=h.stab b i hs
  exact⟨⟨h1.lt,h1.seen,fun id o ho=>h1.kept id o (by rw [e]; exact ho)⟩,h2⟩
 far:=fun b hb hf=>by
  obtain⟨h1,h2⟩:=h.far b hb hf
  exact⟨h1,fun id hid=>h2 id (by rw [e]; exact hid)⟩
 box:=fun id t cs hi=>by obtain⟨h1,cs',h2⟩:=h.box id t cs hi; exact⟨h1,cs',by rw [← e]; exact h2⟩
 map:=fun id t cs hi=>by obtain⟨h1,cs',h2⟩:=h.map id t cs hi; exact⟨h1,cs',by rw [← e]; exact h2⟩
 iter:=fun id m n cs hi=>by obtain⟨h1,n',cs',h2⟩:=h.iter id m n cs hi; exact⟨h1,n',cs',by rw [← e]; exact h2⟩
 vec:=fun id t k ver xs hi=>by obtain⟨v,xs',h1,h2,h3⟩:=h.vec id t k ver xs hi; exact⟨v,xs',by rw [← e]; exact h1,h2,h3⟩
 spare:=fun id t k ver xs hi=>by obtain⟨v,xs',h1,h2,h3⟩:=h.spare id t k ver xs hi; exact⟨v,xs',by rw [← e]; exact h1,h2,h3⟩
theorem V.locEq {w:World} {β:Hd} {L L':Loc} {u:AV} {v:Value} (h:V w β L u v) (e:H73 L L'):V w β L' u v:=
 h.up (fun b i hs=>⟨hs.lt,hs.seen,fun id o ho=>hs.kept id o (by rw [e]; exact ho)⟩) (fun id o ho=>⟨by rw [← e]; exact ho,rfl⟩)
theorem Gb5.locEq {P:Program} {N:Cfg} {ops:Array Oper} {o:Oper} {l:Fr} {L L1 L':Loc} {u:AV} (h:Gb5 P N ops o l L u L1) (e:H73 L1 L'):Gb5 P N ops o l L u L':=
 fun a w β K Q h1 h2 h3 h4=>h a w β K Q h1 h2 h3 (fun v w' β' k1 k2 k3=>h4 v w' β' (k1.locEq e) (k2.locEq e) (k3.locEq e))
def J55 (ks:List Nat):Loc→Bool
 | []=>true
 | (i,_)::r=>ks.contains i&&J55 ks r
def Y8a (L L':Loc):List Nat→Prop
 | []=>True
 | k::r=>lk L k=lk L' k∧Y8a L L' r
theorem J53 {ks:List Nat} {id:Nat} (h:id ∉ ks):∀ {L:Loc},J55 ks L=true→lk L id=none
 | [],_=>rfl
 | (i,o)::r,hk=>by
  simp only [J55,Kq] at hk
  rw [Gs,if_neg (fun e=>h (by subst e; simpa using hk.1))]
  exact J53 h hk.2
theorem H73.of {L L':Loc} (ks:List Nat) (h1:J55 ks L=true) (h2:J55 ks L'=true) (h3:Y8a L L' ks):H73 L L':=fun id=>by
 by_cases h:id∈ks
 ·clear h1 h2
  induction ks with
  | nil=>cases h
  | cons k r ih=>
   rcases Kw.1 h with e | h
   ·rw [e]; exact h3.1
   ·exact ih h3.2 h
 ·rw [J53 h h1,J53 h h2]

/-! ### The stages: which of the turning operations are done -/
def Je9 (ws:List Nat) (s:List Bool) (i:Nat):List Bool:=(ws.zip s).map fun p=>p.2||p.1==i
def Je1 (tb:List (List Bool×Loc)) (s:List Bool):Option Loc:=(tb.find? fun p=>p.1==s).map (·.2)
def H3c (P:Program) (N:Cfg) (ops:Array Oper) (ws:List Nat) (tb:List (List Bool×Loc)) (i:Nat) (o:Oper) (l:Fr) (u:AV) (s:List Bool):Prop:=
 ∃ L L1 L',Je1 tb s=some L∧Je1 tb (Je9 ws s i)=some L'∧Gb5 P N ops o l L u L1∧H73 L1 L'
theorem H3c.ro {P:Program} {N:Cfg} {ops:Array Oper} {ws:List Nat} {tb:List (List Bool×Loc)} {i:Nat} {o:Oper} {l:Fr} {u:AV} {s:List Bool} {L:Loc} (h1:Je1 tb s=some L) (h2:Je1 tb (Je9 ws s i)=some L) (h:Gb5 P N ops o l L u L):H3c P N ops ws tb i o l u s:=⟨L,L,L,h1,h2,h,fun _=>rfl⟩
theorem H3c.w {P:Program} {N:Cfg} {ops:Array Oper} {ws:List Nat} {tb:List (List Bool×Loc)} {i:Nat} {o:Oper} {l:Fr} {u:AV} {s:List Bool} {L L1 L':Loc} (ks:List Nat) (h1:Je1 tb s=some L) (h2:Je1 tb (Je9 ws s i)=some L') (h:Gb5 P N ops o l L u L1) (k1:J55 ks L1=true) (k2:J55 ks L'=true) (k3:Y8a L1 L' ks):H3c P N ops ws tb i o l u s:=⟨L,L1,L',h1,h2,h,H73.of ks k1 k2 k3⟩

section pre
variable {P:Program} {N:Cfg} {ops:Array Oper} {ws:List Nat} {sts:List (List (List Bool))} {tb:List (List Bool×Loc)} {i:Nat} {o:Oper} {r:List Oper} {l:Fr} {K:Fr→Prop} {u:AV}
end pre

open Go.RowKit Go.Sort

def SortNone (P:Program) (F:FuncId):Prop:=
 ∀ (g:Nat) (cb:Array Value) (w:World),Calls P F #[.slice none 0 0,.func (.func g) #[] cb] w fun e w'=>e=.returned (.tuple #[])∧∃ n os,w'=grow (w.drewN n) os

theorem D.inv_sc {w:World} {S:Nat→Nat→Prop} {v x:Value} (h:D w S (.sc v) x):x=v:=by cases h; rfl
set_option maxRecDepth 100000
open Go.RowKit Go.Shelf Go.Sort

section ops
variable {P:Program} {o:Oper} {l:Fr} {L L'':Loc}
end ops
set_option linter.unusedVariables false
open Go.RowKit Go.Sort Go.Shelf

def R91 (x:Int):List Int→List Int
 | []=>[x]
 | y::r=>bif decide (x≤y) then x::y::r else y::R91 x r
def G8b:List Int→List Int
 | []=>[]
 | x::r=>R91 x (G8b r)
theorem J9f (x:Int):∀ l,(R91 x l).Perm (x::l)
 | []=>List.Perm.refl _
 | y::r=>by
  rw [R91]
  cases decide (x≤y) with
  | true=>exact List.Perm.refl _
  | false=>exact(List.Perm.cons y (J9f x r)).trans (List.Perm.swap x y r)
theorem Gd5:∀ l,(G8b l).Perm l
 | []=>List.Perm.refl _
 | x::r=>(J9f x _).trans ((Gd5 r).cons x)
theorem Jd4 {x:Int}:∀ {l:List Int},l.Pairwise (·≤·)→(R91 x l).Pairwise (·≤·)
 | [],_=>by simp [R91]
 | y::r,h=>by
  rw [R91]
  rw [List.pairwise_cons] at h
  cases hb:decide (x≤y) with
  | true=>
   have hxy:=Kd hb
   rw [cond_true,List.pairwise_cons]
   refine⟨fun z hz=>?_,List.pairwise_cons.2 h⟩
   rcases Kw.1 hz with rfl | hz
   ·exact hxy
   ·have:=h.1 z hz; omega
  | false=>
   have hxy:=Ke hb
   rw [cond_false,List.pairwise_cons]
   refine⟨fun z hz=>?_,Jd4 h.2⟩
   rcases Kw.1 ((J9f x r).mem_iff.1 hz) with rfl | hz
   ·omega
   ·exact h.1 z hz
theorem Gad:∀ l,(G8b l).Pairwise (·≤·)
 | []=>List.Pairwise.nil
 | x::r=>Jd4 (Gad r)
theorem R16 (xs:List Int):(xs.mergeSort fun x y=>decide (x≤y))=G8b xs:=by
 have h1:=List.mergeSort_perm xs (fun x y=>decide (x≤y))
 have h2:(xs.mergeSort fun x y=>decide (x≤y)).Pairwise (fun a b:Int=>decide (a≤b)=true):=List.pairwise_mergeSort (le:=fun x y:Int=>decide (x≤y)) (fun a b c h g=>by simp at *; omega) (fun a b=>by simp; omega) xs
 refine List.Perm.eq_of_pairwise (le:=fun a b:Int=>decide (a≤b)=true) (fun a b _ _ hab hba=>by simp at *; omega) h2 ((Gad xs).imp fun h=>Kf h) (h1.trans (Gd5 xs).symm)
theorem Q95 (xs:List Int):(G8b xs).length=xs.length:=(Gd5 xs).length_eq
def G99 (xs:List Int):Option (List Int):=bif decide (xs.length < 4611686018427387904) then some (G8b xs) else none
theorem J4c {xs r:List Int} (h:G99 xs=some r):xs.length < 4611686018427387904∧r=G8b xs:=by
 unfold G99 at h
 cases hb:decide (xs.length < 4611686018427387904) with
 | true=>rw [hb] at h; exact⟨Kd hb,(Kj h).symm⟩
 | false=>rw [hb] at h; cases h

def Q4e (P:Program) (F:FuncId):Prop:=
 ∀ (blk off cap:Nat) (zs:List Int) (w:World),Holds (Value.int .i64) w blk off zs.toArray→blk < w.heap.size→zs.length < 4611686018427387904 →
  Calls P F #[.slice (some ⟨blk,off,none⟩) zs.length cap] w fun e w'=>e=.returned (.tuple #[])∧∃ n os,w'=grow (putRow (Value.int .i64) (Sort.ahead w n) blk off (zs.mergeSort fun x y=>decide (x≤y)).toArray) os
def Ja2 (P:Program) (F:FuncId):Prop:=
 ∀ (p:Option Addr) (cap:Nat) (w:World),Calls P F #[.slice p 0 cap] w fun e w'=>e=.returned (.tuple #[])∧w'=w

theorem Qab (xs:List Int):flat (xs.map I64)=xs.map I64:=by
 induction xs with
 | nil=>rfl
 | cons x r ih=>rw [List.map_cons,flat,ih]; rfl

theorem R17 {P:Program} {F:FuncId} (hs:Q4e P F) (h0:Ja2 P F) (i ver E:Nat) (xs:List Int) (hlen:xs.length < 4611686018427387904) :
  Ym P F [.vec i ver 1 xs.length] [(i,.vec E 1 ver (xs.map I64))] (fun r L'=>r=.tup []∧L'=[(i,.vec E 1 ver ((G8b xs).map I64))]):=by
 intro w β vs hsat hl hv
 have hi:lk [(i,Jt.vec E 1 ver (xs.map I64))] i=some (.vec E 1 ver (xs.map I64)):=by simp [lk]
 have hsz:vs.size=1:=hl
 obtain⟨v0,rfl⟩:∃ v0,vs=#[v0]:=by
  refine⟨vs[0],?_⟩
  apply Array.ext
  ·simp [hsz]
  ·intro j hj1 hj2
   have:j=0:=by omega
   subst this; rfl
 have hv0:=hv 0 _ v0 rfl rfl
 obtain⟨-,hxk,hst⟩:=Ge7 hsat hi hv0
 have hlz:=Q95 xs
 have hxk':∀ y∈(G8b xs).map I64,y.cells.length=1:=fun y hy=>by
  obtain⟨z,_,rfl⟩:=Ku.1 hy
  rfl
 have hnil:∀ L:Loc,L=[(i,Jt.vec E 1 ver ((G8b xs).map I64))]→H73 ((i,Jt.vec E 1 ver ((G8b xs).map I64))::[(i,Jt.vec E 1 ver (xs.map I64))]) L:=fun L hL id=>by
  subst hL
  rw [Gs,Gs,Gs]
  by_cases e:i=id
  ·rw [if_pos e,if_pos e]
  ·rw [if_neg e,if_neg e,if_neg e]
 rcases hst with ⟨rfl,hx0,hb0⟩ | ⟨b,cap,cur,rfl,hb,q1,q2,q3,q4,q5⟩
 ·refine(h0 none 0 w).mono fun e w' h=>?_
  obtain⟨rfl,rfl⟩:=h
  have hx:xs=[]:=by simpa using hx0
  subst hx
  have hsb:G8b ([]:List Int)=[]:=List.eq_nil_of_length_eq_zero (by simpa using hlz)
  obtain⟨st,sat⟩:=G07 (w':=w') (t:=E) (k:=1) (ver1:=ver) (xs':=(G8b ([]:List Int)).map I64) (ob':=none) hsat (.inr ⟨ver,_,hi,Kn,fun _=>⟨by simp [hsb],hb0.symm,fun _ _=>rfl⟩⟩)
   rfl rfl ⟨rfl,Kn⟩ (Kn) (fun b hb _=>rfl) (.inl rfl)
  have s2:=sat ⟨hxk',.inl ⟨rfl,by simp [hsb]⟩⟩
  exact⟨_,_,_,_,rfl,s2.locEq (hnil _ rfl),st.locEq (hnil _ rfl),.tup rfl (fun j u v hu=>by simp at hu),rfl,rfl⟩
 ·have hbs:b < w.heap.size:=(Array.getElem?_eq_some_iff.1 q3).1
  have hxl:(xs.map I64).length=xs.length:=by simp
  rw [hxl] at q1
  have hH:Holds (Value.int .i64) w b 0 xs.toArray:=by
   intro j hj
   have hj2:j < xs.length:=by simpa using hj
   have hjc:j < cur.size:=by rw [q4]; omega
   have hu:(flat (xs.map I64))[j]? = some (.sc (Value.int .i64 xs[j])):=by
    rw [Qab,List.getElem?_map,Ki hj2]; rfl
   have hd:=q5 j _ cur[j] hu (by simp [hjc])
   have he:cur[j]=Value.int .i64 xs[j]:=hd.inv_sc
   constructor
   ·simp [World.cell?,q3,hjc,he,hj2]
   ·simp [World.frozen?,q3]
  have hcall:=hs b 0 cap xs w hH hbs hlen
  rw [hxl]
  refine hcall.mono fun e w' h=>?_
  obtain⟨rfl,n,os,rfl⟩:=h
  rw [R16]
  obtain⟨d',hd'⟩:∃ d':Array Int,d'=(G8b xs).toArray:=⟨_,rfl⟩
  have hds:d'.size=xs.length:=by rw [hd']; simp [Q95]
  have hsd:G8b xs=d'.toList:=by rw [hd']
  rw [← hd']
  have hheap:(grow (putRow (Value.int .i64) (Sort.ahead w n) b 0 d') os).heap[b]? = some (.cells (putCells (Value.int .i64) 0 d' cur) E (0,0)):=by
   unfold grow putRow mapBlock
   simp only [Sort.ahead]
   rw [Array.getElem?_append_left (by simpa using hbs),Array.getElem?_modify,if_pos rfl,q3]
   rfl
  have hcs:(putCells (Value.int .i64) 0 d' cur).size=cur.size:=by simp [putCells]
  have hcv':∀ j,j < xs.length→(putCells (Value.int .i64) 0 d' cur)[j]? = some (Value.int .i64 d'[j]!):=by
   intro j hj
   have hjc:j < cur.size:=by rw [q4]; omega
   simp [putCells,hjc,hds,hj]
  have f1:(grow (putRow (Value.int .i64) (Sort.ahead w n) b 0 d') os).os=w.os:=rfl
  have f2:(grow (putRow (Value.int .i64) (Sort.ahead w n) b 0 d') os).tape=w.tape:=rfl
  have f3:(grow (putRow (Value.int .i64) (Sort.ahead w n) b 0 d') os).output=w.output∧w.drawn≤(grow (putRow (Value.int .i64) (Sort.ahead w n) b 0 d') os).drawn:=⟨rfl,Nat.le_add_right _ _⟩
  have f4:w.heap.size≤(grow (putRow (Value.int .i64) (Sort.ahead w n) b 0 d') os).heap.size:=by
   rw [size_grow]
   simp only [putRow,mapBlock,Array.size_modify,Sort.ahead]; omega
  have f5:∀ b',b' < w.heap.size→b≠b'→(grow (putRow (Value.int .i64) (Sort.ahead w n) b 0 d') os).heap[b']? = w.heap[b']? := by
   intro b' hb' hne'
   unfold grow putRow mapBlock
   simp only [Sort.ahead]
   rw [Array.getElem?_append_left (by simpa using hb'),Array.getElem?_modify,if_neg hne']
  clear hH
  generalize grow (putRow (Value.int .i64) (Sort.ahead w n) b 0 d') os=W at hheap f1 f2 f3 f4 f5
  obtain⟨st,sat⟩:=G07 (w':=W) (t:=E) (k:=1) (ver1:=ver) (xs':=(G8b xs).map I64) (ob':=β.at_ i) hsat
   (.inr ⟨ver,_,hi,Kn,fun _=>⟨by rw [Ks,Ks,hlz],rfl,fun b' hb'=>by
    rw [hb] at hb'; cases hb'
    rw [World.shape?,hheap,World.shape?,q3]; simp only [hcs]⟩⟩) f1 f2 f3 f4
   (fun b' hb' hne=>f5 b' hb' (fun e=>hne (by rw [inL,hi]; rfl) (by rw [hb,e])))
   (.inr (.inl ⟨by rw [inL,hi]; rfl,rfl⟩))
  have s2:=sat ⟨hxk',.inr ⟨b,hb,_,hheap,by rw [hcs,q4,Ks,hlz]; omega,fun j u v hu hv'=>by
   rw [Qab] at hu
   have hj:=(Kh hu).1
   rw [Ks,hlz] at hj
   rw [hcv' j hj] at hv'
   have hv2:=Kj hv'
   subst hv2
   rw [hsd,List.getElem?_map,Array.getElem?_toList,Array.getElem?_eq_getElem (by omega),Option.map_some] at hu
   have hu2:=Kj hu
   subst hu2
   rw [getElem!_pos _ j (by omega)]
   exact .sc⟩⟩
  exact⟨_,_,_,_,rfl,s2.locEq (hnil _ rfl),st.locEq (hnil _ rfl),.tup rfl (fun j u v hu=>by simp at hu),rfl,rfl⟩

section ops
variable {P:Program} {o:Oper} {l:Fr} {L L'':Loc}
theorem Rd1 {F:FuncId} {x:Operand} {ts:Array TypeId} {i ver E n:Nat} {xs r:List Int} (ho:o.op=.call { callee:=.value (.func F),args:=#[x],argTypes:=ts })
  (hs:Q4e P F) (h0:Ja2 P F) (hB:Hf P F=true)
  (hx:ev l x=.vec i ver 1 n) (hi:lk L i=some (.vec E 1 ver (xs.map I64))) (hn:n=xs.length) (h:G99 xs=some r)
  (hL:(i,.vec E 1 ver (r.map I64))::Hd3 L [(i,.vec E 1 ver (xs.map I64))]=L''):H5 P o l L (Is (.tup []) L''):=by
 obtain⟨hl,rfl⟩:=J4c h
 subst hn
 have hcall:=R17 (P:=P) (F:=F) hs h0 i ver E xs hl
 refine J27 (xs:=[x]) ho hcall hB ⟨.inl hx,?_,trivial⟩ ⟨hi,trivial⟩ ?_ ?_ hL
 ·simp [AV.refs,inL,lk]
 ·simp [closedIn,Jt.refs]
 ·simp [H5e,inL,lk]
end ops
end Go.Proofs.YthcpolfodgjekaaGreat
