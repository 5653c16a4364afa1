/-
 A slice of slices of the call's own,whose last slice still grows.
-/
import Derived.Test.YteoeccjboahfgaaGreatParts
namespace Go.Proofs.YteoeccjboahfgaaGreat
open Go.RowKit
set_option linter.unusedVariables false

section moves
variable {w w':World} {β:H2} {L:Loc} {i t k ver1 hw1:Nat}
/-- A slice with spare room is made, or turned. -/
theorem Hb0 {ob':Option Nat} (hsat:Sat w β L)
  (hold:lk L i=none∨∃ ver hw,lk L i=some (.spare t k ver hw)∧ver < ver1∧(ob'=β.at_ i→hw≤hw1)∧∀ b j,β.at_ i=some b→j < hw*k→w'.cell? ⟨b,j,none⟩=w.cell? ⟨b,j,none⟩)
  (hos:w'.os=w.os) (htp:w'.tape=w.tape) (hout:w'.output=w.output∧w.drawn≤w'.drawn) (hsz:w.heap.size≤w'.heap.size)
  (hoth:∀ b,b < w.heap.size→(Yz L i=true→β.at_ i≠some b)→w'.heap[b]? = w.heap[b]?)
  (hob:ob'=none∨(Yz L i=true∧ob'=β.at_ i)∨∃ b,ob'=some b∧w.heap.size≤b∧b < w'.heap.size) :
  Step w β L w' (Jz β i ob') ((i,.spare t k ver1 hw1)::L) ∧
  (G73 w' (Jz β i ob') ((i,.spare t k ver1 hw1)::L) ob' (.spare t k ver1 hw1)→Sat w' (Jz β i ob') ((i,.spare t k ver1 hw1)::L)):=by
 have hbi:∀ id b,(lk L id).isSome=true→β.at_ id=some b→i≠id→w'.heap[b]? = w.heap[b]? := by
  intro id b h1 h2 hne
  refine hoth b (hsat.bnd id b h1 h2) (fun h3 h4=>hne ?_)
  exact hsat.inj i id b h3 h1 h4 h2
 have hat:∀ id,i≠id→(Jz β i ob').at_ id=β.at_ id:=fun id e=>by simp [Jz,Ne.symm e]
 have hati:(Jz β i ob').at_ i=ob':=by simp [Jz]
 have fresh:∀ b,ob'=some b→(Yz L i=true∧β.at_ i=some b)∨(w.heap.size≤b∧b < w'.heap.size):=by
  intro b hb
  rcases hob with h | ⟨h1,h2⟩ | ⟨b',h1,h2,h3⟩
  ·rw [h] at hb; cases hb
  ·exact .inl ⟨h1,by rw [← h2,hb]⟩
  ·rw [h1] at hb; cases hb; exact .inr ⟨h2,h3⟩
 have st:Step w β L w' (Jz β i ob') ((i,.spare t k ver1 hw1)::L):=by
  refine⟨hos,htp,hout,hsz,fun _ _ _=>Iff.rfl,fun b j hs=>⟨⟨Nat.lt_of_lt_of_le hs.lt hsz,hs.seen,fun id o hid hb=>?_⟩,?_⟩,fun b hb hf=>⟨hoth b hb (fun h=>hf i h),fun id hid e=>?_⟩,fun id t' cs hid=>?_,fun id t' cs hid=>?_,fun id t' n cs hid=>?_,fun id t' k' vr zs hid=>?_,fun id t' k' vr hw hid=>?_⟩
  ·rw [Gj] at hid
   by_cases e:i=id
   ·subst e
    rw [if_pos rfl] at hid; cases hid
    rw [hati] at hb
    rcases fresh b hb with ⟨h1,h2⟩ | ⟨h1,_⟩
    ·rcases hold with h | ⟨ver,hw,h,_,hle,_⟩
     ·rw [Yz,h] at h1; cases h1
     ·have h3:j < hw*k:=hs.kept i _ h h2
      have h4:=hle (by rw [hb,h2])
      exact Nat.lt_of_lt_of_le h3 (Nat.mul_le_mul_right _ h4)
    ·have:=hs.lt; omega
   ·rw [if_neg e] at hid; rw [hat id e] at hb; exact hs.kept id o hid hb
  ·by_cases e:Yz L i=true∧β.at_ i=some b
   ·rcases hold with h | ⟨ver,hw,h,_,_,hc⟩
    ·rw [Yz,h] at e; cases e.1
    ·exact hc b j e.2 (hs.kept i _ h e.2)
   ·exact World.cell?_of_block (w:=w) (hoth b hs.lt (fun h1 h2=>e ⟨h1,h2⟩))
  ·rw [Gj] at hid
   by_cases e':i=id
   ·subst e'
    rw [hati] at e
    rcases fresh b e with ⟨h1,h2⟩ | ⟨h1,_⟩
    ·exact hf i h1 h2
    ·omega
   ·rw [if_neg e'] at hid; rw [hat id e'] at e; exact hf id hid e
  ·have e:i≠id:=fun e=>by subst e; rcases hold with h | ⟨_,_,h,_⟩ <;> rw [h] at hid <;> cases hid
   exact⟨hat id e,cs,by rw [Gj,if_neg e]; exact hid⟩
  ·have e:i≠id:=fun e=>by subst e; rcases hold with h | ⟨_,_,h,_⟩ <;> rw [h] at hid <;> cases hid
   exact⟨hat id e,cs,by rw [Gj,if_neg e]; exact hid⟩
  ·have e:i≠id:=fun e=>by subst e; rcases hold with h | ⟨_,_,h,_⟩ <;> rw [h] at hid <;> cases hid
   exact⟨hat id e,n,cs,by rw [Gj,if_neg e]; exact hid⟩
  ·have e:i≠id:=fun e=>by subst e; rcases hold with h | ⟨_,_,h,_⟩ <;> rw [h] at hid <;> cases hid
   exact⟨vr,zs,by rw [Gj,if_neg e]; exact hid,Nat.le_refl _,fun _=>⟨rfl,hat id e,fun b hb=>G06 (hbi id b (by rw [hid]; rfl) hb e)⟩⟩
  ·rw [Gj]
   by_cases e:i=id
   ·subst e
    rcases hold with h | ⟨ver,hw',h,h1,_⟩
    ·rw [h] at hid; cases hid
    ·rw [h] at hid; cases hid
     exact⟨ver1,hw1,if_pos rfl,by omega,fun e=>by omega⟩
   ·exact⟨vr,hw,by rw [if_neg e]; exact hid,Nat.le_refl _,fun _=>⟨rfl,hat id e,fun b hb=>hbi id b (by rw [hid]; rfl) hb e⟩⟩
 refine⟨st,fun hobj=>⟨fun b j h=>Nat.lt_of_lt_of_le (hsat.hid b j h) hsz,fun id b hid hb=>?_,fun id b j hid hb hh=>?_,fun id id' b h1 h2 h3 h4=>?_,fun id o hid=>?_⟩⟩
 ·rw [Gj] at hid
  by_cases e:i=id
  ·subst e
   rw [hati] at hb
   rcases fresh b hb with ⟨h1,h2⟩ | ⟨_,h2⟩
   ·exact Nat.lt_of_lt_of_le (hsat.bnd i b h1 h2) hsz
   ·exact h2
  ·rw [if_neg e] at hid; rw [hat id e] at hb; exact Nat.lt_of_lt_of_le (hsat.bnd id b hid hb) hsz
 ·rw [Gj] at hid
  by_cases e:i=id
  ·subst e
   rw [hati] at hb
   rcases fresh b hb with ⟨h1,h2⟩ | ⟨h1,_⟩
   ·exact hsat.apart i b j h1 h2 hh
   ·have:=hsat.hid b j hh; omega
  ·rw [if_neg e] at hid; rw [hat id e] at hb; exact hsat.apart id b j hid hb hh
 ·have key:∀ id,i≠id→(lk ((i,J9.spare t k ver1 hw1)::L) id).isSome=true→(Jz β i ob').at_ id=some b→ob'=some b→False:=by
   intro id e h1 h3 hb
   rw [Gj,if_neg e] at h1
   rw [hat id e] at h3
   rcases fresh b hb with ⟨h5,h6⟩ | ⟨h5,_⟩
   ·exact e (hsat.inj i id b h5 h1 h6 h3)
   ·have:=hsat.bnd id _ h1 h3; omega
  by_cases e:i=id
  ·by_cases e':i=id'
   ·rw [← e,e']
   ·subst e; rw [hati] at h3; exact(key id' e' h2 h4 h3).elim
  ·by_cases e':i=id'
   ·subst e'; rw [hati] at h4; exact(key id e h1 h3 h4).elim
   ·rw [Gj,if_neg e] at h1
    rw [Gj,if_neg e'] at h2
    rw [hat id e] at h3
    rw [hat id' e'] at h4
    exact hsat.inj id id' b h1 h2 h3 h4
 ·rw [Gj] at hid
  by_cases e:i=id
  ·subst e
   rw [if_pos rfl] at hid; cases hid
   rw [hati]; exact hobj
  ·rw [if_neg e] at hid
   rw [hat id e]
   exact(hsat.obj id o hid).step st (fun b hb=>hbi id b (by rw [hid]; rfl) hb e)
end moves

section ops
variable {P:Program} {N:G2c} {Q:Post} {o:Oper} {ops:Array Oper} {rest:List Oper} {l:Fr} {L:Loc}

theorem V.inv_nst {w:World} {β:H2} {i ver n t hw:Nat} {pre:List AV} {last:AV} {v:Value} (hi:lk L i=some (.spare t 1 ver hw)) (h:V w β L (.nst i ver n pre last) v) :
  hw=0∧n=pre.length+(if n=0 then 0 else 1)∧∃ vs:Array Value,NstVal w (β.at_ i) t n v vs∧(∀ (j:Nat) u x,pre[j]? = some u→vs[j]? = some x→D w (Jj w β L) u x)∧(∀ x,0 < n→vs[n - 1]? = some x→V w β L last x):=by
 cases h with
 | data h=>cases h
 | nst vs h1 hle hr hpre hlast hv=>
  rw [hi] at h1; cases h1
  obtain⟨a1,a2,a3⟩:=hr rfl
  exact⟨a1,a2,vs,a3,hpre rfl,fun x h0 hx=>hlast x rfl h0 hx⟩

/-- A nil slice of slices. -/
theorem A_nnil (i E:Nat) {x:Operand} {last:AV} (ho:o.op=.assign x) (hx:ev l x=.sc (.slice none 0 0)) (hi:lk L i=none):H3 P o l L (Is (.nst i 0 0 [] last) ((i,.spare E 1 0 0)::L)):=by
 intro a w β K Q hsat hf hK
 have hv:=hf.ev x
 rw [hx] at hv
 have hr:(execOp a.eval o).run P w=.ok (.value (.slice none 0 0)) w:=by simp [execOp,ho,hv.inv_sc]
 unfold Oper.wp
 rw [hr]
 exact hK _ _ _ w _ ⟨rfl,rfl⟩ (Hf6 E 1 hsat hi) (Gda E 1 hi) (.nst #[] (by rw [Gj,if_pos rfl]) (Nat.le_refl _) (fun _=>⟨rfl,rfl,.inl ⟨rfl,rfl,by simp [Jz]⟩⟩) (fun _ j u x hu=>by simp at hu) (fun x _ h0=>by omega) rfl)
theorem A_nlen {x:Operand} {T E k' i ver n hw:Nat} {pre:List AV} {last:AV} (hT:sliceB P T E k'=true) (ho:o.op=.call { callee:=.builtin .len,args:=#[x],argTypes:=#[T] }) (hx:ev l x=.nst i ver n pre last) (hi:lk L i=some (.spare E 1 ver hw)):H3 P o l L (Is (.sc (.int .i64 n)) L):=
 Hu fun a w β hsat hf=>by
  have hv:=hf.ev x
  rw [hx] at hv
  obtain⟨_,_,vs,h,_⟩:=hv.inv_nst hi
  refine⟨.int .i64 n,?_,.sc⟩
  rcases h with ⟨h1,h2,_⟩ | ⟨b,cap,h1,_⟩
  ·subst h2
   simp [execOp,ho,resolve,invoke,builtin,Builtin.len_,underlying,(sliceB.out hT).1,h1,goInt]
  ·simp [execOp,ho,resolve,invoke,builtin,Builtin.len_,underlying,(sliceB.out hT).1,h1,goInt]
theorem A_nidx {x ix:Operand} {T E i ver n m hw:Nat} {kd:IntKind} {z:Int} {pre:List AV} {last:AV} (ho:o.op=.indexAddr T x ix) (hx:ev l x=.nst i ver n pre last) (hix:ev l ix=.sc (.int kd z)) (hi:lk L i=some (.spare E 1 ver hw)) (hT:sliceB P T E 1=true) (hm:n=m+1) (hz:z=(m:Int)) :
  H3 P o l L (Is (.nptr i ver m last) L):=
 Hu fun a w β hsat hf=>by
  subst hz
  have hv:=hf.ev x
  rw [hx] at hv
  have h2:=hf.ev ix
  rw [hix] at h2
  obtain⟨_,_,vs,h,_,hl⟩:=hv.inv_nst hi
  rcases h with ⟨h1,h3,_⟩ | ⟨b,cap,h1,h3,h4,h5,h6,h7⟩
  ·omega
  ·have hr:=Qb (sliceB.out hT).2 w
   have hlt:m < n:=by omega
   refine⟨.pointer (some ⟨b,m,none⟩),?_,.nptr b vs hi (Nat.le_refl _) (fun _=>⟨h3,rfl,h6,by omega⟩) (fun y _ hy=>hl y (by omega) (by rw [hm]; exact hy)) rfl⟩
   simp [execOp,ho,Instr.indexAt,h2.inv_sc,asIntOf,underlying,(sliceB.out hT).1,h1,hlt,hr,Addr.add_lit]
theorem V.inv_nptr {w:World} {β:H2} {i ver m t k hw:Nat} {u:AV} {v:Value} (hi:lk L i=some (.spare t k ver hw)) (h:V w β L (.nptr i ver m u) v) :
  ∃ b vs,β.at_ i=some b∧v=.pointer (some ⟨b,m,none⟩)∧w.heap[b]? = some (.cells vs t (0,0))∧m < vs.size∧∀ x,vs[m]? = some x→V w β L u x:=by
 cases h with
 | data h=>cases h
 | nptr _ vs h1 _ h3 h4 _=>
  rw [hi] at h1; cases h1
  obtain⟨a1,a2,a3,a4⟩:=h3 rfl
  exact⟨_,vs,a1,a2,a3,a4,fun x hx=>h4 x rfl hx⟩
/-- The last slice is read. -/
theorem A_nload {x:Operand} {T E i ver m hw:Nat} {last:AV} (hT:Rc P T=true) (ho:o.op=.load T x) (hx:ev l x=.nptr i ver m last) (hi:lk L i=some (.spare E 1 ver hw)):H3 P o l L (Is last L):=
 Hu fun a w β hsat hf=>by
  have hv:=hf.ev x
  rw [hx] at hv
  obtain⟨b,vs,hb,he,h6,hlt,hl⟩:=hv.inv_nptr hi
  refine⟨vs[m],?_,hl _ (by simp [hlt])⟩
  have:=G51 (P:=P) (T:=T) (b:=b) (o':=m) (v:=vs[m]) hT (w:=w) (by simp [World.cell?,h6,hlt])
  simp [execOp,ho,he,this]

theorem Jt.also {a:Act} {w:World} {β:H2} {s:Nat} {u:AV} (h:Jt a w β L l) (hv:V w β L u (a.tmps.getD s undef)):Jt a w β L ((s,u)::l):=⟨fun t=>by
 by_cases e:s=t
 ·subst e; simpa [look] using hv
 ·have:Nat.beq s t=false:=by
   cases hb:Nat.beq s t with
   | false=>rfl
   | true=>exact absurd (Nat.eq_of_beq_eq_true hb) e
  simpa [look,this,e] using h.tmp t⟩

/-- The last slice is set anew; the slot s, which holds the whole, is described anew. -/
theorem JL_nstore {x y:Operand} {T E i ver n m s:Nat} {pre:List AV} {last u:AV} (hT:R7 P T 1=true) (ho:o.op=.store T x y) {u0:AV} (hx:ev l x=.nptr i ver m u0) (hs:look l s=.nst i ver n pre last) (hi:lk L i=some (.spare E 1 ver 0)) (hm:n=m+1) (hu:ev l y=u) (hc:u.isCell=true) (hcs:u.cells=[u])
  (hk:JL P N ops rest Q ((s,.nst i (ver+1) n pre u)::l) ((i,.spare E 1 (ver+1) 0)::L)) (hg:o.guard=none:=by rfl) (hd:o.dst=none:=by rfl) (hnd:G49 o=true:=by rfl):JL P N ops (o::rest) Q l L:=by
 intro n0 w0 β0 L0 a w β hst
 refine Ga7 hg hnd fun K hK=>?_
 subst hu
 have hv:=hst.frame.ev x
 rw [hx] at hv
 obtain⟨b,_,hb,he,_⟩:=hv.inv_nptr hi
 have hn:=hst.frame.tmp s
 rw [hs] at hn
 obtain⟨_,hnp,vs,h,hp,hl⟩:=hn.inv_nst hi
 rcases h with ⟨_,h3,_⟩ | ⟨b',cap,h1,h3,h4,h5,h6,h7⟩
 ·omega
 rw [hb] at h3; cases h3
 have hlt:m < vs.size:=by omega
 have hy:=hst.frame.ev y
 have h1c:=hy.cell hc
 have hyc:(a.eval y).cells=#[a.eval y]:=by
  generalize a.eval y=v at h1c
  cases v <;> first | rfl | simp [Value.oneCell'] at h1c
 have hr:=Gfc (P:=P) (off:=m) (v:=a.eval y) hT (by rw [hyc]; rfl) (fun z hz=>by rw [hyc] at hz; simp at hz; subst hz; exact h1c) h6 (by omega)
 rw [hyc] at hr
 have hr':(execOp a.eval o).run P w=.ok .skip (w.setRow b (vs.toList.take m++[a.eval y]++vs.toList.drop (m+1)).toArray):=by
  simp [execOp,ho,he,hr]
 unfold Oper.wp
 rw [hr']
 generalize hnew:(vs.toList.take m++[a.eval y]++vs.toList.drop (m+1)).toArray=new
 have hns:new.size=vs.size:=by
  rw [← hnew]; simp; omega
 have hnm:∀ z,new[m]? = some z→z=a.eval y:=fun z hz=>by
  rw [← hnew] at hz
  have hl2:(vs.toList.take m).length=m:=by simp; omega
  simp only [List.getElem?_toArray] at hz
  rw [List.append_assoc,List.getElem?_append_right (by omega),hl2] at hz
  simpa using hz.symm
 have hnlt:∀ j,j < m→new[j]? = vs[j]? := fun j hj=>by
  rw [← hnew]
  simp only [List.getElem?_toArray]
  rw [List.append_assoc,List.getElem?_append_left (by simp; omega),List.getElem?_take,if_pos hj]
  simp
 have hb2:=setRow_heap w b vs new E (0,0) h6
 have hin:Yz L i=true:=by rw [Yz,hi]; rfl
 obtain⟨st,sat⟩:=Hb0 (w':=w.setRow b new) (t:=E) (k:=1) (ver1:=ver+1) (hw1:=0) (ob':=β.at_ i) hst.sat
  (.inr ⟨ver,0,hi,by omega,fun _=>Nat.le_refl _,fun b j _ hj=>by omega⟩) rfl rfl ⟨rfl,Nat.le_refl _⟩ (by simp)
  (fun b' _ hne=>setRow_other w b b' _ (fun e=>hne hin (by rw [hb,e]))) (.inr (.inl ⟨hin,rfl⟩))
 have hsat2:=sat (.inr ⟨b,hb,new,hb2,by omega⟩)
 have hput:a.put o.dst undef=a:=by rw [hd]; rfl
 suffices hsuf:V (w.setRow b new) (Jz β i (β.at_ i)) ((i,.spare E 1 (ver+1) 0)::L) (.nst i (ver+1) n pre (ev l y)) (a.tmps.getD s undef) from by
  have hgoal:K a (w.setRow b new):=hK _ _ (hk n0 w0 β0 L0 a _ _ ⟨hsat2,hst.step.trans st,(hst.frame.step st).also hsuf,hst.size,hst.base,hst.defers.step st⟩)
  simp only [Oper.upon,hput]; exact hgoal
 rw [h1]
 refine .nst new (by rw [Gj,if_pos rfl]) (Nat.le_refl _) (fun _=>⟨rfl,hnp,.inr ⟨b,cap,rfl,by simp [Jz,hb],h4,h5,hb2,by omega⟩⟩) (fun _ j u x hu hx=>?_) (fun x _ h0 hx=>?_) rfl
 ·have hj:=(List.getElem?_eq_some_iff.1 hu).1
  have hjm:j < m:=by
   rw [if_neg (by omega)] at hnp; omega
  rw [hnlt j hjm] at hx
  exact(hp j u x hu hx).mono st.stab
 ·rw [show n - 1=m by omega] at hx
  rw [hnm x hx]
  exact hy.step st

/-- A slice's literal, made anew under the name of one that grows. -/
theorem A_litOwn (i:Nat) {T E k n ver ver1 hw:Nat} {parts:List (Nat×Operand)} {xs:List AV} (ho:o.op=.buildSlice T n parts.toArray) (hd:G5d l (parts.map (·.2)) xs) (hT:sliceB P T E k=true) (hz:R1 P E k=true)
  (hix:parts.map (·.1)=List.range n) (hc:H45 k xs=true) (hn:Nat.ble (n*k) 16777216=true) (hk0:Nat.blt 0 k=true) (hi:lk L i=some (.spare E k ver hw)) (hver:ver < ver1):H3 P o l L (Is (.own i ver1 k xs) ((i,.spare E k ver1 xs.length)::L)):=by
 intro a w β K Q hsat hf hK
 have hlen:=hd.length
 have hnl:n=xs.length:=by
  have:=congrArg List.length hix
  simp only [List.length_map,List.length_range] at this hlen
  omega
 subst hnl
 have hc':=H05 hc
 have hkc:∀ x∈xs,x.cells.length=k:=fun x hx=>(hc' x hx).1
 have hdata:∀ x∈xs,x.isData=true:=by
  intro x hx
  obtain⟨j,hj,e⟩:=List.mem_iff_getElem.1 hx
  have hj2:j < (parts.map (·.2)).length:=by omega
  exact e ▸ (hd.get (j:=j) (x:=(parts.map (·.2))[j]) (u:=xs[j]) (List.getElem?_eq_getElem hj2) (List.getElem?_eq_getElem hj)).2
 have hfill:=H67 (k:=k) xs 0 (List.replicate (xs.length*k) .junk) (by simp) hc'
 obtain⟨inf,z,hi0,hz1,hz2⟩:=R1.out hz
 let zs:Array Value:=if xs.length*k=0 then #[] else z.cells
 obtain⟨vs',e1,e2,e3⟩:=H02 (w:=w) (β:=β) (L:=L) (qs:=parts.map fun p=>(p.1,a.eval p.2)) (vs:=(Array.range (xs.length*k)).map (zs[· % zs.size]!)) hfill (by
   have:=congrArg List.length hix
   simp only [List.length_map,List.length_range] at this
   simp [this]) (fun j p q hp hq=>by
   simp only [List.getElem?_map,Option.map_eq_some_iff] at hq
   obtain⟨y,hy,rfl⟩:=hq
   rw [List.getElem?_zip_eq_some] at hp
   obtain⟨hp1,hp2⟩:=hp
   have hix':(parts.map (·.1))[j]? = (List.range xs.length)[j]? := by rw [hix]
   simp only [List.getElem?_map,hy,Option.map_some] at hix'
   rw [List.range_eq_range',hp1] at hix'
   have:=(hd.get (j:=j) (x:=y.2) (u:=p.2) (by rw [List.getElem?_map,hy]; rfl) hp2)
   refine⟨(Option.some.inj hix').symm,?_⟩
   rcases this.1 with h1 | ⟨k0,h1,h2⟩
   ·have hv:=(hf.ev y.2).plain
    rw [h1] at hv
    exact hv
   ·have hv:=hf.ev y.2
    rw [h2] at hv
    rw [h1,hv.inv_sc]
    exact .data (.nil (Nat.zero_le _))) (by simp) (fun j u v hu _=>by
   have:=List.eq_of_mem_replicate (List.mem_of_getElem? hu)
   subst this; exact .junk)
 have hflat:(List.take (0*k) (List.replicate (xs.length*k) AV.junk))++flat xs=flat xs:=by simp
 rw [hflat] at e2 e3
 have hr:(execOp a.eval o).run P w=.ok (.value (.slice (some ⟨w.heap.size,0,none⟩) xs.length xs.length)) (w.alloc (.cells vs' E)):=by
  have hsz:=Qb (sliceB.out hT).2 w
  have hle0:xs.length*k≤16777216:=by simpa using hn
  have hle:¬ (xs.length*k > 2 ^ 24):=by
   have:(2:Nat) ^ 24=16777216:=by decide
   omega
  have hp:(parts.toArray.map fun(x:Nat×Operand)=>(x.1,a.eval x.2)).toList=parts.map fun p=>(p.1,a.eval p.2):=by simp
  by_cases h0:xs.length*k=0
  ·have hzs:zs=#[]:=by simp only [zs,if_pos h0]
   rw [hzs] at e1
   simp only [execOp,ho,Instr.buildSlice,underlying,(sliceB.out hT).1,run_program,Sem.run_bind,Result.andThen_ok,hsz,hle,if_false,Sem.run_pure,if_pos h0,hp,e1,newRow,run_newObj]
   rfl
  ·have hzs:zs=z.cells:=by simp only [zs,if_neg h0]
   rw [hzs] at e1
   simp only [execOp,ho,Instr.buildSlice,underlying,(sliceB.out hT).1,run_program,Sem.run_bind,Result.andThen_ok,hsz,hle,if_false,Sem.run_pure,if_neg h0,zeroValue,typeInfo,hi0,hz1,hp,e1,newRow,run_newObj]
   rfl
 unfold Oper.wp
 rw [hr]
 have hmax:xs.length≤maxLen:=by
  have h1:xs.length*k≤16777216:=by simpa using hn
  have h2:0 < k:=by simpa [Nat.blt_eq] using hk0
  have:xs.length*1≤xs.length*k:=Nat.mul_le_mul_left _ h2
  simp only [maxLen]; omega
 have hfl:(flat xs).length=xs.length*k:=Je hkc
 have hD0:∀ (j:Nat) u v,(flat xs)[j]? = some u→vs'[j]? = some v→D w (Jj w β L) u v:=fun j u v hu hv=>(e3 j u v hu hv).toD (H82 hdata u (List.mem_of_getElem? hu))
 have hin:Yz L i=true:=by rw [Yz,hi]; rfl
 have hneb:β.at_ i≠some w.heap.size:=fun e=>by
  have:=hsat.bnd i _ (by rw [hi]; rfl) e
  omega
 have hsz1:w.heap.size < (w.alloc (.cells vs' E)).heap.size:=by simp
 obtain⟨st,sat⟩:=Hb0 (w':=w.alloc (.cells vs' E)) (t:=E) (k:=k) (ver1:=ver1) (hw1:=xs.length) (ob':=some w.heap.size) hsat
  (.inr ⟨ver,hw,hi,hver,fun e=>absurd e.symm hneb,fun b j hb _=>World.cell?_of_block (w:=w) (Ju w _ (hsat.bnd i b (by rw [hi]; rfl) hb))⟩) rfl rfl ⟨rfl,Nat.le_refl _⟩ (Nat.le_of_lt hsz1)
  (fun b' hb' _=>Ju w _ hb') (.inr (.inr ⟨_,rfl,Nat.le_refl _,hsz1⟩))
 have hnb:=heap_alloc_new w (.cells vs' E)
 have hsat2:=sat (.inr ⟨_,rfl,vs',hnb,by omega⟩)
 have hcell:∀ j,j < (flat xs).length→(w.alloc (.cells vs' E)).cell? ⟨w.heap.size,0+j,none⟩=some (vs'.getD j undef):=fun j hj=>by
  rw [Nat.zero_add,World.cell?_alloc_new,Array.getD_eq_getD_getElem?,Array.getElem?_eq_getElem (by omega)]
  rfl
 refine hK _ _ _ _ _ ⟨rfl,rfl⟩ hsat2 st (.own ?_ ⟨E,ver1,xs.length,by rw [Gj,if_pos rfl],Nat.le_refl _,fun _=>⟨rfl,by simp [Value.ownBlock,Jz],vs'.toList,⟨by simp; omega,.inr ⟨_,xs.length,vs',rfl,Nat.zero_le _,hnb,Nat.le_refl _,hmax,by omega,by rw [List.take_of_length_le (by simp; omega)]⟩⟩,fun j u hu=>?_⟩⟩)
 ·refine .list (fun j=>vs'.getD j undef) (Nat.le_refl _) hmax hkc (fun j hj=>⟨⟨by simp,fun h=>by have:=hsat.hid _ _ h; omega,fun id ob h1 h2=>?_⟩,hcell j hj⟩) (fun j u hu=>?_)
  ·rw [Gj] at h1
   by_cases e:i=id
   ·subst e; rw [if_pos rfl] at h1; cases h1
    show 0+j < xs.length*k
    omega
   ·rw [if_neg e] at h1
    simp only [Jz,if_neg (Ne.symm e)] at h2
    have:=hsat.bnd id _ (by rw [h1]; rfl) h2
    omega
  ·have hj:=(List.getElem?_eq_some_iff.1 hu).1
   refine(hD0 j u _ hu ?_).mono st.stab
   rw [Array.getD_eq_getD_getElem?,Array.getElem?_eq_getElem (by omega)]; rfl
 ·have hj:=(List.getElem?_eq_some_iff.1 hu).1
  have hjv:j < vs'.size:=by omega
  exact⟨vs'[j],by simp [hjv],(hD0 j u _ hu (by simp [hjv])).mono st.stab⟩

/-- A literal of one cell, whatever that is. -/
theorem A_litBox (i:Nat) {T E:Nat} {x:Operand} {u:AV} (ho:o.op=.buildSlice T 1 #[(0,x)]) (hu:ev l x=u) (hc:u.isCell=true) (hcs:u.cells=[u]) (hT:sliceB P T E 1=true) (hz:R1 P E 1=true) (hi:lk L i=none):H3 P o l L (Is (.ms i 0 1 1) ((i,.box E [u])::L)):=by
 subst hu
 intro a w β K Q hsat hf hK
 obtain⟨inf,z,hi0,hz1,hz2⟩:=R1.out hz
 have hx:=hf.ev x
 have h1c:=hx.cell hc
 have hyc:(a.eval x).cells=#[a.eval x]:=by
  generalize a.eval x=v at h1c
  cases v <;> first | rfl | simp [Value.oneCell'] at h1c
 have hfill:=H67 (k:=1) [ev l x] 0 [.junk] (by simp) (fun y hy=>by
  simp at hy; subst hy
  exact⟨by rw [hcs]; rfl,by simp [AV.flatOk,hcs,hc]⟩)
 obtain⟨vs',e1,e2,e3⟩:=H02 (w:=w) (β:=β) (L:=L) (qs:=[(0,a.eval x)]) (vs:=(Array.range 1).map (z.cells[· % z.cells.size]!)) hfill rfl (fun j p q hp hq=>by
   cases j with
   | zero=>simp at hp hq; subst hp; subst hq; exact⟨rfl,hx⟩
   | succ j=>simp at hq) (by simp) (fun j u v hu _=>by
   cases j with
   | zero=>simp at hu; subst hu; exact .junk
   | succ j=>simp at hu)
 have hflat:(List.take (0*1) [AV.junk])++flat [ev l x]=[ev l x]:=by simp [flat,hcs]
 rw [hflat] at e2 e3
 have hr:(execOp a.eval o).run P w=.ok (.value (.slice (some ⟨w.heap.size,0,none⟩) 1 1)) (w.alloc (.cells vs' E)):=by
  have hsz:=Qb (sliceB.out hT).2 w
  have h24:¬ (1*1 > 2 ^ 24):=by decide
  simp only [execOp,ho,Instr.buildSlice,underlying,(sliceB.out hT).1,run_program,Sem.run_bind,Result.andThen_ok,hsz,h24,if_false,Sem.run_pure,zeroValue,typeInfo,hi0,hz1,newRow,run_newObj]
  simp only [show ¬ (1*1=0) by decide,if_false,List.map_toArray,List.map_cons,List.map_nil,Array.toList,zeroValue,typeInfo,hi0,hz1,Sem.run_bind,run_program,Result.andThen_ok,Sem.run_pure]
  simp only [Nat.mul_one] at e1 ⊢
  rw [e1]
  rfl
 unfold Oper.wp
 rw [hr]
 refine hK _ _ _ _ (Jz β i (some w.heap.size)) ⟨rfl,rfl⟩ (hsat.alloc hi _ (fun hs=>⟨_,rfl,vs',heap_alloc_new w _,by simpa using e2,fun j u v hu hv=>(e3 j u v hu hv).step hs⟩)) (Step.alloc hi hsat.bnd _) (.ms (t:=E) (by simp [Gj]; rfl) (by simp [Jz]) (Nat.le_refl _) (by decide))

/-- One slice more. -/
theorem A_nappend {s x:Operand} {T E by_ i i' t ver ver1 n:Nat} {pre pre':List AV} {last u:AV} (ho:o.op=.call { callee:=.builtin .append,args:=#[s,x],argTypes:=#[T,T] }) (hs:ev l s=.nst i ver n pre last) (hi:lk L i=some (.spare E 1 ver 0)) (hx:ev l x=.ms i' 0 1 1) (hi':lk L i'=some (.box t [u]))
  (hT:sliceB P T E 1=true) (hE:Ym P E 1 by_=true) (hb:(n+1)*by_≤140737488355328) (hlen:n+1≤maxLen) (hc:u.isCell=true) (hver:ver < ver1) (hpre:pre'=if n=0 then [] else pre++[last.plain]) (hld:last.plain.isData=true) :
  H3 P o l L (Is (.nst i ver1 (n+1) pre' u) ((i,.spare E 1 ver1 0)::L)):=by
 intro a w β K Q hsat hf hK
 have hv:=hf.ev s
 rw [hs] at hv
 obtain⟨_,hnp,vs,hst,hp,hl⟩:=hv.inv_nst hi
 have hxv:=hf.ev x
 rw [hx] at hxv
 obtain⟨bx,hbx,hxe⟩:∃ b,β.at_ i'=some b∧a.eval x=.slice (some ⟨b,0,none⟩) 1 1:=by
  generalize a.eval x=xv at hxv
  cases hxv with
  | data h=>cases h
  | ms h1 h2 _ _=>exact⟨_,h2,rfl⟩
 obtain⟨old,ho1,ho2,ho3⟩:=H6a hsat hi' hbx
 have hol:0 < old.size:=by rw [ho2]; simp
 have hu0:V w β L u old[0]:=ho3 0 u _ rfl (by simp [hol])
 have h1c:old[0].oneCell'=true:=hu0.cell hc
 obtain⟨inf,z,e1,e2,e3,e4,e5,e6⟩:=Ym.out hE
 have hin:Yz L i=true:=by rw [Yz,hi]; rfl
 obtain⟨vals,hown,hob,hvals⟩:∃ vals:List Value,w.ownsRow 0 E 1 (a.eval s) n vals∧(a.eval s).ownBlock=β.at_ i∧∀ j,j < n→vals[j]? = vs[j]? := by
  rcases hst with ⟨h1,h2,h3⟩ | ⟨b,cap,h1,h3,h4,h5,h6,h7⟩
  ·exact⟨[],⟨by simp [h2],.inl ⟨h1,h2⟩⟩,by rw [h1,h3]; rfl,fun j hj=>by omega⟩
  ·refine⟨vs.toList.take n,⟨by simp; omega,.inr ⟨b,cap,vs,h1,Nat.zero_le _,h6,h4,h5,by omega,by rw [Nat.mul_one]⟩⟩,by rw [h1,h3]; rfl,fun j hj=>?_⟩
   rw [List.getElem?_take,if_pos hj]; simp
 obtain⟨v',w',hr,hown',hos,htp,hout,hsz,hother,hwhere⟩:=Gdd (P:=P) w T o.type E inf z 1 (sliceB.out hT).1 e1 e4 e2 e5 e6 (a.eval s) n vals hown (some ⟨bx,0,none⟩) 1 1 [old[0]] rfl (fun ad j u h h'=>by
   cases h
   cases j with
   | zero=>simp at h'; subst h'; simp [Addr.add_lit,World.cell?,ho1,hol]
   | succ j=>simp at h') (fun e=>by cases e) (fun u hu=>by simp at hu; subst hu; exact h1c) hlen (by rw [e3]; exact hb)
 have hrun:(execOp a.eval o).run P w=.ok (.value v') w':=by
  simp [execOp,ho,resolve,invoke,builtin,hxe,hr]
 unfold Oper.wp
 rw [hrun]
 have hvl:vals.length=n:=by rw [hown.1,Nat.mul_one]
 obtain⟨st,sat⟩:=Hb0 (w':=w') (t:=E) (k:=1) (ver1:=ver1) (hw1:=0) (ob':=v'.ownBlock) hsat
  (.inr ⟨ver,0,hi,hver,fun _=>Nat.le_refl _,fun b j _ hj=>by omega⟩) hos htp hout hsz
  (fun b hb hne=>hother b hb (fun e=>hne hin (hob ▸ e)))
  (by
   rcases hwhere with h | ⟨h,h',_⟩
   ·exact .inr (.inl ⟨hin,h.trans hob⟩)
   ·exact .inr (.inr ⟨_,h,Nat.le_refl _,h'⟩))
 rcases hown'.2 with ⟨_,h2⟩ | ⟨g,cap',cur,h1,_,h3,h4,h5,h6,h7⟩
 ·omega
 subst h1
 have hcur:∀ j,j < n+1→cur[j]? = (vals++[old[0]])[j]? := fun j hj=>by
  rw [← h7,List.getElem?_take,if_pos (by omega)]; simp
 refine hK _ _ _ w' _ ⟨rfl,rfl⟩ (sat (.inr ⟨g,rfl,cur,h3,by omega⟩)) st (.nst cur (by rw [Gj,if_pos rfl]) (Nat.le_refl _) (fun _=>⟨rfl,?_,.inr ⟨g,cap',rfl,by simp [Jz,Value.ownBlock],h4,h5,h3,by omega⟩⟩) (fun _ j y x hy hx=>?_) (fun x _ _ hx=>?_) rfl)
 ·rw [if_neg (by omega),hpre]
  by_cases h0:n=0
  ·subst h0; rfl
  ·rw [if_neg h0] at hnp ⊢; simp; omega
 ·by_cases h0:n=0
  ·rw [hpre,if_pos h0] at hy; simp at hy
  ·rw [hpre,if_neg h0] at hy
   rw [if_neg h0] at hnp
   have hj:=(List.getElem?_eq_some_iff.1 hy).1
   rw [List.length_append,List.length_singleton] at hj
   rw [hcur j (by omega),List.getElem?_append_left (by omega),hvals j (by omega)] at hx
   rcases Nat.lt_or_ge j pre.length with hlt | hge
   ·rw [List.getElem?_append_left hlt] at hy
    exact(hp j y x hy hx).mono st.stab
   ·rw [List.getElem?_append_right hge,show j - pre.length=0 by omega] at hy
    simp at hy; subst hy
    have:=(hl x (by omega) (by rw [show n - 1=j by omega]; exact hx)).plain.toD hld
    exact this.mono st.stab
 ·rw [show n+1 - 1=n by omega,hcur n (by omega),List.getElem?_append_right (by omega),hvl] at hx
  simp at hx; subst hx
  exact hu0.step st
end ops

section freeze
variable {P:Program} {N:G2c} {Q:Post} {l l':Fr} {L L':Loc}

theorem Hfe:∀ {ys:List AV},(∀ y∈ys,y.cells=[y])→flat ys=ys
 | [],_=>rfl
 | y::r,h=>by rw [flat,h y (by simp),Hfe (ys:=r) (fun z hz=>h z (by simp [hz]))]; rfl
def Hd3 (n:Nat) (pre:List AV) (last:AV):List AV:=if n=0 then [] else pre++[last.plain]

theorem V.nfreeze {w:World} {β:H2} {i ver n t hw:Nat} {pre:List AV} {last:AV} {v:Value} (hsat:Sat w β L) (hi:lk L i=some (.spare t 1 ver hw)) (hdr:Hc2 L L') (hi':lk L' i=none) (h:V w β L (.nst i ver n pre last) v)
  (hc:∀ y∈Hd3 n pre last,y.cells=[y]) (hd:last.plain.isData=true):V w β L' (.list 1 (Hd3 n pre last)) v:=by
 obtain⟨_,hnp,vs,hst,hp,hl⟩:=h.inv_nst hi
 rcases hst with ⟨rfl,rfl,_⟩ | ⟨b,cap,rfl,hb,h4,h5,h6,h7⟩
 ·exact .data (.nil (Nat.zero_le _))
 by_cases h0:n=0
 ·subst h0
  rw [Hd3,if_pos rfl]
  exact .data (.nil h5)
 have hys:Hd3 n pre last=pre++[last.plain]:=by rw [Hd3,if_neg h0]
 have hlen:(Hd3 n pre last).length=n:=by rw [hys]; rw [if_neg h0] at hnp; simp; omega
 rw [if_neg h0] at hnp
 have hD:D w (Jj w β L') (.list 1 (Hd3 n pre last)) (.slice (some ⟨b,0,none⟩) (Hd3 n pre last).length cap):=by
  refine .list (fun j=>vs.getD j undef) (by omega) h5 (fun y hy=>by rw [hc y hy]; rfl) (fun j hj=>⟨⟨(Array.getElem?_eq_some_iff.1 h6).1,hsat.apart i b _ (by rw [hi]; rfl) hb,fun id o ho hb'=>?_⟩,?_⟩) (fun j u hu=>?_)
  ·obtain⟨o0,ho0,_⟩:=hdr.like id o ho
   have:=hsat.inj i id b (by rw [hi]; rfl) (by rw [ho0]; rfl) hb hb'
   subst this
   rw [hi'] at ho; cases ho
  ·rw [Hfe hc] at hj
   have:j < vs.size:=by omega
   simp [World.cell?,h6,this]
  ·rw [Hfe hc] at hu
   have hj:=(List.getElem?_eq_some_iff.1 hu).1
   have hjv:j < vs.size:=by omega
   have hx:vs[j]? = some (vs.getD j undef):=by simp [hjv]
   rw [hys] at hu hj
   rw [List.length_append,List.length_singleton] at hj
   rcases Nat.lt_or_ge j pre.length with hlt | hge
   ·rw [List.getElem?_append_left hlt] at hu
    exact(hp j u _ hu hx).mono fun b i hs=>⟨hdr.stab hs,rfl⟩
   ·rw [List.getElem?_append_right hge,show j - pre.length=0 by omega] at hu
    simp at hu; subst hu
    exact((hl _ (by omega) (by rw [show n - 1=j by omega]; exact hx)).plain.toD hd).mono fun b i hs=>⟨hdr.stab hs,rfl⟩
 rw [hlen] at hD
 exact .data hD

inductive FrzN (i ver n:Nat) (pre:List AV) (last:AV) (ys:List AV) (ok:Nat→Bool):AV→AV→Prop
 | conv {u u':AV} (h:Conv ok u u'):FrzN i ver n pre last ys ok u u'
 | nst:FrzN i ver n pre last ys ok (.nst i ver n pre last) (.list 1 ys)
def J30 (i ver n:Nat) (pre:List AV) (last:AV) (ys:List AV) (ok:Nat→Bool) (l:Fr):Fr→Prop
 | []=>True
 | (t,u)::r=>FrzN i ver n pre last ys ok (look l t) u∧J30 i ver n pre last ys ok l r
theorem J30.get {i ver n:Nat} {pre:List AV} {last:AV} {ys:List AV} {ok:Nat→Bool} {l:Fr}:∀ {l':Fr},J30 i ver n pre last ys ok l l'→∀ t,FrzN i ver n pre last ys ok (look l t) (look l' t)
 | [],_,t=>.conv .junk
 | (s,u)::r,h,t=>by
  simp only [look]
  cases hb:Nat.beq s t with
  | true=>have:=Nat.eq_of_beq_eq_true hb; subst this; exact h.1
  | false=>exact J30.get h.2 t

theorem Z9.nfreeze {w0 w:World} {β0 β:H2} {L0:Loc} {a:Act} (hs:Z9 N w0 β0 L0 a w β l L) (i:Nat) {t ver hw n:Nat} {pre ys:List AV} {last:AV} (hi:lk L i=some (.spare t 1 ver hw))
  (hi':lk L' i=none) (hl:G91 (fun j=>(lk L' j).isSome) L L') (hb:allIn L' N.base=true) (hys:Hd3 n pre last=ys) (hc:∀ y∈ys,y.cells=[y]) (hd:last.plain.isData=true) (hf:J30 i ver n pre last ys (fun j=>(lk L' j).isSome) l l'):Z9 N w0 β0 L0 a w β l' L':=by
 subst hys
 have hfit:Fits N.base l L [] L':=⟨trivial,hl,hb⟩
 have h1:=hs.fits hfit
 refine⟨h1.sat,h1.step,⟨fun t'=>?_⟩,h1.size,h1.base,h1.defers⟩
 have hv:=hs.frame.tmp t'
 generalize hu:look l t'=u at hv
 have hz:=hf.get t'
 rw [hu] at hz
 generalize look l' t'=u' at hz
 cases hz with
 | conv hc=>exact hv.conv hfit.drop hc
 | nst=>exact hv.nfreeze hs.sat hi hfit.drop hi' hc hd
theorem Q1f {c:Code} (l':Fr) (L':Loc) (i:Nat) {t ver hw n:Nat} {pre ys:List AV} {last:AV} (hi:lk L i=some (.spare t 1 ver hw)) (hi':lk L' i=none) (hl:G91 (fun j=>(lk L' j).isSome) L L') (hb:allIn L' N.base=true)
  (hys:Hd3 n pre last=ys) (hc:∀ y∈ys,y.cells=[y]) (hd:last.plain.isData=true) (hf:J30 i ver n pre last ys (fun j=>(lk L' j).isSome) l l') (hk:JC P N c Q l' L'):JC P N c Q l L:=fun n w0 β0 L0 a w β hs=>hk n w0 β0 L0 a w β (hs.nfreeze i hi hi' hl hb hys hc hd hf)
end freeze

/-! ### Typed -/
section typed
variable {α:Type}
/-- All inner elements, counted: the version of both names. -/
def Qd (xss:List (List α)):Nat:=(xss.map List.length).sum
def Jn (xss:List (List α)):List α:=xss.getLastD []
/-- A slice of slices, the last of which grows. -/
abbrev NS (i j k:Nat) (f:α→AV) (xss:List (List α)):AV:=.nst i (Qd xss) xss.length (xss.dropLast.map (LS k f)) (.own j (Qd xss) k ((Jn xss).map f))
theorem nstL_NS {j k:Nat} {f:α→AV} {xss:List (List α)}:Hd3 xss.length (xss.dropLast.map (LS k f)) (.own j (Qd xss) k ((Jn xss).map f))=xss.map (LS k f):=by
 unfold Hd3 Jn
 rcases List.eq_nil_or_concat xss with rfl | ⟨ys,y,rfl⟩
 ·rfl
 ·simp [AV.plain]
theorem totN_append (xss:List (List α)) (ys:List α):Qd (xss++[ys])=Qd xss+ys.length:=by simp [Qd]
def R5 (xss:List (List α)) (ys:List α):List (List α):=xss.dropLast++[ys]
theorem lastL_put {xss:List (List α)} {ys:List α}:Jn (R5 xss ys)=ys:=by simp [Jn,R5]
theorem dropLast_put {xss:List (List α)} {ys:List α}:(R5 xss ys).dropLast=xss.dropLast:=by simp [R5]
theorem totN_split (xss:List (List α)):Qd xss=Qd xss.dropLast+(Jn xss).length:=by
 rcases List.eq_nil_or_concat xss with rfl | ⟨ys,y,rfl⟩
 ·rfl
 ·simp [Qd,Jn]
theorem totN_put (xss:List (List α)) (ys:List α):Qd (R5 xss ys)=Qd xss.dropLast+ys.length:=by simp [R5,Qd]
theorem totN_push (xss:List (List α)) (g:α):Qd (R5 xss (Jn xss++[g]))=Qd xss+1:=by
 rw [totN_put,totN_split xss]; simp; omega
theorem len_put {xss:List (List α)} {ys:List α} (h:xss≠[]):(R5 xss ys).length=xss.length:=by
 have:=List.length_pos_iff.2 h
 simp [R5]; omega
theorem totN_new (xss:List (List α)) (g:α):Qd (xss++[[g]])=Qd xss+1:=by rw [totN_append]; rfl
theorem Hfa (xss:List (List α)) (ys:List α):Jn (xss++[ys])=ys:=by simp [Jn]
theorem drop_new (xss:List (List α)) (ys:List α):(xss++[ys]).dropLast=xss:=by simp
end typed
end Go.Proofs.YteoeccjboahfgaaGreat
