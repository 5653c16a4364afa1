/- Slices that the call may write in place: -/
import Derived.Test.YtbgfgnddogfpcaaGreatFrames
set_option linter.unusedSimpArgs false
namespace Go.Proofs.YtbgfgnddogfpcaaGreat
open Go.RowKit

theorem jI {k:Nat}:∀ {xs:AD},(∀ x∈xs,x.cells.length=k)->∀ {m f:Nat} {y:AV},xs[m]? = some y->f < k->(flat xs)[m*k+f]? = y.cells[f]?
 | [],_,m,f,y,h,_=>by simp at h
 | x::r,hk,m,f,y,h,hf=>by
  have hx:=hk x (by simp);cases m with
  | zero=>
   simp at h; subst h;rw [flat,Nat.zero_mul,Nat.zero_add,Ph (by omega)]
  | succ m=>
   simp at h;rw [flat,show (m+1)*k+f=k+(m*k+f) by rw [Nat.add_mul]; omega,Pg (by omega),hx,show k+(m*k+f) - k=m*k+f by omega];exact jI (fun y hy=>hk y (by simp [hy])) h hf
theorem H86 {k:Nat}:∀ {xs:AD},(∀ x∈xs,x.cells.length=k)->∀ {m:Nat} {z:AV},m < xs.length->z.cells.length=k->flat (xs.set m z)=(flat xs).take (m*k)++z.cells++(flat xs).drop (m*k+k)
 | [],_,m,z,h,_=>by simp at h
 | x::r,hk,m,z,h,hz=>by
  have hx:=hk x (by simp);cases m with
  | zero=>simp [flat,hx]
  | succ m=>
   have ih:=H86 (xs:=r) (fun y hy=>hk y (by simp [hy])) (m:=m) (z:=z) (by simpa using h) hz;have e1:(m+1)*k=x.cells.length+m*k:=by rw [hx,Nat.add_mul]; omega
   rw [List.set_cons_succ,flat,ih,flat,e1,List.take_length_add_append,Nat.add_assoc,List.drop_length_add_append];simp [List.append_assoc]

section moves
variable {w w':World} {U:Gx} {L:Loc} {i t k BA:Nat} {xs':AD}
theorem R0 {ob':Option Nat} (h0:Sat w U L)
  (hold:lk L i=none\/∃ ver xs,lk L i=some (.vec t k ver xs)/\ver<=BA/\(BA=ver->xs'.length=xs.length/\ob'=U.at_ i/\∀ b,U.at_ i=some b->w'.shape? b=w.shape? b))
  (a4:w'.os=w.os) (a5:w'.tape=w.tape) (a2:w'.output=w.output/\w.drawn<=w'.drawn) (h9:w.heap.size<=w'.heap.size)
  (a0:∀ b,b < w.heap.size->(inL L i=true->U.at_ i≠some b)->w'.heap[b]? = w.heap[b]?)
  (a6:ob'=none\/(inL L i=true/\ob'=U.at_ i)\/∃ b,ob'=some b/\w.heap.size<=b/\b < w'.heap.size) :
  Step w U L w' (upP U i ob') ((i,.vec t k BA xs')::L) /\
  (kU w' (upP U i ob') ((i,.vec t k BA xs')::L) ob' (.vec t k BA xs')->Sat w' (upP U i ob') ((i,.vec t k BA xs')::L)):=by
 have a1:∀ id b,(lk L id).isSome=true->U.at_ id=some b->i≠id->w'.heap[b]? = w.heap[b]? := by
  intro id b h1 h2 a7;refine a0 b (h0.bnd id b h1 h2) (fun h3 h4=>a7 ?_);exact h0.inj i id b h3 h1 h4 h2
 have h7:∀ id,i≠id->(upP U i ob').at_ id=U.at_ id:=fun id e=>by simp [upP,Ne.symm e]
 have h8:(upP U i ob').at_ i=ob':=by simp [upP]
 have fresh:∀ b,ob'=some b->(inL L i=true/\U.at_ i=some b)\/(w.heap.size<=b/\b < w'.heap.size):=by
  intro b hb;rcases a6 with h | ⟨h1,h2⟩ | ⟨b',h1,h2,h3⟩
  .rw [h] at hb; cases hb
  .exact .inl ⟨h1,by rw [<- h2,hb]⟩
  .rw [h1] at hb; cases hb; exact .inr ⟨h2,h3⟩
 have stabne:∀ b j,Hs w U L b j->inL L i=true->U.at_ i≠some b:=by
  intro b j hs a8 hb;obtain⟨o,ho⟩:=Ny a8;have hk:=hs.kept i o ho hb;rcases hold with h | ⟨ver,xs,h,_⟩
  .rw [h] at ho; cases ho
  .rw [h] at ho; cases ho; exact hk
 have st:Step w U L w' (upP U i ob') ((i,.vec t k BA xs')::L):=by
  refine⟨a4,a5,a2,h9,fun _ _ _=>Iff.rfl,fun b j hs=>⟨⟨P0 hs.lt h9,hs.seen,fun id o hid hb=>?_⟩,Jc (w:=w) (a0 b hs.lt (stabne b j hs))⟩,fun b hb hf=>⟨a0 b hb (fun h=>hf i h),fun id hid e=>?_⟩,fun id t' cs hid=>?_,fun id t' cs hid=>?_,fun id t' n cs hid=>?_,fun id t' k' vr zs hid=>?_,fun id t' k' vr hw hid=>?_⟩
  .rw [Ge] at hid;by_cases e:i=id
   .subst e;rw [h8] at hb;rcases fresh b hb with ⟨h1,h2⟩ | ⟨h1,_⟩
    .exact absurd h2 (stabne b j hs h1)
    .have:=hs.lt; omega
   .rw [if_neg e] at hid; rw [h7 id e] at hb; exact hs.kept id o hid hb
  .rw [Ge] at hid;by_cases e':i=id
   .subst e';rw [h8] at e;rcases fresh b e with ⟨h1,h2⟩ | ⟨h1,_⟩
    .exact hf i h1 h2
    .omega
   .rw [if_neg e'] at hid; rw [h7 id e'] at e; exact hf id hid e
  .have e:i≠id:=fun e=>by subst e; rcases hold with h | ⟨_,_,h,_⟩ <;> rw [h] at hid <;> cases hid
   exact⟨h7 id e,cs,by rw [Ge,if_neg e]; exact hid⟩
  .have e:i≠id:=fun e=>by subst e; rcases hold with h | ⟨_,_,h,_⟩ <;> rw [h] at hid <;> cases hid
   exact⟨h7 id e,cs,by rw [Ge,if_neg e]; exact hid⟩
  .have e:i≠id:=fun e=>by subst e; rcases hold with h | ⟨_,_,h,_⟩ <;> rw [h] at hid <;> cases hid
   exact⟨h7 id e,n,cs,by rw [Ge,if_neg e]; exact hid⟩
  .rw [Ge];by_cases e:i=id
   .subst e;rcases hold with h | ⟨ver,xs,h,h1,h2⟩
    .rw [h] at hid; cases hid
    .rw [h] at hid; cases hid;refine⟨BA,xs',if_pos rfl,h1,fun e=>?_⟩;obtain⟨q1,q2,q3⟩:=h2 e;exact⟨q1,h8.trans q2,q3⟩
   .exact⟨vr,zs,by rw [if_neg e]; exact hid,Pf,fun _=>⟨rfl,h7 id e,fun b hb=>bK (a1 id b (by rw [hid]; rfl) hb e)⟩⟩
  .have e:i≠id:=fun e=>by subst e; rcases hold with h | ⟨_,_,h,_⟩ <;> rw [h] at hid <;> cases hid
   exact⟨vr,hw,by rw [Ge,if_neg e]; exact hid,Pf,fun _=>⟨rfl,h7 id e,fun b hb=>a1 id b (by rw [hid]; rfl) hb e⟩⟩
 refine⟨st,fun a3=>⟨fun b j h=>P0 (h0.hid b j h) h9,fun id b hid hb=>?_,fun id b j hid hb hh=>?_,fun id id' b h1 h2 h3 h4=>?_,fun id o hid=>?_⟩⟩
 .rw [Ge] at hid;by_cases e:i=id
  .subst e;rw [h8] at hb;rcases fresh b hb with ⟨h1,h2⟩ | ⟨_,h2⟩
   .exact P0 (h0.bnd i b h1 h2) h9
   .exact h2
  .rw [if_neg e] at hid; rw [h7 id e] at hb; exact P0 (h0.bnd id b hid hb) h9
 .rw [Ge] at hid;by_cases e:i=id
  .subst e;rw [h8] at hb;rcases fresh b hb with ⟨h1,h2⟩ | ⟨h1,_⟩
   .exact h0.apart i b j h1 h2 hh
   .have:=h0.hid b j hh; omega
  .rw [if_neg e] at hid; rw [h7 id e] at hb; exact h0.apart id b j hid hb hh
 .have key:∀ id,i≠id->(lk ((i,Jb.vec t k BA xs')::L) id).isSome=true->(upP U i ob').at_ id=some b->ob'=some b->False:=by
   intro id e h1 h3 hb;rw [Ge,if_neg e] at h1;rw [h7 id e] at h3;rcases fresh b hb with ⟨h5,h6⟩ | ⟨h5,_⟩
   .exact e (h0.inj i id b h5 h1 h6 h3)
   .have:=h0.bnd id _ h1 h3; omega
  by_cases e:i=id
  .by_cases e':i=id'
   .rw [<- e,e']
   .subst e; rw [h8] at h3; exact(key id' e' h2 h4 h3).elim
  .by_cases e':i=id'
   .subst e'; rw [h8] at h4; exact(key id e h1 h3 h4).elim
   .rw [Ge,if_neg e] at h1;rw [Ge,if_neg e'] at h2;rw [h7 id e] at h3;rw [h7 id' e'] at h4;exact h0.inj id id' b h1 h2 h3 h4
 .rw [Ge] at hid;by_cases e:i=id
  .subst e;rw [if_pos rfl] at hid; cases hid;rw [h8]; exact a3
  .rw [if_neg e] at hid;rw [h7 id e];exact(h0.obj id o hid).step st (fun b hb=>a1 id b (by rw [hid]; rfl) hb e)

theorem cX {n ver:Nat} {xs:AD} {x:Value} (h0:Sat w U L) (hi:lk L i=some (.vec t k ver xs)) (hv:V w U L (.vec i ver k n) x) :
  n=xs.length/\(∀ y∈xs,y.cells.length=k)/\((x=.slice none 0 0/\xs=[]/\U.at_ i=none) \/
   ∃ b cap vs,x=.slice (some ⟨b,0,none⟩) xs.length cap/\U.at_ i=some b/\xs.length<=cap/\cap<=maxLen/\w.heap[b]? = some (.cells vs t (0,0))/\vs.size=cap*k /\
    ∀ (j:Nat) u v,(flat xs)[j]? = some u->vs[j]? = some v->D w (Hs w U L) u v):=by
 have a0:=h0.obj i _ hi;cases hv with
 | data h=>cases h
 | vec hp a1=>
  obtain⟨t',ver',xs',h1,h2,h3⟩:=hp;rw [hi] at h1; cases h1;obtain⟨rfl,h4⟩:=h3 rfl;obtain⟨o1,o2⟩:=a0;refine⟨rfl,o1,?_⟩;rcases h4 with ⟨rfl,h5,h6⟩ | ⟨b,cap,rfl,h6,h7,h8,h9⟩
  .exact .inl ⟨rfl,P1 h5,h6⟩
  .right;rcases o2 with ⟨o3,_⟩ | ⟨b',o3,vs,o4,o5,o6⟩
   .rw [h6] at o3; cases o3
   .rw [h6] at o3; cases o3;have hs:vs.size=cap*k:=by
     have:=h9;simp [World.shape?,o4] at this;exact this
    exact⟨b,cap,vs,rfl,h6,h7,h8,o4,hs,o6⟩
end moves

section ops
variable {P:Program} {N:Cfg} {o:Oper} {l:Fr} {L L':Loc} {u:AV} {W:Type}

variable {x:Operand}
theorem Jdb (i E k:Nat) (ho:o.op=.assign x) (hx:ev l x=.sc (.slice none 0 0)) (hi:lk L i=none):Gy P o l L (Is (.vec i 0 k 0) ((i,.vec E k 0 [])::L)):=by
 intro a w U K Q h0 hf hK;have hv:=hf.ev x;rw [hx] at hv;have hr:(execOp a.eval o).run P w=.ok (.value (.slice none 0 0)) w:=by simp [execOp,ho,hv.inv_sc]
 unfold Oper.wp;rw [hr];obtain⟨st,sat⟩:=R0 (w':=w) (t:=E) (k:=k) (BA:=0) (xs':=[]) (ob':=none) h0 (.inl hi) rfl rfl ⟨rfl,Pf⟩ (Pf) (fun _ _ _=>rfl) (.inl rfl);exact hK _ _ _ w _ ⟨rfl,rfl⟩ (sat ⟨by simp,.inl ⟨rfl,rfl⟩⟩) st (.vec ⟨E,0,[],by rw [Ge,if_pos rfl],Pf,fun _=>⟨rfl,.inl ⟨rfl,rfl,by simp [upP]⟩⟩⟩ rfl)

theorem G48 (w:World) (t e:TypeId) (i:TypeInfo) (z:Value) (size:Nat) (ht:P.underlying t=some (.slice e)) (hi:P.info? e=some i) (hz:i.zero=some z) (h0:i.size=size)
  (kl kc:IntKind) (n:Nat) (h3:i.bytes*n<=281474976710656) (h1:n<=maxLen) :
  ∃ w',(Instr.makeSlice t (.int kl (n:Int)) (.int kc (n:Int))).run P w=.ok (.slice (some ⟨w.heap.size,0,none⟩) n n) w' /\
   w'.ownsRow 0 e size (.slice (some ⟨w.heap.size,0,none⟩) n n) n (madeCells z.cells (n*size)).toList/\w.grownBy w' none/\w.drawn<=w'.drawn:=by
 subst h0;have h2:(n:Int)<=9223372036854775807:=by
  have h:=h1;simp [maxLen] at h;omega
 have h4:(i.bytes:Int)*(n:Int)<=281474976710656:=by
  have h:((i.bytes*n:Nat):Int)<=281474976710656:=by omega
  rwa [Int.natCast_mul] at h
 have hr:=run_make (P:=P) w t e i z ht hi hz kl kc n n (by omega) (Int.le_refl _) h4 h2;simp only [Int.toNat_natCast] at hr;exact⟨_,hr,World.ownsRow_lit w _ n (Nat.zero_le _) h1 (size_madeCells _ _),World.grownBy_alloc w _ none,Pf⟩

variable {E T k n:Nat}
theorem Q4a (i:Nat) {y:Operand} {by_:Nat} {kd kd':IntKind} {nx ny:Int} (zs:AK) (ho:o.op=.makeSlice T x y) (hx:ev l x=.sc (.int kd nx)) (hy:ev l y=.sc (.int kd' ny)) (hi:lk L i=none)
  (hT:sliceB P T E k=true) (hE:Qa P E k by_=true) (hz:(P.info? E).bind (fun i=>i.zero.map Value.cells)=some zs.toArray) (hn:nx=(n:Int)) (hm:ny=(n:Int)) (hb:decide (by_*n<=281474976710656/\n<=maxLen/\n*k<=16777216)=true)
  (z:AV) (a5:∀ (w:World) (S:Nat->Nat->Prop) (j:Nat) a b,z.cells[j]? = some a->zs[j]? = some b->D w S a b) (h2:z.cells.length=k) :
  Gy P o l L (Is (.vec i 0 k n) ((i,.vec E k 0 (List.replicate n z))::L)):=by
 subst hn hm;intro a w U K Q a0 hf hK;have h3:=P6 hb;obtain⟨inf,zv,e1,e2,e3,e4,e5,e6⟩:=Qa.out hE;have h4:=hf.ev x;rw [hx] at h4;have h5:=hf.ev y;rw [hy] at h5;obtain⟨w',hr,a1,hg,a6⟩:=G48 (P:=P) w T E inf zv k (sliceB.out hT).1 e1 e4 e2 kd kd' n (by rw [e3]; exact h3.1) h3.2.1;have a2:(execOp a.eval o).run P w=.ok (.value (.slice (some ⟨w.heap.size,0,none⟩) n n)) w':=by
  simp [execOp,ho,h4.inv_sc,h5.inv_sc,hr]
 unfold Oper.wp;rw [a2];have h6:zv.cells=zs.toArray:=by
  rw [e1] at hz;simp [e4] at hz;exact hz
 obtain⟨b3,a3⟩:=a1;rcases a3 with ⟨a7,_⟩ | ⟨g,cap,cur,hv,_,h0,b4,a8,h7,a9⟩
 .cases a7
 simp only [Value.slice.injEq,Option.some.injEq,Addr.mk.injEq] at hv;obtain⟨⟨rfl,-,-⟩,-,rfl⟩:=hv;have b0:w.heap.size < w'.heap.size:=(Nz h0).1;obtain⟨st,sat⟩:=R0 (w':=w') (t:=E) (k:=k) (BA:=0) (xs':=List.replicate n z) (ob':=some w.heap.size) a0 (.inl hi) hg.os hg.tape ⟨hg.output,a6⟩ hg.size
  (fun b hb _=>hg.block b hb (by simp)) (.inr (.inr ⟨_,rfl,Pf,b0⟩))
 have a4:cur=madeCells zv.cells (n*k):=by
  have:cur.toList=(madeCells zv.cells (n*k)).toList:=by
   rw [<- a9,List.take_of_length_le (by rw [Array.length_toList]; omega)]
  exact Array.toList_inj.1 this
 refine hK _ _ _ w' _ ⟨rfl,rfl⟩ (sat ⟨fun y hy=>by rw [List.eq_of_mem_replicate hy]; exact h2,.inr ⟨_,rfl,cur,h0,by simp [h7],fun j u v hu hv=>?_⟩⟩) st
  (.vec ⟨E,0,_,by rw [Ge,if_pos rfl],Pf,fun _=>⟨by simp,.inr ⟨_,n,rfl,by simp [upP],Pf,a8,by simp [World.shape?,h0,h7]⟩⟩⟩ rfl)
 -- the cells
 have h8:∀ x∈List.replicate n z,x.cells.length=k:=fun y hy=>by rw [List.eq_of_mem_replicate hy]; exact h2
 have hj:j < n*k:=by
  have:=(Pa hu).1;rw [J2 h8] at this;simpa using this
 have b1:j=j / k*k+j % k:=by rw [Nat.mul_comm]; exact(Nat.div_add_mod j k).symm
 have hq:j / k < n:=Nat.div_lt_of_lt_mul (by rw [Nat.mul_comm]; exact hj);have b2:(List.replicate n z)[j / k]? = some z:=by simp [hq]
 rw [b1,jI h8 b2 (Nat.mod_lt _ e6)] at hu;have h1:zs.length=k:=by
  have:=e5;rw [h6] at this;simpa using this
 refine a5 _ _ (j % k) u v hu ?_;subst a4;rw [madeCells] at hv;simp [hj] at hv;rw [<- hv,h6];have h9:j % k < zs.length:=by rw [h1]; exact Nat.mod_lt _ e6
 simp [h1,h9];rw [Pb h9]; rfl

variable {xs:AD} {i ver:Nat}
theorem J8e {s:Operand} {by_ BA:Nat} {kx:Nat} {ys:AD} (ho:o.op=.call { callee:=.builtin .append,args:=#[s,x],argTypes:=#[T,T] }) (hs:ev l s=.vec i ver k n) (hi:lk L i=some (.vec E k ver xs)) (hx:Jv (ev l x)=some (kx,ys))
  (hT:sliceB P T E k=true) (hE:Qa P E k by_=true) (hb:(xs.length+ys.length)*by_<=140737488355328) (b8:xs.length+ys.length<=maxLen) (a9:∀ y∈ys,y.BI=true) (hk:kx=k\/ys=[]) (d6:ver < BA) :
  Gy P o l L (Is (.vec i BA k (xs++ys).length) ((i,.vec E k BA (xs++ys))::L)):=by
 intro a w U K Q a0 hf hK;have hv:=hf.ev s;rw [hs] at hv;obtain⟨rfl,b2,b3⟩:=cX a0 hi hv;generalize c2:a.eval s=vs at hv b3;have a1:=(hf.ev x).Jv hx;obtain⟨ao,cap,b4,_⟩:=a1.len;rw [b4] at a1;obtain⟨_,c3,c4,news,c5,a2,b5⟩:=a1.vals;obtain⟨inf,z,e1,e2,e3,e4,e5,e6⟩:=Qa.out hE;have a3:∀ y∈ys,y.cells.length=k:=by
  rcases hk with rfl | rfl
  .exact c3
  .simp
 have b9:∀ u∈news,u.oneCell'=true:=by
  intro u hu;obtain⟨j,hj,e⟩:=List.mem_iff_getElem.1 hu;have b6:j < (flat ys).length:=by omega
  obtain⟨x',h9,a4⟩:=b5 j (flat ys)[j] (by simp [b6]);have:u=x':=by
   have:news[j]? = some u:=by rw [<- e]; simp [hj]
   rw [this] at h9; exact Pc h9
  subst this;have c6:((flat ys)[j]).isCell=true:=kS a9 (List.getElem_mem b6);exact(V.data (L:=L) (U:=U) a4).cell c6
 have c7:(flat ys).length=ys.length*k:=J2 a3;have c8:(flat xs).length=xs.length*k:=J2 b2
 -- the row aQ the kit knows it
 obtain⟨vals,a5,c9,b7⟩:∃ vals:AK,w.ownsRow 0 E k vs xs.length vals/\(∀ (j:Nat) u v,(flat xs)[j]? = some u->vals[j]? = some v->D w (Hs w U L) u v)/\vs.ownBlock=U.at_ i:=by
  rcases b3 with ⟨rfl,rfl,h3⟩ | ⟨b,cap',cur,rfl,h2,h3,h4,h5,h6,h7⟩
  .exact⟨[],⟨by simp,.inl ⟨rfl,rfl⟩⟩,fun j u v hu=>by simp [flat] at hu,by rw [h3]; rfl⟩
  .refine⟨cur.toList.take (xs.length*k),⟨?_,.inr ⟨b,cap',cur,rfl,Nat.zero_le _,h5,h3,h4,h6,rfl⟩⟩,fun j u v hu hv=>h7 j u v hu ?_,by rw [h2]; rfl⟩
   .rw [List.length_take]; refine Nat.min_eq_left ?_; exact Nat.le_trans (Nat.mul_le_mul_right _ h3) (Nat.le_of_eq (by simpa using h6.symm))
   .have hj:=(Pa hv).1;rw [Pk,if_pos (by rw [List.length_take] at hj; omega)] at hv;simpa using hv
 obtain⟨v',w',hr,h8,d0,d1,c0,d2,a6,a7⟩:=pY (P:=P) w T o.type E inf z k (sliceB.out hT).1 e1 e4 e2 e5 e6 vs xs.length vals a5 ao ys.length cap news (by rw [c5,c7]) (fun ad j u h h'=>a2 ad j u h h') c4 b9 b8 (by rw [e3]; exact hb);have c1:(execOp a.eval o).run P w=.ok (.value v') w':=by
  simp [execOp,ho,resolve,invoke,builtin,c2,b4,hr]
 unfold Oper.wp;rw [c1];have d3:vals.length=xs.length*k:=a5.1;have b0:=ownsRow_form h8;have vlt:∀ b,v'.ownBlock=some b->b < w'.heap.size:=by
  intro b hb;rcases b0 with ⟨_,_,h0⟩ | ⟨b',cap',cur,_,d4,_,_,hg,_⟩
  .rw [h0] at hb; cases hb
  .rw [d4] at hb; cases hb;exact(Nz hg).1
 obtain⟨st,sat⟩:=R0 (w':=w') (t:=E) (k:=k) (BA:=BA) (xs':=xs++ys) (ob':=v'.ownBlock) a0 (.inr ⟨ver,xs,hi,by omega,fun e=>by omega⟩) d0 d1 c0 d2
  (fun b hb d5=>a6 b hb (fun e=>d5 (by rw [inL,hi]; rfl) (b7 ▸ e)))
  (by
   rcases a7 with h | ⟨h,h',_⟩
   .exact .inr (.inl ⟨by rw [inL,hi]; rfl,h.trans b7⟩)
   .exact .inr (.inr ⟨_,h,Pf,h'⟩))
 have a8:∀ y∈xs++ys,y.cells.length=k:=fun y hy=>by
  rcases Ps.1 hy with h | h
  .exact b2 y h
  .exact a3 y h
 have b1:∀ (j:Nat) u v,(flat (xs++ys))[j]? = some u->(vals++news)[j]? = some v->D w' (Hs w' (upP U i v'.ownBlock) ((i,.vec E k BA (xs++ys))::L)) u v:=by
  intro j u v hu hv;rw [dU] at hu;rcases P4 j (flat xs).length with hj | hj
  .rw [Ph hj] at hu;rw [Ph (by omega)] at hv;exact(c9 j u v hu hv).mono st.AX
  .rw [Pg hj] at hu;rw [Pg (by omega)] at hv;obtain⟨x',h9,a4⟩:=b5 (j - (flat xs).length) u hu;rw [c8,<- d3] at h9;rw [hv] at h9; cases h9;exact a4.mono st.AX
 refine hK _ _ v' w' _ ⟨rfl,rfl⟩ (sat ⟨a8,?_⟩) st (.vec ⟨E,BA,xs++ys,by rw [Ge,if_pos rfl],Pf,fun _=>⟨rfl,?_⟩⟩ ?_)
 .rcases h8.2 with ⟨h1,h2⟩ | ⟨g,cap',cur,h1,_,h3,h4,h5,h6,h7⟩
  .refine .inl ⟨by rw [h1]; rfl,P1 (by rw [Pn]; exact h2)⟩
  .refine .inr ⟨g,by rw [h1]; rfl,cur,h3,?_,fun j u v hu hv=>b1 j u v hu ?_⟩
   .rw [Pn,h6]; exact Nat.mul_le_mul_right _ h4
   .have hj:j < (flat (xs++ys)).length:=(Pa hu).1;rw [J2 a8,Pn] at hj;rw [<- h7,Pk,if_pos hj];simpa using hv
 .rcases h8.2 with ⟨h1,h2⟩ | ⟨g,cap',cur,h1,_,h3,h4,h5,h6,h7⟩
  .exact .inl ⟨h1,by rw [Pn]; exact h2,by simp [upP,h1,Value.ownBlock]⟩
  .exact .inr ⟨g,cap',by rw [Pn]; exact h1,by simp [upP,h1,Value.ownBlock],by rw [Pn]; exact h4,h5,by simp [World.shape?,h3,h6]⟩
 .rcases h8.2 with ⟨h1,_⟩ | ⟨g,cap',cur,h1,_⟩ <;> rw [h1] <;> rfl

theorem J20 {k':Nat} (hT:sliceB P T E k'=true) (ho:o.op=.call { callee:=.builtin .len,args:=#[x],argTypes:=#[T] }) (hx:ev l x=.vec i ver k n) (hi:lk L i=some (.vec E k ver xs)):Gy P o l L (Is (I64 (n:Int)) L):=
 Hj fun a w U h0 hf=>by
  have hv:=hf.ev x;rw [hx] at hv;obtain⟨rfl,_,h⟩:=cX h0 hi hv;refine⟨.int .i64 xs.length,?_,.sc⟩;rcases h with ⟨h1,h2,_⟩ | ⟨b,cap,vs,h1,_⟩
  .subst h2;simp [execOp,ho,resolve,invoke,builtin,Builtin.len_,underlying,(sliceB.out hT).1,h1,goInt]
  .simp [execOp,ho,resolve,invoke,builtin,Builtin.len_,underlying,(sliceB.out hT).1,h1,goInt]

variable {m:Nat}
theorem Qa4 {ix:Operand} {kd:IntKind} {z:Int} (ho:o.op=.indexAddr T x ix) (hx:ev l x=.vec i ver k n) (h4:ev l ix=.sc (.int kd z)) (hi:lk L i=some (.vec E k ver xs)) (hT:sliceB P T E k=true) (hm:m < xs.length) (hz:z=(m:Int)) :
  Gy P o l L (Is (.BO i ver m 0) L):=
 Hj fun a w U h0 hf=>by
  subst hz;have hv:=hf.ev x;rw [hx] at hv;have h2:=hf.ev ix;rw [h4] at h2;obtain⟨rfl,_,h⟩:=cX h0 hi hv;rcases h with ⟨h1,h3,_⟩ | ⟨b,cap,vs,h1,h3,_⟩
  .subst h3; simp at hm
  .have hr:=Q8 (sliceB.out hT).2 w;refine⟨.pointer (some ⟨b,m*k,none⟩),?_,.BO ⟨E,k,ver,xs,hi,Pf,fun _=>⟨b,h3,rfl⟩⟩ rfl⟩;simp [execOp,ho,Instr.indexAt,h2.inv_sc,asIntOf,underlying,(sliceB.out hT).1,h1,hm,hr,Addr.add_lit]

variable {f t:Nat}
theorem V.inv_vptr {w:World} {U:Gx} {x:Value} (hi:lk L i=some (.vec t k ver xs)) (h:V w U L (.BO i ver m f) x):∃ b,U.at_ i=some b/\x=.pointer (some ⟨b,m*k+f,none⟩):=by
 cases h with
 | data h=>cases h
 | BO hp _=>
  obtain⟨t',k',ver',xs',h1,_,h3⟩:=hp;rw [hi] at h1; cases h1;exact h3 rfl

theorem nB {w:World} {U:Gx} {b:Nat} (h0:Sat w U L) (hi:lk L i=some (.vec t k ver xs)) (hb:U.at_ i=some b) :
  (∀ y∈xs,y.cells.length=k)/\∃ vs:Array Value,w.heap[b]? = some (.cells vs t (0,0))/\xs.length*k<=vs.size/\∀ (j:Nat) u v,(flat xs)[j]? = some u->vs[j]? = some v->D w (Hs w U L) u v:=by
 obtain⟨o1,o2⟩:=h0.obj i _ hi;refine⟨o1,?_⟩;rcases o2 with ⟨h,_⟩ | ⟨b',h,vs,h1,h2,h3⟩
 .rw [hb] at h; cases h
 .rw [hb] at h; cases h; exact⟨vs,h1,h2,h3⟩

theorem Q4b {y:AV} (hT:J9 P T=true) (ho:o.op=.load T x) (hx:ev l x=.BO i ver m f) (hi:lk L i=some (.vec t k ver xs)) (hy:xs[m]? = some y) (hu:y.cells[f]? = some u) (h6:f < k):Gy P o l L (Is u L):=
 Hj fun a w U h5 hf=>by
  have hv:=hf.ev x;rw [hx] at hv;obtain⟨b,hb,he⟩:=hv.inv_vptr hi;obtain⟨h1,vs,h2,h3,h4⟩:=nB h5 hi hb;have hm:=(Pa hy).1;have h0:m*k+f < vs.size:=by
   have:(m+1)*k<=xs.length*k:=Nat.mul_le_mul_right _ hm;rw [Nat.add_mul] at this; omega
  refine⟨vs[m*k+f],?_,.data (h4 (m*k+f) u _ (by rw [jI h1 hy h6]; exact hu) (by simp [h0]))⟩;have:=gM (P:=P) (T:=T) (b:=b) (o':=m*k+f) (v:=vs[m*k+f]) hT (w:=w) (by simp [World.cell?,h2,h0]);simp [execOp,ho,he,this]

theorem Ha2 {y:Operand} {kk:Nat} {ds:AD} {e z:AV} (hT:R3 P T kk=true) (ho:o.op=.store T x y) (hu:ev l y=u) (hx:ev l x=.BO i ver m f) (hi:lk L i=some (.vec t k ver xs)) (he:xs[m]? = some e)
  (hc:u.BI=true) (hd:u.BF=true) (a3:zE f u.cells e.cells=some ds) (hz:z.cells=ds) (hk:u.cells.length=kk) (a1:Nat.blt 0 kk=true) :
  Gy P o l L (Is .AL ((i,.vec t k ver (xs.set m z))::L)):=by
 subst hu;have h2:(ev l y).cells≠[]:=fun e=>by rw [e] at hk; subst hk; cases a1
 obtain⟨rfl,h7⟩:=G19 a3 h2;rw [hk] at h7;intro a w U K Q h3 hf hK;have h1:=hf.ev x;rw [hx] at h1;obtain⟨b,hb,a4⟩:=h1.inv_vptr hi;obtain⟨q1,vs,q2,q3,q4⟩:=nB h3 hi hb;have hm:=(Pa he).1;have b2:e.cells.length=k:=q1 e (Pd he);have a2:m*k+f+kk<=vs.size:=by
  have:(m+1)*k<=xs.length*k:=Nat.mul_le_mul_right _ hm;rw [Nat.add_mul] at this; omega
 obtain⟨c1,c2,c3⟩:=(hf.ev y).cells hc;have hr:=nP (P:=P) (off:=m*k+f) hT (c1.trans hk) c3 q2 a2;unfold Oper.wp;have a5:(execOp a.eval o).run P w=.ok .skip (w.setRow b (vs.toList.take (m*k+f)++(a.eval y).cells.toList++vs.toList.drop (m*k+f+kk)).toArray):=by
  simp [execOp,ho,a4,hr]
 rw [a5];have h8:=setRow_heap w b vs (vs.toList.take (m*k+f)++(a.eval y).cells.toList++vs.toList.drop (m*k+f+kk)).toArray t (0,0) q2;have h4:(vs.toList.take (m*k+f)++(a.eval y).cells.toList++vs.toList.drop (m*k+f+kk)).toArray.size=vs.size:=by
  simp [c1]; omega
 have h5:z.cells.length=k:=by
  rw [hz]; simp [hk]; omega
 obtain⟨st,sat⟩:=R0 (w':=w.setRow b (vs.toList.take (m*k+f)++(a.eval y).cells.toList++vs.toList.drop (m*k+f+kk)).toArray) (t:=t) (k:=k) (BA:=ver) (xs':=xs.set m z) (ob':=U.at_ i) h3
  (.inr ⟨ver,xs,hi,Pf,fun _=>⟨by simp,rfl,fun b' h9=>by
   rw [hb] at h9; cases h9;rw [World.shape?,h8,World.shape?,q2]; simp only [h4]⟩⟩) rfl rfl ⟨rfl,Pf⟩ (by simp)
  (fun b' _ h2=>setRow_other w b b' _ (fun e=>h2 (by rw [inL,hi]; rfl) (by rw [hb,e])))
  (.inr (.inl ⟨by rw [inL,hi]; rfl,rfl⟩))
 have a6:∀ y∈xs.set m z,y.cells.length=k:=fun y hy=>by
  rcases List.mem_or_eq_of_mem_set hy with h | h
  .exact q1 y h
  .rw [h]; exact h5
 refine hK _ _ _ _ _ ⟨rfl,rfl⟩ (sat ⟨a6,.inr ⟨b,hb,_,h8,by rw [h4]; simpa using q3,fun j u v hu hv=>?_⟩⟩) st .AL;rw [H86 q1 hm h5,hz] at hu;have b3:(flat xs).length=xs.length*k:=J2 q1;have b4:m*k+k<=xs.length*k:=by
  have:(m+1)*k<=xs.length*k:=Nat.mul_le_mul_right _ hm
  rwa [Nat.add_mul,Nat.one_mul] at this
 simp only [List.getElem?_toArray] at hv;have old:∀ j',(flat xs)[j']? = some u->vs[j']? = some v->D _ _ u v:=fun j' a b=>(q4 j' u v a b).mono st.AX;have h6:(e.cells.take f++(ev l y).cells++e.cells.drop (f+(ev l y).cells.length)).length=k:=by rw [<- hz]; exact h5
 have h0:(a.eval y).cells.toList.length=kk:=by rw [Array.length_toList,c1,hk]
 rcases P4 j (m*k) with hj | hj
 .rw [List.append_assoc,Ph (by simp; omega),Pk,if_pos hj] at hu;rw [List.append_assoc,Ph (by simp; omega),Pk,if_pos (by omega)] at hv;exact old j hu (by simpa using hv)
 rcases P4 j (m*k+k) with a7 | a7
 ·-- in the element
  rw [Ph (by rw [Pn,h6]; simp; omega),Pg (by simp; omega)] at hu;have a8:(List.take (m*k) (flat xs)).length=m*k:=by simp; omega
  rw [a8] at hu;rcases P4 j (m*k+f) with a0 | a0
  .rw [List.append_assoc,Ph (by simp; omega),Pk,if_pos (by omega)] at hu;rw [List.append_assoc,Ph (by simp; omega),Pk,if_pos a0] at hv;refine old j ?_ (by simpa using hv);rw [show j=m*k+(j - m*k) by omega,jI q1 he (by omega)]; exact hu
  rcases P4 j (m*k+f+kk) with a9 | a9
  .rw [Ph (by simp [hk]; omega),Pg (by simp; omega)] at hu;rw [Ph (by rw [Pn,h0]; simp; omega),Pg (by simp; omega)] at hv;have l1:(List.take f e.cells).length=f:=by simp; omega
   have l2:(List.take (m*k+f) vs.toList).length=m*k+f:=by simp; omega
   rw [l1] at hu;rw [l2] at hv;rw [show j - m*k - f=j - (m*k+f) by omega] at hu;have b0:u.BF=true:=by
    have b1:=Pd hu;exact G4c (ok:=fun _=>false) hd u b1
   exact((c2 _ u v hu (by simpa using hv)).toD b0).mono st.AX
  .rw [Pg (by simp [hk]; omega),Pm] at hu;rw [Pg (by rw [Pn,h0]; simp; omega),Pm] at hv;have l1:(List.take f e.cells++(ev l y).cells).length=f+kk:=by simp [hk]; omega
   have l2:(List.take (m*k+f) vs.toList++(a.eval y).cells.toList).length=m*k+f+kk:=by rw [Pn,h0]; simp; omega
   rw [l1,hk] at hu;rw [l2] at hv;refine old j ?_ ?_
   .rw [show j=m*k+(j - m*k) by omega,jI q1 he (by omega)];rw [show f+kk+(j - m*k - (f+kk))=j - m*k by omega] at hu; exact hu
   .rw [show m*k+f+kk+(j - (m*k+f+kk))=j by omega] at hv; simpa using hv
 .rw [Pg (by rw [Pn,h6]; simp; omega),Pm] at hu;rw [Pg (by rw [Pn,h0]; simp; omega),Pm] at hv;have l1:(List.take (m*k) (flat xs)++(e.cells.take f++(ev l y).cells++e.cells.drop (f+(ev l y).cells.length))).length=m*k+k:=by rw [Pn,h6]; simp; omega
  have l2:(List.take (m*k+f) vs.toList++(a.eval y).cells.toList).length=m*k+f+kk:=by rw [Pn,h0]; simp; omega
  rw [l1] at hu;rw [l2] at hv;refine old j ?_ ?_
  .rw [show m*k+k+(j - (m*k+k))=j by omega] at hu; exact hu
  .rw [show m*k+f+kk+(j - (m*k+f+kk))=j by omega] at hv; simpa using hv
end ops
end Go.Proofs.YtbgfgnddogfpcaaGreat
