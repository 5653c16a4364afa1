/-
 Slices that the call makes itself: Slices laid out in the text;
-/
import Derived.Test.YtbgfgnddogfpcaaGreatSmall
namespace Go.Proofs.YtbgfgnddogfpcaaGreat
open Go.RowKit

section mem
variable {P:Program} {o:Oper} {l:Fr} {L:Loc} {u:AV}

variable {n:Nat} {x:Operand}
theorem Jh {cs:AD} (ho:o.op=.extract x n) (hx:ev l x=.tup cs) (hn:cs[n]? = some u):Gy P o l L (Is u L):=
 Hj fun a w U _ hf=>by
  have h1:=hf.ev x;rw [hx] at h1;obtain⟨vs,he,hl,hv⟩:=h1.inv_tup;have h0:n < vs.size:=by
   rw [hl];rcases P4 n cs.length with h | h
   .exact h
   .simp [List.getElem?_eq_none h] at hn
  exact⟨vs[n],by simp [execOp,ho,Instr.extract,he,h0],hv n u _ hn (by simp [h0])⟩

/-! ### The nil slice that is going to be appended to -/
theorem rC (i E k:Nat) (ho:o.op=.assign x) (hx:ev l x=.sc (.slice none 0 0)) (hi:lk L i=none):Gy P o l L (Is (.own i 0 k []) ((i,.spare E k 0 0)::L)):=by
 intro a w U K Q h0 hf hK;have hv:=hf.ev x;rw [hx] at hv;have hr:(execOp a.eval o).run P w=.ok (.value (.slice none 0 0)) w:=by simp [execOp,ho,hv.inv_sc]
 unfold Oper.wp;rw [hr];have h6:∀ id,(lk L id).isSome=true->i≠id:=fun id h e=>by subst e; rw [hi] at h; cases h
 have st:Step w U L w (upP U i none) ((i,.spare E k 0 0)::L):=by
  refine⟨rfl,rfl,⟨rfl,Pf⟩,Pf,fun _ _ _=>Iff.rfl,fun b j hs=>⟨⟨hs.lt,hs.seen,fun id ob hid hb=>?_⟩,rfl⟩,fun b hb h5=>⟨rfl,fun id hid e=>?_⟩,fun id t cs hid=>?_,fun id t cs hid=>?_,fun id t n cs hid=>?_,fun id t k' ver xs hid=>?_,fun id t k' ver hw hid=>?_⟩
  .rw [Ge] at hid;by_cases e:i=id
   .subst e; simp [upP] at hb
   .rw [if_neg e] at hid; simp only [upP,if_neg (Ne.symm e)] at hb; exact hs.kept id ob hid hb
  .rw [Ge] at hid;by_cases e':i=id
   .subst e'; simp [upP] at e
   .rw [if_neg e'] at hid; simp only [upP,if_neg (Ne.symm e')] at e; exact h5 id hid e
  all_goals
   have e:=h6 id (by rw [hid]; rfl)
  .exact⟨by simp [upP,Ne.symm e],cs,by rw [Ge,if_neg e]; exact hid⟩
  .exact⟨by simp [upP,Ne.symm e],cs,by rw [Ge,if_neg e]; exact hid⟩
  .exact⟨by simp [upP,Ne.symm e],n,cs,by rw [Ge,if_neg e]; exact hid⟩
  .exact⟨ver,xs,by rw [Ge,if_neg e]; exact hid,Pf,fun _=>⟨rfl,by simp [upP,Ne.symm e],fun _ _=>rfl⟩⟩
  .exact⟨ver,hw,by rw [Ge,if_neg e]; exact hid,Pf,fun _=>⟨rfl,by simp [upP,Ne.symm e],fun _ _=>rfl⟩⟩
 refine hK _ _ _ w (upP U i none) ⟨rfl,rfl⟩ ⟨h0.hid,fun id b hid hb=>?_,fun id b j hid hb=>?_,fun id id' b h1 h2 h3 h4=>?_,fun id ob hid=>?_⟩ st ?_
 .rw [Ge] at hid;by_cases e:i=id
  .subst e; simp [upP] at hb
  .rw [if_neg e] at hid; simp only [upP,if_neg (Ne.symm e)] at hb; exact h0.bnd id b hid hb
 .rw [Ge] at hid;by_cases e:i=id
  .subst e; simp [upP] at hb
  .rw [if_neg e] at hid; simp only [upP,if_neg (Ne.symm e)] at hb; exact h0.apart id b j hid hb
 .by_cases e:i=id
  .subst e; simp [upP] at h3
  .by_cases e':i=id'
   .subst e'; simp [upP] at h4
   .rw [Ge,if_neg e] at h1;rw [Ge,if_neg e'] at h2;simp only [upP,if_neg (Ne.symm e)] at h3;simp only [upP,if_neg (Ne.symm e')] at h4;exact h0.inj id id' b h1 h2 h3 h4
 .rw [Ge] at hid;by_cases e:i=id
  .subst e; simp at hid; subst hid; exact .inl ⟨by simp [upP],rfl⟩
  .rw [if_neg e] at hid;simp only [upP,if_neg (Ne.symm e)];exact(h0.obj id ob hid).step st (fun b hb=>rfl)
 .exact .own (.nil (Nat.zero_le _)) ⟨E,0,0,by rw [Ge,if_pos rfl],Pf,fun _=>⟨rfl,by simp [Value.ownBlock,upP],[],⟨by simp,.inl ⟨rfl,rfl⟩⟩,fun j u hu=>by simp [flat] at hu⟩⟩

theorem kS:∀ {ys:AD},(∀ y∈ys,y.BI=true)->∀ {c:AV},c∈flat ys->c.isCell=true
 | y::r,h,c,hc=>by
  simp only [flat,Ps] at hc;rcases hc with hc | hc
  .have:=h y (by simp);simp only [AV.BI,List.all_eq_true] at this;exact this c hc
  .exact kS (fun y hy=>h y (by simp [hy])) hc

/-! ### append -/
theorem pY (w:World) (t ty e:TypeId) (i:TypeInfo) (z:Value) (size:Nat) (ht:P.underlying t=some (.slice e)) (hi:P.info? e=some i) (hz:i.zero=some z)
  (h7:i.size=size) (a5:z.cells.size=size) (b1:0 < size)
  (v:Value) (n:Nat) (xs:AK) (h0:w.ownsRow 0 e size v n xs)
  (ao:Option Addr) (m c:Nat) (news:AK) (hl:news.length=m*size) (h8:∀ (ad:Addr) (j:Nat) u,ao=some ad->news[j]? = some u->w.cell? (ad.add j)=some u) (a6:ao=none->m=0) (h1:∀ u∈news,u.oneCell'=true)
  (a0:n+m<=maxLen) (h5:(n+m)*i.bytes<=140737488355328) :
  ∃ v' w',(Builtin.append_ #[t,t] ty #[v,.slice ao m c]).run P w=.ok v' w'/\w'.ownsRow 0 e size v' (n+m) (xs++news)/\w'.os=w.os/\w'.tape=w.tape/\(w'.output=w.output/\w.drawn<=w'.drawn)/\w.heap.size<=w'.heap.size /\
   (∀ b,b < w.heap.size->v.ownBlock≠some b->w'.heap[b]? = w.heap[b]?) /\
   (v'.ownBlock=v.ownBlock\/(v'.ownBlock=some w.heap.size/\w.heap.size < w'.heap.size/\∀ b,b < w.heap.size->w'.heap[b]? = w.heap[b]?)):=by
 subst h7;have a7:n+m<=9223372036854775807:=by simp only [maxLen] at a0; omega
 have h3:(xs++news).length=(n+m)*i.size:=by rw [Pn,h0.1,hl,Nat.add_mul]
 have grown:∀ (old:Nat),old < n+m ->
   (w.drew.alloc (.cells (xs.toArray++news.toArray++Builtin.zeroCells z.cells (grownCap w (n+m) old e - (n+m))) e)).ownsRow 0 e i.size
    (.slice (some ⟨w.heap.size,0,none⟩) (n+m) (grownCap w (n+m) old e)) (n+m) (xs++news):=by
  intro old ho;have a8:=grownCap_ge w (n+m) old e;have h6:grownCap w (n+m) old e<=maxLen:=grownCap_le_maxLen w (n+m) old e a0;refine⟨h3,.inr ⟨w.heap.size,_,_,rfl,Nat.zero_le _,heap_alloc_new w.drew _,a8,h6,?_,?_⟩⟩
  .simp only [Array.size_append,List.size_toArray,size_zeroCells,a5,h0.1,hl,<- Nat.add_mul];congr 1;omega
  .simp only [Array.toList_append,List.append_assoc];rw [<- List.append_assoc,<- h3];exact List.take_left
 have same:∀ (o:Obj) b,b < w.heap.size->(w.drew.alloc o).heap[b]? = w.heap[b]? := fun o b hb=>Ju w.drew o hb;by_cases a1:m=0
 ·-- nothing is appended
  subst a1;have hn:news=[]:=P1 (by simpa using hl);subst hn;refine⟨v,w,?_,by simpa using h0,rfl,rfl,⟨rfl,Pf⟩,Pf,fun _ _ _=>rfl,.inl rfl⟩;rcases h0.2 with ⟨rfl,rfl⟩ | ⟨g,cap,cur,rfl,_,_,a2,_⟩
  .cases ao <;> simp [Builtin.append_,run_underlying ht,sizeOf,typeInfo,hi,Builtin.lenOf,Builtin.firstCells,loadCells,loadCellsFrom]
  .cases ao <;> simp [Builtin.append_,run_underlying ht,sizeOf,typeInfo,hi,Builtin.lenOf,Builtin.firstCells,a2,storeCells,loadCells,loadCellsFrom]
 .cases ao with
  | none=>exact absurd (a6 rfl) a1
  | some a=>
   have h2:∀ j u,news[j]? = some u->w.cell? (a.add j)=some u:=fun j u h=>h8 a j u rfl h;rcases h0.2 with ⟨rfl,rfl⟩ | ⟨g,cap,cur,rfl,a9,hg,a2,h6,b0,h9⟩
   .have hx:xs=[]:=P1 (by simpa using h0.1);subst hx;have hr:=run_append_nil (P:=P) w t ty e i z ht hi hz a m c news hl h2 (by omega) (by omega) (by have hb:=h5; simp only [Nat.zero_add] at hb; omega);have a3:=grown 0 (by omega);simp only [Nat.zero_add,List.nil_append,Array.empty_append] at a3 ⊢;exact⟨_,_,hr,a3,rfl,rfl,⟨rfl,Nat.le_succ _⟩,by simp,fun b hb _=>same _ b hb,.inr ⟨rfl,by simp,fun b hb=>same _ b hb⟩⟩
   .by_cases h4:n+m<=cap
    .have a4:n*i.size+news.length<=cur.size:=by rw [hl,b0,<- Nat.add_mul]; exact Nat.mul_le_mul_right _ h4
     have hr:=run_append_room (P:=P) w t ty e i ht hi g n cap cur hg a m c news hl h2 h1 h4 a4;refine⟨_,_,hr,⟨h3,.inr ⟨g,cap,_,rfl,a9,setRow_heap w g cur _ e _ hg,h4,h6,?_,?_⟩⟩,rfl,rfl,⟨rfl,Pf⟩,by simp,fun k _ hk=>setRow_other w g k _ (fun e=>hk (by simp [Value.ownBlock,e])),.inl rfl⟩
     .simp only [List.size_toArray,Pn,List.length_take,List.length_drop,Array.length_toList];omega
     .rw [h9,<- h3];exact List.take_left
    .have holds:∀ j u,xs[j]? = some u->w.cell? ((⟨g,0,none⟩:Addr).add j)=some u:=h0.cells (g:=g) rfl;have hr:=run_append_grow (P:=P) w t ty e i z ht hi hz ⟨g,0,none⟩ n cap xs h0.1 holds a m c news hl h2 (by omega) (by omega) (growslice_fits (by omega) h5);exact⟨_,_,hr,grown cap (by omega),rfl,rfl,⟨rfl,Nat.le_succ _⟩,by simp,fun b hb _=>same _ b hb,.inr ⟨rfl,by simp,fun b hb=>same _ b hb⟩⟩

variable {k t:Nat} {v:Value} {w:World}
theorem lO {vals:AK} (h:w.ownsRow 0 t k v n vals) {b j:Nat} (hb:v.ownBlock=some b) (hj:j < n*k):w.cell? ⟨b,j,none⟩=vals[j]? := by
 have h1:=h.1;have:=h.cells hb j;have h0:j < vals.length:=by omega
 have h2:=this vals[j] (by simp [h0]);rw [Addr.add_lit,Nat.zero_add] at h2;rw [h2]; simp [h0]

theorem zP {vals:AK} (h:w.ownsRow 0 t k v n vals) {b:Nat} (hb:v.ownBlock=some b):∃ vs,w.heap[b]? = some (.cells vs t (0,0)):=by
 rcases h.2 with ⟨rfl,_⟩ | ⟨g,cap,cur,rfl,_,hg,_⟩
 .cases hb
 .cases hb; exact⟨cur,hg⟩

theorem ownsRow_form {vals:AK} (h:w.ownsRow 0 t k v n vals):(v=.slice none 0 0/\n=0/\v.ownBlock=none)\/∃ b cap cur,v=.slice (some ⟨b,0,none⟩) n cap/\v.ownBlock=some b/\n<=cap/\cap<=maxLen/\w.heap[b]? = some (.cells cur t (0,0))/\n*k<=cur.size:=by
 rcases h.2 with ⟨rfl,rfl⟩ | ⟨g,cap,cur,rfl,_,hg,h0,h1,h2,_⟩
 .exact .inl ⟨rfl,rfl,rfl⟩
 .exact .inr ⟨g,cap,cur,rfl,rfl,h0,h1,hg,by rw [h2]; exact Nat.mul_le_mul_right _ h0⟩

variable {ys:AD}
theorem D.vals {S:Nat->Nat->Prop} {ao:Option Addr} {m c:Nat} (h:D w S (.list k ys) (.slice ao m c)) :
  m=ys.length/\(∀ y∈ys,y.cells.length=k)/\(ao=none->m=0)/\∃ vals:AK,vals.length=(flat ys).length/\(∀ (ad:Addr) (j:Nat) u,ao=some ad->vals[j]? = some u->w.cell? (ad.add j)=some u)/\∀ (j:Nat) u,(flat ys)[j]? = some u->∃ x,vals[j]? = some x/\D w S u x:=by
 cases h with
 | nil=>exact⟨rfl,by simp,fun _=>rfl,[],rfl,fun ad j u _ h=>by simp at h,fun j u h=>by simp [flat] at h⟩
 | @list _ b off cap _ vals h0 hm hk hS h=>
  refine⟨rfl,hk,(fun e=>by cases e),(List.range (flat ys).length).map vals,by simp,fun ad j u e hu=>?_,fun j u hu=>?_⟩
  .cases e;have hj:j < (flat ys).length:=by
    rcases P4 j (flat ys).length with h | h
    .exact h
    .simp [List.getElem?_eq_none (show ((List.range (flat ys).length).map vals).length<=j by simpa using h)] at hu
   simp [hj] at hu;rw [Addr.add_lit,<- hu];exact(hS j hj).2
  .have hj:j < (flat ys).length:=by
    rcases P4 j (flat ys).length with h | h
    .exact h
    .simp [List.getElem?_eq_none h] at hu
   exact⟨vals j,by simp [hj],h j u hu⟩

theorem YF {s:Operand} {T E by_ i ver BA:Nat} {kx:Nat} {xs:AD} (ho:o.op=.call { callee:=.builtin .append,args:=#[s,x],argTypes:=#[T,T] }) (hs:ev l s=.own i ver k xs) (hi:lk L i=some (.spare E k ver n)) (hx:Jv (ev l x)=some (kx,ys))
  (hT:sliceB P T E k=true) (hE:Qa P E k by_=true) (hb:(xs.length+ys.length)*by_<=140737488355328) (c7:xs.length+ys.length<=maxLen) (b8:∀ y∈ys,y.BI=true) (hk:kx=k\/ys=[]) (e9:ver < BA) :
  Gy P o l L (Is (.own i BA k (xs++ys)) ((i,.spare E k BA (xs.length+ys.length))::L)):=by
 intro a w U K Q h6 hf hK;have hv:=hf.ev s;rw [hs] at hv;generalize d2:a.eval s=vs at hv;have b1:=(hf.ev x).Jv hx;obtain⟨ao,cap,b9,_⟩:=b1.len;rw [b9] at b1;obtain⟨_,d3,d4,news,c0,b2,c1⟩:=b1.vals;obtain⟨inf,z,e1,e2,e3,e4,e5,e6⟩:=Qa.out hE;cases hv with
 | data h=>cases h
 | own hd hp=>
  obtain⟨t,ver',hw,h1,h2,h3⟩:=hp;rw [hi] at h1;cases h1;obtain⟨rfl,a5,vals,a1,d5⟩:=h3 rfl;have c2:∀ y∈xs,y.cells.length=k:=by
   cases hd with
   | nil=>simp
   | list _ _ _ hk=>exact hk
  have b3:∀ y∈ys,y.cells.length=k:=by
   rcases hk with rfl | rfl
   .exact d3
   .simp
  have c8:∀ u∈news,u.oneCell'=true:=by
   intro u hu;obtain⟨j,hj,e⟩:=List.mem_iff_getElem.1 hu;have c3:j < (flat ys).length:=by omega
   obtain⟨x',h9,a2⟩:=c1 j (flat ys)[j] (by simp [c3]);have:u=x':=by
    have:news[j]? = some u:=by rw [<- e]; simp [hj]
    rw [this] at h9; exact Pc h9
   subst this;have d6:((flat ys)[j]).isCell=true:=kS b8 (List.getElem_mem c3);exact(V.data (L:=L) (U:=U) a2).cell d6
  have c4:(flat ys).length=ys.length*k:=J2 b3;obtain⟨v',w',hr,h7,d7,d8,c9,a9,a3,h8⟩:=pY (P:=P) w T o.type E inf z k (sliceB.out hT).1 e1 e4 e2 e5 e6 vs xs.length vals a1 ao ys.length cap news (by rw [c0,c4]) (fun ad j u h h'=>b2 ad j u h h') d4 c8 c7 (by rw [e3]; exact hb);have d0:(execOp a.eval o).run P w=.ok (.value v') w':=by
   simp [execOp,ho,resolve,invoke,builtin,d2,b9,hr]
  unfold Oper.wp;rw [d0];have c5:vals.length=xs.length*k:=a1.1;have a6:∀ id b,(lk L id).isSome=true->U id=some b->i≠id->w'.heap[b]? = w.heap[b]? := by
   intro id b h1 h2 d9;refine a3 b (h6.bnd id b h1 h2) (fun e=>d9 ?_);exact h6.inj i id b (by rw [hi]; rfl) h1 (a5 ▸ e) h2
  -- the step
  have st:Step w U L w' (upP U i v'.ownBlock) ((i,.spare E k BA (xs.length+ys.length))::L):=by
   refine⟨d7,d8,c9,a9,fun _ _ _=>Iff.rfl,fun b j a0=>?_,fun b hb a7=>⟨a3 b hb (fun e=>a7 i (by rw [hi]; rfl) (a5 ▸ e)),fun id hid e=>?_⟩,fun id t cs hid=>?_,fun id t cs hid=>?_,fun id t n cs hid=>?_,fun id t k' vr zs hid=>?_,fun id t k' vr hw hid=>?_⟩
   .refine⟨⟨P0 a0.lt a9,a0.seen,fun id ob hid hb=>?_⟩,?_⟩
    .rw [Ge] at hid;by_cases e:i=id
     .subst e;rw [if_pos rfl] at hid;cases hid;simp only [upP,if_true] at hb;show j < (xs.length+ys.length)*k
      rcases h8 with hw1 | ⟨hw1,_⟩
      .rw [hw1,a5] at hb;have:j < xs.length*k:=a0.kept i _ hi hb;rw [Nat.add_mul]; omega
      .rw [hw1] at hb;have:=a0.lt;cases hb; omega
     .rw [if_neg e] at hid; simp only [upP,if_neg (Ne.symm e)] at hb; exact a0.kept id ob hid hb
    .by_cases e:vs.ownBlock=some b
     .have hj:j < xs.length*k:=a0.kept i _ hi (a5 ▸ e);rcases h8 with hw1 | ⟨_,_,e0⟩
      .obtain⟨_,b4⟩:=zP a1 e;obtain⟨_,b5⟩:=zP h7 (hw1.trans e);exact Ga8 (by rw [lO h7 (hw1.trans e) (by rw [Nat.add_mul]; omega),lO a1 e hj,Ph (by omega)]) (by rw [lO a1 e hj,Pb (by omega)]; rfl) b4 b5
      .exact Jc (w:=w) (e0 b a0.lt)
     .exact Jc (w:=w) (a3 b a0.lt e)
   .rw [Ge] at hid;by_cases e':i=id
    .subst e';simp only [upP,if_true] at e;rcases h8 with hw1 | ⟨hw1,_⟩
     .exact a7 i (by rw [hi]; rfl) (a5 ▸ (hw1 ▸ e))
     .rw [hw1] at e; cases e; omega
    .rw [if_neg e'] at hid; simp only [upP,if_neg (Ne.symm e')] at e; exact a7 id hid e
   .have e:i≠id:=fun e=>by subst e; rw [hi] at hid; cases hid
    exact⟨by simp [upP,Ne.symm e],cs,by rw [Ge,if_neg e]; exact hid⟩
   .have e:i≠id:=fun e=>by subst e; rw [hi] at hid; cases hid
    exact⟨by simp [upP,Ne.symm e],cs,by rw [Ge,if_neg e]; exact hid⟩
   .have e:i≠id:=fun e=>by subst e; rw [hi] at hid; cases hid
    exact⟨by simp [upP,Ne.symm e],n,cs,by rw [Ge,if_neg e]; exact hid⟩
   .have e:i≠id:=fun e=>by subst e; rw [hi] at hid; cases hid
    exact⟨vr,zs,by rw [Ge,if_neg e]; exact hid,Pf,fun _=>⟨rfl,by simp [upP,Ne.symm e],fun b hb=>bK (a6 id b (by rw [hid]; rfl) hb e)⟩⟩
   .rw [Ge];by_cases e:i=id
    .subst e;rw [hi] at hid; cases hid;exact⟨BA,_,if_pos rfl,by omega,fun e=>by omega⟩
    .exact⟨vr,hw,by rw [if_neg e]; exact hid,Pf,fun _=>⟨rfl,by simp [upP,Ne.symm e],fun b hb=>a6 id b (by rw [hid]; rfl) hb e⟩⟩
  have fresh:∀ b,v'.ownBlock=some b->(∃ j,U i=some b/\j=b)\/b=w.heap.size:=by
   intro b hb;rcases h8 with hw1 | ⟨hw1,_⟩
   .exact .inl ⟨b,by rw [<- a5,<- hw1,hb],rfl⟩
   .rw [hw1] at hb; exact .inr (Pc hb).symm
  have vlt:∀ b,v'.ownBlock=some b->b < w'.heap.size:=by
   intro b hb;rcases ownsRow_form h7 with ⟨_,_,h0⟩ | ⟨b',cap',cur,_,a4,_,_,hg,_⟩
   .rw [h0] at hb; cases hb
   .rw [a4] at hb; cases hb;exact(Nz hg).1
  refine hK _ _ v' w' (upP U i v'.ownBlock) ⟨rfl,rfl⟩ ⟨fun b j h=>P0 (h6.hid b j h) a9,fun id b hid hb=>?_,fun id b j hid hb hh=>?_,fun id id' b h1 h2 h3 h4=>?_,fun id ob hid=>?_⟩ st ?_
  .rw [Ge] at hid;by_cases e:i=id
   .subst e; simp only [upP,if_true] at hb; exact vlt b hb
   .rw [if_neg e] at hid; simp only [upP,if_neg (Ne.symm e)] at hb; exact P0 (h6.bnd id b hid hb) a9
  .rw [Ge] at hid;by_cases e:i=id
   .subst e;simp only [upP,if_true] at hb;rcases fresh b hb with ⟨_,h1,_⟩ | rfl
    .exact h6.apart i b j (by rw [hi]; rfl) h1 hh
    .have:=h6.hid _ _ hh; omega
   .rw [if_neg e] at hid; simp only [upP,if_neg (Ne.symm e)] at hb; exact h6.apart id b j hid hb hh
  .have key:∀ id,i≠id->(lk ((i,Jb.spare E k BA (xs.length+ys.length))::L) id).isSome=true->(upP U i v'.ownBlock) id=some b->v'.ownBlock=some b->False:=by
    intro id e h1 h3 hb;rw [Ge,if_neg e] at h1;simp only [upP,if_neg (Ne.symm e)] at h3;rcases fresh b hb with ⟨_,h5,_⟩ | rfl
    .exact e (h6.inj i id b (by rw [hi]; rfl) h1 h5 h3)
    .have:=h6.bnd id _ h1 h3; omega
   by_cases e:i=id
   .by_cases e':i=id'
    .rw [<- e,e']
    .subst e; simp only [upP,if_true] at h3; exact(key id' e' h2 h4 h3).elim
   .by_cases e':i=id'
    .subst e'; simp only [upP,if_true] at h4; exact(key id e h1 h3 h4).elim
    .rw [Ge,if_neg e] at h1;rw [Ge,if_neg e'] at h2;simp only [upP,if_neg (Ne.symm e)] at h3;simp only [upP,if_neg (Ne.symm e')] at h4;exact h6.inj id id' b h1 h2 h3 h4
  .rw [Ge] at hid;by_cases e:i=id
   .subst e;rw [if_pos rfl] at hid; cases hid;simp only [upP,if_true];rcases ownsRow_form h7 with ⟨_,h0,e7⟩ | ⟨b',cap',cur,_,a4,_,_,hg,b6⟩
    .exact .inl ⟨e7,h0⟩
    .exact .inr ⟨b',a4,cur,hg,b6⟩
   .rw [if_neg e] at hid;simp only [upP,if_neg (Ne.symm e)];exact(h6.obj id ob hid).step st (fun b hb=>a6 id b (by rw [hid]; rfl) hb e)
  .have b0:∀ (j:Nat) u,(flat (xs++ys))[j]? = some u->∃ x,(vals++news)[j]? = some x/\D w' (Hs w' (upP U i v'.ownBlock) ((i,.spare E k BA (xs.length+ys.length))::L)) u x:=by
    intro j u hu;rw [dU] at hu;have e8:(flat xs).length=xs.length*k:=J2 c2;rcases P4 j (flat xs).length with hj | hj
    .rw [Ph hj] at hu;obtain⟨x',h9,a2⟩:=d5 j u hu;exact⟨x',by rw [Ph (by omega)]; exact h9,a2.mono st.AX⟩
    .rw [Pg hj] at hu;obtain⟨x',h9,a2⟩:=c1 _ u hu;refine⟨x',?_,a2.mono st.AX⟩;rw [Pg (by omega),c5,<- e8]; exact h9
   refine .own ?_ ⟨E,BA,xs.length+ys.length,by rw [Ge,if_pos rfl],Pf,fun _=>⟨by simp,by simp [upP],vals++news,by simpa using h7,b0⟩⟩;have b7:∀ y∈xs++ys,y.cells.length=k:=fun y hy=>(Ps.1 hy).elim (c2 y) (b3 y);have d1:(flat (xs++ys)).length=(xs.length+ys.length)*k:=by rw [J2 b7]; simp
   rcases ownsRow_form h7 with ⟨rfl,h0,_⟩ | ⟨b',cap',cur,rfl,a4,b4,b5,hg,b6⟩
   .have:xs++ys=[]:=P1 (by rw [Pn]; exact h0);rw [this]; exact .nil (Nat.zero_le _)
   .have hD:D w' (Hs w' (upP U i (Value.slice (some ⟨b',0,none⟩) (xs.length+ys.length) cap').ownBlock) ((i,.spare E k BA (xs.length+ys.length))::L)) (.list k (xs++ys)) (.slice (some ⟨b',0,none⟩) (xs++ys).length cap'):=?_
    .rw [Pn] at hD; exact hD
    refine .list (fun j=>(vals++news).getD j undef) (by rw [Pn]; exact b4) b5 b7 (fun j hj=>?_) (fun j u hu=>?_)
    .rw [d1] at hj;have c6:j < (vals++news).length:=by rw [Pn,c5,c0,c4,<- Nat.add_mul]; exact hj
     refine⟨⟨by have:=vlt b' a4; exact this,?_,fun id ob hid a8=>?_⟩,?_⟩
     .show ¬ U.hid b' _
      intro hh;rcases fresh b' a4 with ⟨_,h5,_⟩ | rfl
      .exact h6.apart i b' _ (by rw [hi]; rfl) h5 hh
      .have:=h6.hid _ _ hh; omega
     .rw [Ge] at hid;by_cases e:i=id
      .subst e; rw [if_pos rfl] at hid; cases hid;show 0+j < (xs.length+ys.length)*k
       omega
      .rw [if_neg e] at hid;simp only [upP,if_neg (Ne.symm e)] at a8;exfalso;rcases fresh b' a4 with ⟨_,h5,_⟩ | rfl
       .exact e (h6.inj i id b' (by rw [hi]; rfl) (by rw [hid]; rfl) h5 a8)
       .have:=h6.bnd id _ (by rw [hid]; rfl) a8; omega
     .rw [Nat.zero_add,lO h7 rfl hj];rw [Pb c6];simp only [List.getD,Pb c6,Option.getD_some]
    .obtain⟨x',h9,a2⟩:=b0 j u hu;simp only [List.getD,h9,Option.getD_some];exact a2
theorem Hab {s:Operand} {T E by_ i ver:Nat} {kx:Nat} {xs:AD} (ho:o.op=.call { callee:=.builtin .append,args:=#[s,x],argTypes:=#[T,T] }) (hs:ev l s=.own i ver k xs) (hi:lk L i=some (.spare E k ver n)) (hx:Jv (ev l x)=some (kx,ys))
  (hT:sliceB P T E k=true) (hE:Qa P E k by_=true) (hb:(xs.length+ys.length)*by_<=140737488355328) (h1:xs.length+ys.length<=maxLen) (h0:∀ y∈ys,y.BI=true) (hk:kx=k\/ys=[]) :
  Gy P o l L (Is (.own i (ver+1) k (xs++ys)) ((i,.spare E k (ver+1) (xs.length+ys.length))::L)):=YF ho hs hi hx hT hE hb h1 h0 hk (Nat.lt_succ_self ver)
end mem

theorem qI {k:Nat}:∀ (us:AD) (j:Nat) (cells:AD),cells.length=(j+us.length)*k->(∀ u∈us,u.cells.length=k/\u.BI=true) ->
  tE (fun i=>some (i*k,k)) cells ((List.range' j us.length).zip us)=some (cells.take (j*k)++flat us)
 | [],j,cells,h,_=>by
  simp only [List.length_nil,Nat.add_zero] at h;simp [tE,flat,<- h]
 | u::r,j,cells,h,hu=>by
  obtain⟨h1,h2⟩:=hu u (by simp);have h0:j*k+k<=cells.length:=by
   rw [h]; simp only [Pi];have:(j+1)*k<=(j+(r.length+1))*k:=Nat.mul_le_mul_right k (by omega);rw [Nat.add_mul] at this; omega
  have e1:Nat.beq u.cells.length k=true:=by rw [h1]; exact Nat.beq_refl k
  have e2:Nat.ble (j*k+k) cells.length=true:=by simpa using h0
  simp only [Pi,List.range'_succ,List.zip_cons_cons,tE,e1,e2,h2,Bool.and_true,cond_true];have ih:=qI (k:=k) r (j+1) (cells.take (j*k)++u.cells++cells.drop (j*k+k)) (by
   simp only [Pn,List.length_take,List.length_drop,h1];rw [h] at h0 ⊢; simp only [Pi] at h0 ⊢;rw [Nat.min_eq_left (by omega)];have:(j+1+r.length)*k=(j+(r.length+1))*k:=by congr 1; omega
   omega) (fun y hy=>hu y (by simp [hy]))
  rw [ih];congr 1;have hl:(cells.take (j*k)++u.cells).length=(j+1)*k:=by simp [h1]; rw [Nat.add_mul]; omega
  rw [List.take_append_of_le_length (by rw [hl]; exact Pf),List.take_of_length_le (by rw [hl]; exact Pf)];simp [flat]

def lR (k:Nat):AD->Bool
 | []=>true
 | u::r=>Nat.beq u.cells.length k&&u.BI&&lR k r
theorem kT {k:Nat}:∀ {us:AD},lR k us=true->∀ u∈us,u.cells.length=k/\u.BI=true
 | u::r,h,v,hv=>by
  simp only [lR,Pp] at h;rcases Pv.1 hv with rfl | hv
  .exact⟨P2 h.1.1,h.1.2⟩
  .exact kT h.2 v hv

theorem G4c {ok:Nat->Bool} {u:AV} (h:u.refs ok=true):∀ c∈u.cells,c.refs ok=true:=by
 intro c hc;cases u with
 | agg cs=>exact Yz (by simpa [AV.refs] using h) c (by simpa [AV.cells] using hc)
 | _=>simp [AV.cells] at hc; subst hc; exact h

theorem pK {ok:Nat->Bool}:∀ {us:AD},(∀ u∈us,u.refs ok=true)->∀ c∈flat us,c.refs ok=true
 | u::r,h,c,hc=>by
  simp only [flat,Ps] at hc;rcases hc with hc | hc
  .exact G4c (h u (by simp)) c hc
  .exact pK (fun y hy=>h y (by simp [hy])) c hc

section lits
variable {P:Program} {o:Oper} {l:Fr} {L:Loc}

theorem D.newRow {w:World} {U:Gx} {L:Loc} {k:Nat} {xs:AD} {vs:Array Value} {E:TypeId} (h0:Sat w U L) (hk:∀ x∈xs,x.cells.length=k) (hm:xs.length<=maxLen) (hs:vs.size=(flat xs).length)
  (h:∀ (j:Nat) u v,(flat xs)[j]? = some u->vs[j]? = some v->D w (Hs w U L) u v) :
  D (w.alloc (.cells vs E)) (Hs (w.alloc (.cells vs E)) U L) (.list k xs) (.slice (some ⟨w.heap.size,0,none⟩) xs.length xs.length):=by
 refine .list (fun j=>vs.getD j undef) (Pf) hm hk (fun j hj=>⟨Hs.new h0 _ _,?_⟩) (fun j u hu=>?_)
 .rw [World.cell?_alloc_new];rw [Nat.zero_add,Array.getD_eq_getD_getElem?,Array.getElem?_eq_getElem (by omega)];rfl
 .have hj:j < (flat xs).length:=by
   rcases P4 j (flat xs).length with h | h
   .exact h
   .simp [List.getElem?_eq_none h] at hu
  rw [Array.getD_eq_getD_getElem?,Array.getElem?_eq_getElem (by omega)];exact(h j u _ hu (by simp [Array.getElem?_eq_getElem (show j < vs.size by omega)])).mono (Step.new h0 _).AX

theorem Hv {T E k n:Nat} {parts:List (Nat×Operand)} {xs:AD} (ho:o.op=.buildSlice T n parts.toArray) (hd:eV l (parts.map (·.2)) xs) (hT:sliceB P T E k=true) (hz:Qx P E k=true)
  (h5:parts.map (·.1)=List.range n) (hc:lR k xs=true) (hn:Nat.ble (n*k) 16777216=true) (a4:Nat.blt 0 k=true):Gy P o l L (Is (.list k xs) L):=by
 intro a w U K Q h3 hf hK;have a3:=hd.length;have a5:n=xs.length:=by
  have:=congrArg List.length h5;simp only [Pr,List.length_range] at this a3;omega
 subst a5;have a0:=kT hc;have a6:∀ x∈xs,x.cells.length=k:=fun x hx=>(a0 x hx).1;have h7:∀ x∈xs,x.BF=true:=by
  intro x hx;obtain⟨j,hj,e⟩:=List.mem_iff_getElem.1 hx;have a7:j < (parts.map (·.2)).length:=by omega
  exact e ▸ (hd.get (j:=j) (x:=(parts.map (·.2))[j]) (u:=xs[j]) (Pb a7) (Pb hj)).2
 have h8:=qI (k:=k) xs 0 (List.replicate (xs.length*k) .AL) (by simp) a0;obtain⟨inf,z,hi,a8,b2⟩:=Qx.out hz
 let zs:Array Value:=if xs.length*k=0 then #[] else z.cells
 obtain⟨vs',e1,e2,e3⟩:=nK (w:=w) (U:=U) (L:=L) (qs:=parts.map fun p=>(p.1,a.eval p.2)) (vs:=(Array.range (xs.length*k)).map (zs[· % zs.size]!)) h8 (by
   have:=congrArg List.length h5;simp only [Pr,List.length_range] at this;simp [this]) (fun j p q hp hq=>by
   simp only [Pj,Option.map_eq_some_iff] at hq;obtain⟨y,hy,rfl⟩:=hq;rw [List.getElem?_zip_eq_some] at hp;obtain⟨a9,b0⟩:=hp;have h4:(parts.map (·.1))[j]? = (List.range xs.length)[j]? := by rw [h5]
   simp only [Pj,hy,Option.map_some] at h4;rw [List.range_eq_range',a9] at h4;have:=(hd.get (j:=j) (x:=y.2) (u:=p.2) (by rw [Pj,hy]; rfl) b0);have hv:=(hf.ev y.2).plain;rw [this.1] at hv;exact⟨(Pc h4).symm,hv⟩) (by simp) (fun j u v hu _=>by
   have:=List.eq_of_mem_replicate (Pd hu);subst this; exact .AL)
 have h9:(List.take (0*k) (List.replicate (xs.length*k) AV.AL))++flat xs=flat xs:=by simp
 rw [h9] at e2 e3;have hr:(execOp a.eval o).run P w=.ok (.value (.slice (some ⟨w.heap.size,0,none⟩) xs.length xs.length)) (w.alloc (.cells vs' E)):=by
  have a1:=Q8 (sliceB.out hT).2 w;have b1:xs.length*k<=16777216:=by simpa using hn
  have a2:¬ (xs.length*k > 2 ^ 24):=by
   have:(2:Nat) ^ 24=16777216:=by decide
   omega
  have hp:(parts.toArray.map fun(x:Nat×Operand)=>(x.1,a.eval x.2)).toList=parts.map fun p=>(p.1,a.eval p.2):=by simp
  by_cases h0:xs.length*k=0
  .have h6:zs=#[]:=by simp only [zs,if_pos h0]
   rw [h6] at e1;simp only [execOp,ho,Instr.buildSlice,underlying,(sliceB.out hT).1,run_program,Sem.run_bind,Result.andThen_ok,a1,a2,if_false,Sem.run_pure,if_pos h0,hp,e1,newRow,run_newObj];rfl
  .have h6:zs=z.cells:=by simp only [zs,if_neg h0]
   rw [h6] at e1;simp only [execOp,ho,Instr.buildSlice,underlying,(sliceB.out hT).1,run_program,Sem.run_bind,Result.andThen_ok,a1,a2,if_false,Sem.run_pure,if_neg h0,zeroValue,typeInfo,hi,a8,hp,e1,newRow,run_newObj];rfl
 unfold Oper.wp;rw [hr];exact hK _ _ _ _ U ⟨rfl,rfl⟩ (h3.new _) (Step.new h3 _) (.data (D.newRow h3 a6 (by
  have h1:xs.length*k<=16777216:=by simpa using hn
  have h2:0 < k:=by simpa [Nat.blt_eq] using a4
  have:xs.length*1<=xs.length*k:=Nat.mul_le_mul_left _ h2;simp only [maxLen]; omega) e2 (fun j u v hu hv=>(e3 j u v hu hv).toD (pK h7 u (Pd hu)))))
end lits
end Go.Proofs.YtbgfgnddogfpcaaGreat
