/-
 Slices that the call makes itself: the nil slice to be appended to,append,literals; parts of tuples; slices of slices. Slices laid out in the text; slices of slices.
-/
import Derived.Test.YtidpfkmbfgihlaaGreatSmall
namespace Go.Proofs.YtidpfkmbfgihlaaGreat
open Go.RowKit

section mem
variable {P:Program} {o:Oper} {l:Fr} {L:Loc} {u:AV}

theorem Gz {x:Operand} {n:Nat} {cs:List AV} (ho:o.op=.extract x n) (hx:ev l x=.tup cs) (hn:cs[n]? = some u):H0 P o l L (Is u L):=
 Hi fun a w β _ hf=>by
  have h1:=hf.ev x
  rw [hx] at h1
  obtain⟨vs,he,hl,hv⟩:=h1.inv_tup
  have hlt:n < vs.size:=by
   rw [hl]
   rcases Nat.lt_or_ge n cs.length with h | h
   ·exact h
   ·simp [List.getElem?_eq_none h] at hn
  exact⟨vs[n],by simp [execOp,ho,Instr.extract,he,hlt],hv n u _ hn (by simp [hlt])⟩

/-! ### The nil slice that is going to be appended to -/
theorem G57 (i E k:Nat) {x:Operand} (ho:o.op=.assign x) (hx:ev l x=.sc (.slice none 0 0)) (hi:lk L i=none):H0 P o l L (Is (.own i 0 k []) ((i,.spare E k 0 0)::L)):=by
 intro a w β K Q hsat hf hK
 have hv:=hf.ev x
 rw [hx] at hv
 have hr:(execOp a.eval o).run P w=.ok (.value (.slice none 0 0)) w:=by simp [execOp,ho,hv.inv_sc]
 unfold Oper.wp
 rw [hr]
 have hne:∀ id,(lk L id).isSome=true→i≠id:=fun id h e=>by subst e; rw [hi] at h; cases h
 have st:Step w β L w (upP β i none) ((i,.spare E k 0 0)::L):=by
  refine⟨rfl,rfl,⟨rfl,Nat.le_refl _⟩,Nat.le_refl _,fun _ _ _=>Iff.rfl,fun b j hs=>⟨⟨hs.lt,hs.seen,fun id ob hid hb=>?_⟩,rfl⟩,fun b hb hfar=>⟨rfl,fun id hid e=>?_⟩,fun id t cs hid=>?_,fun id t cs hid=>?_,fun id t n cs hid=>?_,fun id t k' ver xs hid=>?_,fun id t k' ver hw hid=>?_⟩
  ·rw [Gh] at hid
   by_cases e:i=id
   ·subst e; simp [upP] at hb
   ·rw [if_neg e] at hid; simp only [upP,if_neg (Ne.symm e)] at hb; exact hs.kept id ob hid hb
  ·rw [Gh] at hid
   by_cases e':i=id
   ·subst e'; simp [upP] at e
   ·rw [if_neg e'] at hid; simp only [upP,if_neg (Ne.symm e')] at e; exact hfar id hid e
  all_goals
   have e:=hne id (by rw [hid]; rfl)
  ·exact⟨by simp [upP,Ne.symm e],cs,by rw [Gh,if_neg e]; exact hid⟩
  ·exact⟨by simp [upP,Ne.symm e],cs,by rw [Gh,if_neg e]; exact hid⟩
  ·exact⟨by simp [upP,Ne.symm e],n,cs,by rw [Gh,if_neg e]; exact hid⟩
  ·exact⟨ver,xs,by rw [Gh,if_neg e]; exact hid,Nat.le_refl _,fun _=>⟨rfl,by simp [upP,Ne.symm e],fun _ _=>rfl⟩⟩
  ·exact⟨ver,hw,by rw [Gh,if_neg e]; exact hid,Nat.le_refl _,fun _=>⟨rfl,by simp [upP,Ne.symm e],fun _ _=>rfl⟩⟩
 refine hK _ _ _ w (upP β i none) ⟨rfl,rfl⟩ ⟨hsat.hid,fun id b hid hb=>?_,fun id b j hid hb=>?_,fun id id' b h1 h2 h3 h4=>?_,fun id ob hid=>?_⟩ st ?_
 ·rw [Gh] at hid
  by_cases e:i=id
  ·subst e; simp [upP] at hb
  ·rw [if_neg e] at hid; simp only [upP,if_neg (Ne.symm e)] at hb; exact hsat.bnd id b hid hb
 ·rw [Gh] at hid
  by_cases e:i=id
  ·subst e; simp [upP] at hb
  ·rw [if_neg e] at hid; simp only [upP,if_neg (Ne.symm e)] at hb; exact hsat.apart id b j hid hb
 ·by_cases e:i=id
  ·subst e; simp [upP] at h3
  ·by_cases e':i=id'
   ·subst e'; simp [upP] at h4
   ·rw [Gh,if_neg e] at h1
    rw [Gh,if_neg e'] at h2
    simp only [upP,if_neg (Ne.symm e)] at h3
    simp only [upP,if_neg (Ne.symm e')] at h4
    exact hsat.inj id id' b h1 h2 h3 h4
 ·rw [Gh] at hid
  by_cases e:i=id
  ·subst e; simp at hid; subst hid; exact .inl ⟨by simp [upP],rfl⟩
  ·rw [if_neg e] at hid
   simp only [upP,if_neg (Ne.symm e)]
   exact(hsat.obj id ob hid).step st (fun b hb=>rfl)
 ·exact .own (.nil (Nat.zero_le _)) ⟨E,0,0,by rw [Gh,if_pos rfl],Nat.le_refl _,fun _=>⟨rfl,by simp [Value.ownBlock,upP],[],⟨by simp,.inl ⟨rfl,rfl⟩⟩,fun j u hu=>by simp [flat] at hu⟩⟩

theorem Hb7:∀ {ys:List AV},(∀ y∈ys,y.flatOk=true)→∀ {c:AV},c∈flat ys→c.isCell=true
 | y::r,h,c,hc=>by
  simp only [flat,List.mem_append] at hc
  rcases hc with hc | hc
  ·have:=h y (by simp)
   simp only [AV.flatOk,List.all_eq_true] at this
   exact this c hc
  ·exact Hb7 (fun y hy=>h y (by simp [hy])) hc

/-! ### append -/
theorem H6c (w:World) (t ty e:TypeId) (i:TypeInfo) (z:Value) (size:Nat) (ht:P.underlying t=some (.slice e)) (hi:P.info? e=some i) (hz:i.zero=some z)
  (hsize:i.size=size) (hzs:z.cells.size=size) (hsz:0 < size)
  (v:Value) (n:Nat) (xs:List Value) (hown:w.ownsRow 0 e size v n xs)
  (ao:Option Addr) (m c:Nat) (news:List Value) (hl:news.length=m*size) (hnews:∀ (ad:Addr) (j:Nat) u,ao=some ad→news[j]? = some u→w.cell? (ad.add j)=some u) (hno:ao=none→m=0) (h1:∀ u∈news,u.oneCell'=true)
  (h63:n+m≤maxLen) (hbytes:(n+m)*i.bytes≤140737488355328) :
  ∃ v' w',(Builtin.append_ #[t,t] ty #[v,.slice ao m c]).run P w=.ok v' w'∧w'.ownsRow 0 e size v' (n+m) (xs++news)∧w'.os=w.os∧w'.tape=w.tape∧(w'.output=w.output∧w.drawn≤w'.drawn)∧w.heap.size≤w'.heap.size ∧
   (∀ b,b < w.heap.size→v.ownBlock≠some b→w'.heap[b]? = w.heap[b]?) ∧
   (v'.ownBlock=v.ownBlock∨(v'.ownBlock=some w.heap.size∧w.heap.size < w'.heap.size∧∀ b,b < w.heap.size→w'.heap[b]? = w.heap[b]?)):=by
 subst hsize
 have hsmall:n+m≤9223372036854775807:=by simp only [maxLen] at h63; omega
 have hlen:(xs++news).length=(n+m)*i.size:=by rw [List.length_append,hown.1,hl,Nat.add_mul]
 have grown:∀ (old:Nat),old < n+m →
   (w.drew.alloc (.cells (xs.toArray++news.toArray++Builtin.zeroCells z.cells (grownCap w (n+m) old e - (n+m))) e)).ownsRow 0 e i.size
    (.slice (some ⟨w.heap.size,0,none⟩) (n+m) (grownCap w (n+m) old e)) (n+m) (xs++news):=by
  intro old ho
  have hge:=grownCap_ge w (n+m) old e
  have hcm:grownCap w (n+m) old e≤maxLen:=grownCap_le_maxLen w (n+m) old e h63
  refine⟨hlen,.inr ⟨w.heap.size,_,_,rfl,Nat.zero_le _,heap_alloc_new w.drew _,hge,hcm,?_,?_⟩⟩
  ·simp only [Array.size_append,List.size_toArray,size_zeroCells,hzs,hown.1,hl,← Nat.add_mul]
   congr 1
   omega
  ·simp only [Array.toList_append,List.append_assoc]
   rw [← List.append_assoc,← hlen]
   exact List.take_left
 have same:∀ (o:Obj) b,b < w.heap.size→(w.drew.alloc o).heap[b]? = w.heap[b]? := fun o b hb=>Q6 w.drew o hb
 by_cases hm0:m=0
 ·-- nothing is appended
  subst hm0
  have hn:news=[]:=List.eq_nil_of_length_eq_zero (by simpa using hl)
  subst hn
  refine⟨v,w,?_,by simpa using hown,rfl,rfl,⟨rfl,Nat.le_refl _⟩,Nat.le_refl _,fun _ _ _=>rfl,.inl rfl⟩
  rcases hown.2 with ⟨rfl,rfl⟩ | ⟨g,cap,cur,rfl,_,_,hnc,_⟩
  ·cases ao <;> simp [Builtin.append_,run_underlying ht,sizeOf,typeInfo,hi,Builtin.lenOf,Builtin.firstCells,loadCells,loadCellsFrom]
  ·cases ao <;> simp [Builtin.append_,run_underlying ht,sizeOf,typeInfo,hi,Builtin.lenOf,Builtin.firstCells,hnc,storeCells,loadCells,loadCellsFrom]
 ·cases ao with
  | none=>exact absurd (hno rfl) hm0
  | some a=>
   have hnews':∀ j u,news[j]? = some u→w.cell? (a.add j)=some u:=fun j u h=>hnews a j u rfl h
   rcases hown.2 with ⟨rfl,rfl⟩ | ⟨g,cap,cur,rfl,hbg,hg,hnc,hcm,hcs,htake⟩
   ·have hx:xs=[]:=List.eq_nil_of_length_eq_zero (by simpa using hown.1)
    subst hx
    have hr:=run_append_nil (P:=P) w t ty e i z ht hi hz a m c news hl hnews' (by omega) (by omega) (by have hb:=hbytes; simp only [Nat.zero_add] at hb; omega)
    have hgr:=grown 0 (by omega)
    simp only [Nat.zero_add,List.nil_append,Array.empty_append] at hgr ⊢
    exact⟨_,_,hr,hgr,rfl,rfl,⟨rfl,Nat.le_succ _⟩,by simp,fun b hb _=>same _ b hb,.inr ⟨rfl,by simp,fun b hb=>same _ b hb⟩⟩
   ·by_cases hroom:n+m≤cap
    ·have hfit:n*i.size+news.length≤cur.size:=by rw [hl,hcs,← Nat.add_mul]; exact Nat.mul_le_mul_right _ hroom
     have hr:=run_append_room (P:=P) w t ty e i ht hi g n cap cur hg a m c news hl hnews' h1 hroom hfit
     refine⟨_,_,hr,⟨hlen,.inr ⟨g,cap,_,rfl,hbg,setRow_heap w g cur _ e _ hg,hroom,hcm,?_,?_⟩⟩,rfl,rfl,⟨rfl,Nat.le_refl _⟩,by simp,fun k _ hk=>setRow_other w g k _ (fun e=>hk (by simp [Value.ownBlock,e])),.inl rfl⟩
     ·simp only [List.size_toArray,List.length_append,List.length_take,List.length_drop,Array.length_toList]
      omega
     ·rw [htake,← hlen]
      exact List.take_left
    ·have holds:∀ j u,xs[j]? = some u→w.cell? ((⟨g,0,none⟩:Addr).add j)=some u:=hown.cells (g:=g) rfl
     have hr:=run_append_grow (P:=P) w t ty e i z ht hi hz ⟨g,0,none⟩ n cap xs hown.1 holds a m c news hl hnews' (by omega) (by omega) (growslice_fits (by omega) hbytes)
     exact⟨_,_,hr,grown cap (by omega),rfl,rfl,⟨rfl,Nat.le_succ _⟩,by simp,fun b hb _=>same _ b hb,.inr ⟨rfl,by simp,fun b hb=>same _ b hb⟩⟩

theorem Hdf {w:World} {t k n:Nat} {v:Value} {vals:List Value} (h:w.ownsRow 0 t k v n vals) {b j:Nat} (hb:v.ownBlock=some b) (hj:j < n*k):w.cell? ⟨b,j,none⟩=vals[j]? := by
 have hlen:=h.1
 have:=h.cells hb j
 have hlt:j < vals.length:=by omega
 have h2:=this vals[j] (by simp [hlt])
 rw [Addr.add_lit,Nat.zero_add] at h2
 rw [h2]; simp [hlt]

theorem J59 {w:World} {t k n:Nat} {v:Value} {vals:List Value} (h:w.ownsRow 0 t k v n vals) {b:Nat} (hb:v.ownBlock=some b):∃ vs,w.heap[b]? = some (.cells vs t (0,0)):=by
 rcases h.2 with ⟨rfl,_⟩ | ⟨g,cap,cur,rfl,_,hg,_⟩
 ·cases hb
 ·cases hb; exact⟨cur,hg⟩

theorem ownsRow_form {w:World} {t k n:Nat} {v:Value} {vals:List Value} (h:w.ownsRow 0 t k v n vals):(v=.slice none 0 0∧n=0∧v.ownBlock=none)∨∃ b cap cur,v=.slice (some ⟨b,0,none⟩) n cap∧v.ownBlock=some b∧n≤cap∧cap≤maxLen∧w.heap[b]? = some (.cells cur t (0,0))∧n*k≤cur.size:=by
 rcases h.2 with ⟨rfl,rfl⟩ | ⟨g,cap,cur,rfl,_,hg,hnc,hcm,hcs,_⟩
 ·exact .inl ⟨rfl,rfl,rfl⟩
 ·exact .inr ⟨g,cap,cur,rfl,rfl,hnc,hcm,hg,by rw [hcs]; exact Nat.mul_le_mul_right _ hnc⟩

theorem D.vals {w:World} {S:Nat→Nat→Prop} {k:Nat} {ys:List AV} {ao:Option Addr} {m c:Nat} (h:D w S (.list k ys) (.slice ao m c)) :
  m=ys.length∧(∀ y∈ys,y.cells.length=k)∧(ao=none→m=0)∧∃ vals:List Value,vals.length=(flat ys).length∧(∀ (ad:Addr) (j:Nat) u,ao=some ad→vals[j]? = some u→w.cell? (ad.add j)=some u)∧∀ (j:Nat) u,(flat ys)[j]? = some u→∃ x,vals[j]? = some x∧D w S u x:=by
 cases h with
 | nil=>exact⟨rfl,by simp,fun _=>rfl,[],rfl,fun ad j u _ h=>by simp at h,fun j u h=>by simp [flat] at h⟩
 | @list _ b off cap _ vals hcap hm hk hS h=>
  refine⟨rfl,hk,(fun e=>by cases e),(List.range (flat ys).length).map vals,by simp,fun ad j u e hu=>?_,fun j u hu=>?_⟩
  ·cases e
   have hj:j < (flat ys).length:=by
    rcases Nat.lt_or_ge j (flat ys).length with h | h
    ·exact h
    ·simp [List.getElem?_eq_none (show ((List.range (flat ys).length).map vals).length≤j by simpa using h)] at hu
   simp [hj] at hu
   rw [Addr.add_lit,← hu]
   exact(hS j hj).2
  ·have hj:j < (flat ys).length:=by
    rcases Nat.lt_or_ge j (flat ys).length with h | h
    ·exact h
    ·simp [List.getElem?_eq_none h] at hu
   exact⟨vals j,by simp [hj],h j u hu⟩

theorem Jed {s x:Operand} {T E k by_ i ver ver1 n:Nat} {kx:Nat} {xs ys:List AV} (ho:o.op=.call { callee:=.builtin .append,args:=#[s,x],argTypes:=#[T,T] }) (hs:ev l s=.own i ver k xs) (hi:lk L i=some (.spare E k ver n)) (hx:Qf (ev l x)=some (kx,ys))
  (hT:sliceB P T E k=true) (hE:Z5 P E k by_=true) (hb:(xs.length+ys.length)*by_≤140737488355328) (hlen:xs.length+ys.length≤maxLen) (hcell:∀ y∈ys,y.flatOk=true) (hk:kx=k∨ys=[]) (hver:ver < ver1) :
  H0 P o l L (Is (.own i ver1 k (xs++ys)) ((i,.spare E k ver1 (xs.length+ys.length))::L)):=by
 intro a w β K Q hsat hf hK
 have hv:=hf.ev s
 rw [hs] at hv
 generalize hvs:a.eval s=vs at hv
 have hxd:=(hf.ev x).Qf hx
 obtain⟨ao,cap,hxv,_⟩:=hxd.len
 rw [hxv] at hxd
 obtain⟨_,hyk,hno,news,hnl,hncell,hnD⟩:=hxd.vals
 obtain⟨inf,z,e1,e2,e3,e4,e5,e6⟩:=Z5.out hE
 cases hv with
 | data h=>cases h
 | own hd hp=>
  obtain⟨t,ver',hw,h1,h2,h3⟩:=hp
  rw [hi] at h1
  cases h1
  obtain⟨rfl,hob,vals,hown,hvD⟩:=h3 rfl
  have hxk:∀ y∈xs,y.cells.length=k:=by
   cases hd with
   | nil=>simp
   | list _ _ _ hk=>exact hk
  have hyk':∀ y∈ys,y.cells.length=k:=by
   rcases hk with rfl | rfl
   ·exact hyk
   ·simp
  have hone:∀ u∈news,u.oneCell'=true:=by
   intro u hu
   obtain⟨j,hj,e⟩:=List.mem_iff_getElem.1 hu
   have hj':j < (flat ys).length:=by omega
   obtain⟨x',hx1,hx2⟩:=hnD j (flat ys)[j] (by simp [hj'])
   have:u=x':=by
    have:news[j]? = some u:=by rw [← e]; simp [hj]
    rw [this] at hx1; exact Option.some.inj hx1
   subst this
   have hcc:((flat ys)[j]).isCell=true:=Hb7 hcell (List.getElem_mem hj')
   exact(V.data (L:=L) (β:=β) hx2).cell hcc
  have hyl:(flat ys).length=ys.length*k:=J1 hyk'
  obtain⟨v',w',hr,hown',hos,htp,hout,hsz,hother,hwhere⟩:=H6c (P:=P) w T o.type E inf z k (sliceB.out hT).1 e1 e4 e2 e5 e6 vs xs.length vals hown ao ys.length cap news (by rw [hnl,hyl]) (fun ad j u h h'=>hncell ad j u h h') hno hone hlen (by rw [e3]; exact hb)
  have hrun:(execOp a.eval o).run P w=.ok (.value v') w':=by
   simp [execOp,ho,resolve,invoke,builtin,hvs,hxv,hr]
  unfold Oper.wp
  rw [hrun]
  have hvl:vals.length=xs.length*k:=hown.1
  have hoth:∀ id b,(lk L id).isSome=true→β id=some b→i≠id→w'.heap[b]? = w.heap[b]? := by
   intro id b h1 h2 hne
   refine hother b (hsat.bnd id b h1 h2) (fun e=>hne ?_)
   exact hsat.inj i id b (by rw [hi]; rfl) h1 (hob ▸ e) h2
  -- the step
  have st:Step w β L w' (upP β i v'.ownBlock) ((i,.spare E k ver1 (xs.length+ys.length))::L):=by
   refine⟨hos,htp,hout,hsz,fun _ _ _=>Iff.rfl,fun b j hst=>?_,fun b hb hfar=>⟨hother b hb (fun e=>hfar i (by rw [hi]; rfl) (hob ▸ e)),fun id hid e=>?_⟩,fun id t cs hid=>?_,fun id t cs hid=>?_,fun id t n cs hid=>?_,fun id t k' vr zs hid=>?_,fun id t k' vr hw hid=>?_⟩
   ·refine⟨⟨Nat.lt_of_lt_of_le hst.lt hsz,hst.seen,fun id ob hid hb=>?_⟩,?_⟩
    ·rw [Gh] at hid
     by_cases e:i=id
     ·subst e
      rw [if_pos rfl] at hid
      cases hid
      simp only [upP,if_true] at hb
      show j < (xs.length+ys.length)*k
      rcases hwhere with hw1 | ⟨hw1,_⟩
      ·rw [hw1,hob] at hb
       have:j < xs.length*k:=hst.kept i _ hi hb
       rw [Nat.add_mul]; omega
      ·rw [hw1] at hb
       have:=hst.lt
       cases hb; omega
     ·rw [if_neg e] at hid; simp only [upP,if_neg (Ne.symm e)] at hb; exact hst.kept id ob hid hb
    ·by_cases e:vs.ownBlock=some b
     ·have hj:j < xs.length*k:=hst.kept i _ hi (hob ▸ e)
      rcases hwhere with hw1 | ⟨_,_,hw3⟩
      ·obtain⟨_,hc1⟩:=J59 hown e
       obtain⟨_,hc2⟩:=J59 hown' (hw1.trans e)
       exact Qd2 (by rw [Hdf hown' (hw1.trans e) (by rw [Nat.add_mul]; omega),Hdf hown e hj,List.getElem?_append_left (by omega)]) hc1 hc2
      ·exact Q2 (w:=w) (hw3 b hst.lt)
     ·exact Q2 (w:=w) (hother b hst.lt e)
   ·rw [Gh] at hid
    by_cases e':i=id
    ·subst e'
     simp only [upP,if_true] at e
     rcases hwhere with hw1 | ⟨hw1,_⟩
     ·exact hfar i (by rw [hi]; rfl) (hob ▸ (hw1 ▸ e))
     ·rw [hw1] at e; cases e; omega
    ·rw [if_neg e'] at hid; simp only [upP,if_neg (Ne.symm e')] at e; exact hfar id hid e
   ·have e:i≠id:=fun e=>by subst e; rw [hi] at hid; cases hid
    exact⟨by simp [upP,Ne.symm e],cs,by rw [Gh,if_neg e]; exact hid⟩
   ·have e:i≠id:=fun e=>by subst e; rw [hi] at hid; cases hid
    exact⟨by simp [upP,Ne.symm e],cs,by rw [Gh,if_neg e]; exact hid⟩
   ·have e:i≠id:=fun e=>by subst e; rw [hi] at hid; cases hid
    exact⟨by simp [upP,Ne.symm e],n,cs,by rw [Gh,if_neg e]; exact hid⟩
   ·have e:i≠id:=fun e=>by subst e; rw [hi] at hid; cases hid
    exact⟨vr,zs,by rw [Gh,if_neg e]; exact hid,Nat.le_refl _,fun _=>⟨rfl,by simp [upP,Ne.symm e],fun b hb=>G12 (hoth id b (by rw [hid]; rfl) hb e)⟩⟩
   ·rw [Gh]
    by_cases e:i=id
    ·subst e
     rw [hi] at hid; cases hid
     exact⟨ver1,_,if_pos rfl,by omega,fun e=>by omega⟩
    ·exact⟨vr,hw,by rw [if_neg e]; exact hid,Nat.le_refl _,fun _=>⟨rfl,by simp [upP,Ne.symm e],fun b hb=>hoth id b (by rw [hid]; rfl) hb e⟩⟩
  have fresh:∀ b,v'.ownBlock=some b→(∃ j,β i=some b∧j=b)∨b=w.heap.size:=by
   intro b hb
   rcases hwhere with hw1 | ⟨hw1,_⟩
   ·exact .inl ⟨b,by rw [← hob,← hw1,hb],rfl⟩
   ·rw [hw1] at hb; exact .inr (Option.some.inj hb).symm
  have vlt:∀ b,v'.ownBlock=some b→b < w'.heap.size:=by
   intro b hb
   rcases ownsRow_form hown' with ⟨_,_,h0⟩ | ⟨b',cap',cur,_,hb',_,_,hg,_⟩
   ·rw [h0] at hb; cases hb
   ·rw [hb'] at hb; cases hb
    exact(Array.getElem?_eq_some_iff.1 hg).1
  refine hK _ _ v' w' (upP β i v'.ownBlock) ⟨rfl,rfl⟩ ⟨fun b j h=>Nat.lt_of_lt_of_le (hsat.hid b j h) hsz,fun id b hid hb=>?_,fun id b j hid hb hh=>?_,fun id id' b h1 h2 h3 h4=>?_,fun id ob hid=>?_⟩ st ?_
  ·rw [Gh] at hid
   by_cases e:i=id
   ·subst e; simp only [upP,if_true] at hb; exact vlt b hb
   ·rw [if_neg e] at hid; simp only [upP,if_neg (Ne.symm e)] at hb; exact Nat.lt_of_lt_of_le (hsat.bnd id b hid hb) hsz
  ·rw [Gh] at hid
   by_cases e:i=id
   ·subst e
    simp only [upP,if_true] at hb
    rcases fresh b hb with ⟨_,h1,_⟩ | rfl
    ·exact hsat.apart i b j (by rw [hi]; rfl) h1 hh
    ·have:=hsat.hid _ _ hh; omega
   ·rw [if_neg e] at hid; simp only [upP,if_neg (Ne.symm e)] at hb; exact hsat.apart id b j hid hb hh
  ·have key:∀ id,i≠id→(lk ((i,Jh.spare E k ver1 (xs.length+ys.length))::L) id).isSome=true→(upP β i v'.ownBlock) id=some b→v'.ownBlock=some b→False:=by
    intro id e h1 h3 hb
    rw [Gh,if_neg e] at h1
    simp only [upP,if_neg (Ne.symm e)] at h3
    rcases fresh b hb with ⟨_,h5,_⟩ | rfl
    ·exact e (hsat.inj i id b (by rw [hi]; rfl) h1 h5 h3)
    ·have:=hsat.bnd id _ h1 h3; omega
   by_cases e:i=id
   ·by_cases e':i=id'
    ·rw [← e,e']
    ·subst e; simp only [upP,if_true] at h3; exact(key id' e' h2 h4 h3).elim
   ·by_cases e':i=id'
    ·subst e'; simp only [upP,if_true] at h4; exact(key id e h1 h3 h4).elim
    ·rw [Gh,if_neg e] at h1
     rw [Gh,if_neg e'] at h2
     simp only [upP,if_neg (Ne.symm e)] at h3
     simp only [upP,if_neg (Ne.symm e')] at h4
     exact hsat.inj id id' b h1 h2 h3 h4
  ·rw [Gh] at hid
   by_cases e:i=id
   ·subst e
    rw [if_pos rfl] at hid; cases hid
    simp only [upP,if_true]
    rcases ownsRow_form hown' with ⟨_,h0,h0'⟩ | ⟨b',cap',cur,_,hb',_,_,hg,hsz'⟩
    ·exact .inl ⟨h0',h0⟩
    ·exact .inr ⟨b',hb',cur,hg,hsz'⟩
   ·rw [if_neg e] at hid
    simp only [upP,if_neg (Ne.symm e)]
    exact(hsat.obj id ob hid).step st (fun b hb=>hoth id b (by rw [hid]; rfl) hb e)
  ·have hDall:∀ (j:Nat) u,(flat (xs++ys))[j]? = some u→∃ x,(vals++news)[j]? = some x∧D w' (Jt w' (upP β i v'.ownBlock) ((i,.spare E k ver1 (xs.length+ys.length))::L)) u x:=by
    intro j u hu
    rw [G34] at hu
    have hfl:(flat xs).length=xs.length*k:=J1 hxk
    rcases Nat.lt_or_ge j (flat xs).length with hj | hj
    ·rw [List.getElem?_append_left hj] at hu
     obtain⟨x',hx1,hx2⟩:=hvD j u hu
     exact⟨x',by rw [List.getElem?_append_left (by omega)]; exact hx1,hx2.mono st.stab⟩
    ·rw [List.getElem?_append_right hj] at hu
     obtain⟨x',hx1,hx2⟩:=hnD _ u hu
     refine⟨x',?_,hx2.mono st.stab⟩
     rw [List.getElem?_append_right (by omega),hvl,← hfl]; exact hx1
   refine .own ?_ ⟨E,ver1,xs.length+ys.length,by rw [Gh,if_pos rfl],Nat.le_refl _,fun _=>⟨by simp,by simp [upP],vals++news,by simpa using hown',hDall⟩⟩
   have hall:∀ y∈xs++ys,y.cells.length=k:=fun y hy=>(List.mem_append.1 hy).elim (hxk y) (hyk' y)
   have hfl2:(flat (xs++ys)).length=(xs.length+ys.length)*k:=by rw [J1 hall]; simp
   rcases ownsRow_form hown' with ⟨rfl,h0,_⟩ | ⟨b',cap',cur,rfl,hb',hc1,hc2,hg,hsz'⟩
   ·have:xs++ys=[]:=List.eq_nil_of_length_eq_zero (by rw [List.length_append]; exact h0)
    rw [this]; exact .nil (Nat.zero_le _)
   ·have hD:D w' (Jt w' (upP β i (Value.slice (some ⟨b',0,none⟩) (xs.length+ys.length) cap').ownBlock) ((i,.spare E k ver1 (xs.length+ys.length))::L)) (.list k (xs++ys)) (.slice (some ⟨b',0,none⟩) (xs++ys).length cap'):=?_
    ·rw [List.length_append] at hD; exact hD
    refine .list (fun j=>(vals++news).getD j undef) (by rw [List.length_append]; exact hc1) hc2 hall (fun j hj=>?_) (fun j u hu=>?_)
    ·rw [hfl2] at hj
     have hlt:j < (vals++news).length:=by rw [List.length_append,hvl,hnl,hyl,← Nat.add_mul]; exact hj
     refine⟨⟨by have:=vlt b' hb'; exact this,?_,fun id ob hid hbid=>?_⟩,?_⟩
     ·show ¬ β.hid b' _
      intro hh
      rcases fresh b' hb' with ⟨_,h5,_⟩ | rfl
      ·exact hsat.apart i b' _ (by rw [hi]; rfl) h5 hh
      ·have:=hsat.hid _ _ hh; omega
     ·rw [Gh] at hid
      by_cases e:i=id
      ·subst e; rw [if_pos rfl] at hid; cases hid
       show 0+j < (xs.length+ys.length)*k
       omega
      ·rw [if_neg e] at hid
       simp only [upP,if_neg (Ne.symm e)] at hbid
       exfalso
       rcases fresh b' hb' with ⟨_,h5,_⟩ | rfl
       ·exact e (hsat.inj i id b' (by rw [hi]; rfl) (by rw [hid]; rfl) h5 hbid)
       ·have:=hsat.bnd id _ (by rw [hid]; rfl) hbid; omega
     ·rw [Nat.zero_add,Hdf hown' rfl hj]
      rw [List.getElem?_eq_getElem hlt]
      simp only [List.getD,List.getElem?_eq_getElem hlt,Option.getD_some]
    ·obtain⟨x',hx1,hx2⟩:=hDall j u hu
     simp only [List.getD,hx1,Option.getD_some]
     exact hx2
theorem Ra1 {s x:Operand} {T E k by_ i ver n:Nat} {kx:Nat} {xs ys:List AV} (ho:o.op=.call { callee:=.builtin .append,args:=#[s,x],argTypes:=#[T,T] }) (hs:ev l s=.own i ver k xs) (hi:lk L i=some (.spare E k ver n)) (hx:Qf (ev l x)=some (kx,ys))
  (hT:sliceB P T E k=true) (hE:Z5 P E k by_=true) (hb:(xs.length+ys.length)*by_≤140737488355328) (hlen:xs.length+ys.length≤maxLen) (hcell:∀ y∈ys,y.flatOk=true) (hk:kx=k∨ys=[]) :
  H0 P o l L (Is (.own i (ver+1) k (xs++ys)) ((i,.spare E k (ver+1) (xs.length+ys.length))::L)):=Jed ho hs hi hx hT hE hb hlen hcell hk (Nat.lt_succ_self ver)
end mem
end Go.Proofs.YtidpfkmbfgihlaaGreat
namespace Go.Proofs.YtidpfkmbfgihlaaGreat
open Go.RowKit

theorem H74 {k:Nat}:∀ (us:List AV) (j:Nat) (cells:List AV),cells.length=(j+us.length)*k→(∀ u∈us,u.cells.length=k∧u.flatOk=true) →
  Ha5 (fun i=>some (i*k,k)) cells ((List.range' j us.length).zip us)=some (cells.take (j*k)++flat us)
 | [],j,cells,h,_=>by
  simp only [List.length_nil,Nat.add_zero] at h
  simp [Ha5,flat,← h]
 | u::r,j,cells,h,hu=>by
  obtain⟨h1,h2⟩:=hu u (by simp)
  have hlen:j*k+k≤cells.length:=by
   rw [h]; simp only [List.length_cons]
   have:(j+1)*k≤(j+(r.length+1))*k:=Nat.mul_le_mul_right k (by omega)
   rw [Nat.add_mul] at this; omega
  have e1:Nat.beq u.cells.length k=true:=by rw [h1]; exact Nat.beq_refl k
  have e2:Nat.ble (j*k+k) cells.length=true:=by simpa using hlen
  simp only [List.length_cons,List.range'_succ,List.zip_cons_cons,Ha5,e1,e2,h2,Bool.and_true,cond_true]
  have ih:=H74 (k:=k) r (j+1) (cells.take (j*k)++u.cells++cells.drop (j*k+k)) (by
   simp only [List.length_append,List.length_take,List.length_drop,h1]
   rw [h] at hlen ⊢; simp only [List.length_cons] at hlen ⊢
   rw [Nat.min_eq_left (by omega)]
   have:(j+1+r.length)*k=(j+(r.length+1))*k:=by congr 1; omega
   omega) (fun y hy=>hu y (by simp [hy]))
  rw [ih]
  congr 1
  have hl:(cells.take (j*k)++u.cells).length=(j+1)*k:=by simp [h1]; rw [Nat.add_mul]; omega
  rw [List.take_append_of_le_length (by rw [hl]; exact Nat.le_refl _),List.take_of_length_le (by rw [hl]; exact Nat.le_refl _)]
  simp [flat]

def Gf1 (k:Nat):List AV→Bool
 | []=>true
 | u::r=>Nat.beq u.cells.length k&&u.flatOk&&Gf1 k r
theorem G8f {k:Nat}:∀ {us:List AV},Gf1 k us=true→∀ u∈us,u.cells.length=k∧u.flatOk=true
 | u::r,h,v,hv=>by
  simp only [Gf1,Bool.and_eq_true] at h
  rcases List.mem_cons.1 hv with rfl | hv
  ·exact⟨Nat.eq_of_beq_eq_true h.1.1,h.1.2⟩
  ·exact G8f h.2 v hv

theorem Q7a {ok:Nat→Bool} {u:AV} (h:u.refs ok=true):∀ c∈u.cells,c.refs ok=true:=by
 intro c hc
 cases u with
 | agg cs=>exact G07 (by simpa [AV.refs] using h) c (by simpa [AV.cells] using hc)
 | _=>simp [AV.cells] at hc; subst hc; exact h

theorem Hb3 {ok:Nat→Bool}:∀ {us:List AV},(∀ u∈us,u.refs ok=true)→∀ c∈flat us,c.refs ok=true
 | u::r,h,c,hc=>by
  simp only [flat,List.mem_append] at hc
  rcases hc with hc | hc
  ·exact Q7a (h u (by simp)) c hc
  ·exact Hb3 (fun y hy=>h y (by simp [hy])) c hc

section lits
variable {P:Program} {o:Oper} {l:Fr} {L:Loc}

theorem D.newRow {w:World} {β:H4} {L:Loc} {k:Nat} {xs:List AV} {vs:Array Value} {E:TypeId} (hsat:Sat w β L) (hk:∀ x∈xs,x.cells.length=k) (hm:xs.length≤maxLen) (hs:vs.size=(flat xs).length)
  (h:∀ (j:Nat) u v,(flat xs)[j]? = some u→vs[j]? = some v→D w (Jt w β L) u v) :
  D (w.alloc (.cells vs E)) (Jt (w.alloc (.cells vs E)) β L) (.list k xs) (.slice (some ⟨w.heap.size,0,none⟩) xs.length xs.length):=by
 refine .list (fun j=>vs.getD j undef) (Nat.le_refl _) hm hk (fun j hj=>⟨Jt.new hsat _ _,?_⟩) (fun j u hu=>?_)
 ·rw [World.cell?_alloc_new]
  rw [Nat.zero_add,Array.getD_eq_getD_getElem?,Array.getElem?_eq_getElem (by omega)]
  rfl
 ·have hj:j < (flat xs).length:=by
   rcases Nat.lt_or_ge j (flat xs).length with h | h
   ·exact h
   ·simp [List.getElem?_eq_none h] at hu
  rw [Array.getD_eq_getD_getElem?,Array.getElem?_eq_getElem (by omega)]
  exact(h j u _ hu (by simp [Array.getElem?_eq_getElem (show j < vs.size by omega)])).mono (Step.new hsat _).stab

theorem H8 {T E k n:Nat} {parts:List (Nat×Operand)} {xs:List AV} (ho:o.op=.buildSlice T n parts.toArray) (hd:G66 l (parts.map (·.2)) xs) (hT:sliceB P T E k=true) (hz:Y1 P E k=true)
  (hix:parts.map (·.1)=List.range n) (hc:Gf1 k xs=true) (hn:Nat.ble (n*k) 16777216=true) (hk0:Nat.blt 0 k=true):H0 P o l L (Is (.list k xs) L):=by
 intro a w β K Q hsat hf hK
 have hlen:=hd.length
 have hnl:n=xs.length:=by
  have:=congrArg List.length hix
  simp only [List.length_map,List.length_range] at this hlen
  omega
 subst hnl
 have hc':=G8f hc
 have hkc:∀ x∈xs,x.cells.length=k:=fun x hx=>(hc' x hx).1
 have hdata:∀ x∈xs,x.isData=true:=by
  intro x hx
  obtain⟨j,hj,e⟩:=List.mem_iff_getElem.1 hx
  have hj2:j < (parts.map (·.2)).length:=by omega
  exact e ▸ (hd.get (j:=j) (x:=(parts.map (·.2))[j]) (u:=xs[j]) (List.getElem?_eq_getElem hj2) (List.getElem?_eq_getElem hj)).2
 have hfill:=H74 (k:=k) xs 0 (List.replicate (xs.length*k) .junk) (by simp) hc'
 obtain⟨inf,z,hi,hz1,hz2⟩:=Y1.out hz
 let zs:Array Value:=if xs.length*k=0 then #[] else z.cells
 obtain⟨vs',e1,e2,e3⟩:=H1b (w:=w) (β:=β) (L:=L) (qs:=parts.map fun p=>(p.1,a.eval p.2)) (vs:=(Array.range (xs.length*k)).map (zs[· % zs.size]!)) hfill (by
   have:=congrArg List.length hix
   simp only [List.length_map,List.length_range] at this
   simp [this]) (fun j p q hp hq=>by
   simp only [List.getElem?_map,Option.map_eq_some_iff] at hq
   obtain⟨y,hy,rfl⟩:=hq
   rw [List.getElem?_zip_eq_some] at hp
   obtain⟨hp1,hp2⟩:=hp
   have hix':(parts.map (·.1))[j]? = (List.range xs.length)[j]? := by rw [hix]
   simp only [List.getElem?_map,hy,Option.map_some] at hix'
   rw [List.range_eq_range',hp1] at hix'
   have:=(hd.get (j:=j) (x:=y.2) (u:=p.2) (by rw [List.getElem?_map,hy]; rfl) hp2)
   have hv:=(hf.ev y.2).plain
   rw [this.1] at hv
   exact⟨(Option.some.inj hix').symm,hv⟩) (by simp) (fun j u v hu _=>by
   have:=List.eq_of_mem_replicate (List.mem_of_getElem? hu)
   subst this; exact .junk)
 have hflat:(List.take (0*k) (List.replicate (xs.length*k) AV.junk))++flat xs=flat xs:=by simp
 rw [hflat] at e2 e3
 have hr:(execOp a.eval o).run P w=.ok (.value (.slice (some ⟨w.heap.size,0,none⟩) xs.length xs.length)) (w.alloc (.cells vs' E)):=by
  have hsz:=Qe (sliceB.out hT).2 w
  have hle0:xs.length*k≤16777216:=by simpa using hn
  have hle:¬ (xs.length*k > 2 ^ 24):=by
   have:(2:Nat) ^ 24=16777216:=by decide
   omega
  have hp:(parts.toArray.map fun(x:Nat×Operand)=>(x.1,a.eval x.2)).toList=parts.map fun p=>(p.1,a.eval p.2):=by simp
  by_cases h0:xs.length*k=0
  ·have hzs:zs=#[]:=by simp only [zs,if_pos h0]
   rw [hzs] at e1
   simp only [execOp,ho,Instr.buildSlice,underlying,(sliceB.out hT).1,run_program,Sem.run_bind,Result.andThen_ok,hsz,hle,if_false,Sem.run_pure,if_pos h0,hp,e1,newRow,run_newObj]
   rfl
  ·have hzs:zs=z.cells:=by simp only [zs,if_neg h0]
   rw [hzs] at e1
   simp only [execOp,ho,Instr.buildSlice,underlying,(sliceB.out hT).1,run_program,Sem.run_bind,Result.andThen_ok,hsz,hle,if_false,Sem.run_pure,if_neg h0,zeroValue,typeInfo,hi,hz1,hp,e1,newRow,run_newObj]
   rfl
 unfold Oper.wp
 rw [hr]
 exact hK _ _ _ _ β ⟨rfl,rfl⟩ (hsat.new _) (Step.new hsat _) (.data (D.newRow hsat hkc (by
  have h1:xs.length*k≤16777216:=by simpa using hn
  have h2:0 < k:=by simpa [Nat.blt_eq] using hk0
  have:xs.length*1≤xs.length*k:=Nat.mul_le_mul_left _ h2
  simp only [maxLen]; omega) e2 (fun j u v hu hv=>(e3 j u v hu hv).toD (Hb3 hdata u (List.mem_of_getElem? hu)))))
end lits
end Go.Proofs.YtidpfkmbfgihlaaGreat
