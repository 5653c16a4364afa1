/- A heap of blocks whose places are known: -/
import Derived.Test.YthkihfoleenlmaaGreatGrd
import Derived.Test.YthkihfoleenlmaaGreatApl
import Derived.Test.YthkihfoleenlmaaGreatGrd
namespace Go.Proofs.YthkihfoleenlmaaGreat
open Go.RowKit
set_option linter.unusedVariables false
set_option linter.unusedSimpArgs false

abbrev Hp:=List (Nat×List AV)
def hg:Hp→Nat→Option (List AV)
 | [],_=>none
 | (b',cs)::r,b=>if b'=b then some cs else hg r b
def HL (p E:Nat) (H:Hp):Loc:=H.map fun e=>(p+e.1,Jn.pin E e.1 e.2)
theorem gH {b b':Nat} {cs:List AV} {H:Hp}:hg ((b',cs)::H) b=if b'=b then some cs else hg H b:=rfl
theorem RH {p E:Nat} {M:Loc} (b:Nat):∀ H:Hp,lk (HL p E H++M) (p+b)=match hg H b with
  | some cs=>some (.pin E b cs)
  | none=>lk M (p+b)
 | []=>rfl
 | (b',cs)::r=>by
  show lk ((p+b',.pin E b' cs)::(HL p E r++M)) (p+b)=_
  rw [Gm,gH]
  by_cases e:b'=b
  .subst e; rw [if_pos rfl,if_pos rfl]
  .rw [if_neg (by omega),if_neg e]; exact RH b r
theorem Za {p E:Nat} {M:Loc} {id:Nat} (h:id < p):∀ H:Hp,lk (HL p E H++M) id=lk M id
 | []=>rfl
 | (b',cs)::r=>by
  show lk ((p+b',.pin E b' cs)::(HL p E r++M)) id=_
  rw [Gm,if_neg (by omega)]; exact Za h r
theorem lJ {p E:Nat} {M:Loc} {H:Hp} {b:Nat} {cs:List AV} (h:hg H b=some cs):lk (HL p E H++M) (p+b)=some (.pin E b cs):=by rw [RH,h]

abbrev Raw:=Option (Nat×Nat×Nat)
def rv:Raw→Value
 | none=>.slice none 0 0
 | some (b,n,c)=>.slice (some ⟨b,0,none⟩) n c
def rn:Raw→Nat
 | none=>0
 | some (_,n,_)=>n
def rb:Raw→Nat
 | none=>0
 | some (b,_,_)=>b
def RA (e:Raw):AV:=.sc (rv e)
abbrev Ea:=LS 1 RA

def pre (f:Nat→List AV) (m:Nat):List AV:=(List.range m).flatMap f
theorem sJ (f:Nat→List AV) (m:Nat):pre f (m+1)=pre f m++f m:=by simp [pre,List.range_succ]
theorem GN {f:Nat→List AV} {k:Nat} (hf:∀ i,(f i).length=k):∀ m,(pre f m).length=m*k
 | 0=>by simp [pre]
 | m+1=>by rw [sJ,Pn,GN hf m,hf,Nat.succ_mul]
theorem H16 {f:Nat→List AV} {k:Nat} (hf:∀ i,(f i).length=k) {m n:Nat} (h:m≤n):(pre f n).take (m*k)=pre f m:=by
 induction n with
 | zero=>
  have:m=0:=by omega
  subst this; simp [pre]
 | succ n ih=>
  rw [sJ]
  rcases P4 n m with hn | hn
  .have:m=n+1:=by omega
   subst this
   rw [sJ,List.take_of_length_le]
   rw [Pn,GN hf,hf,Nat.succ_mul]; omega
  .rw [List.take_append_of_le_length (by rw [GN hf]; exact Nat.mul_le_mul_right _ hn)]
   exact ih hn
def RdH (k:Nat) (f:Nat→List AV) (H:Hp) (e:Raw) (m:Nat):Prop:=
 ∀ b n c,e=some (b,n,c)→∃ cs,hg H b=some cs/\n≤c/\c≤maxLen/\cs.length=c*k/\cs.take (m*k)=pre f m
theorem RdH.other {k:Nat} {f:Nat→List AV} {H:Hp} {e:Raw} {m b':Nat} {cs':List AV} (h:RdH k f H e m) (hb:∀ b n c,e=some (b,n,c)→b'≠b):RdH k f ((b',cs')::H) e m:=fun b n c he=>by
 obtain⟨cs,h1,h2⟩:=h b n c he
 exact⟨cs,by rw [gH,if_neg (hb b n c he)]; exact h1,h2⟩
theorem H08:∀ {k:Nat} {l r:List AV},l.length=k→takeN k (l++r)=some l
 | 0,l,r,h=>by have:=P1 h; subst this; rfl
 | k+1,[],r,h=>by simp at h
 | k+1,x::l,r,h=>by
  have:=H08 (k:=k) (l:=l) (r:=r) (by simpa using h)
  simp [takeN,this]
theorem J28 {f:Nat→List AV} {k:Nat} (hf:∀ i,(f i).length=k) {cs:List AV} {m i:Nat} (h:cs.take (m*k)=pre f m) (hi:i < m):takeN k (cs.drop (i*k))=some (f i):=by
 have h1:cs.take ((i+1)*k)=pre f i++f i:=by
  rw [← sJ,← H16 hf (show i+1≤m by omega),← h,List.take_take,Nat.min_eq_left (Nat.mul_le_mul_right _ (by omega))]
 have h2:cs.drop (i*k)=f i++cs.drop ((i+1)*k):=by
  have e:cs=(pre f i++f i)++cs.drop ((i+1)*k):=by rw [← h1]; exact(List.take_append_drop _ _).symm
  have e2:cs.drop (i*k)=((pre f i++f i)++cs.drop ((i+1)*k)).drop (i*k):=by rw [← e]
  rw [e2,List.append_assoc,List.drop_append_of_le_length (by rw [GN hf]; exact Pf),List.drop_of_length_le (by rw [GN hf]; exact Pf),List.nil_append]
 rw [h2]; exact H08 (hf i)

section ops
variable {P:Program} {o:Oper} {l:Fr} {L M:Loc} {p E k:Nat} {H:Hp} {e:Raw}
theorem G3e {x:Operand} {T E' k':Nat} (ho:o.op=.call { callee:=.builtin .len,args:=#[x],argTypes:=#[T] }) (hT:sliceB P T E' k'=true) (hx:ev l x=RA e):H2 P o l L (Is (I64 (rn e:Int)) L):=by
 rcases e with _ | ⟨b,n,c⟩
 .exact rO ho hT hx
 .exact rO ho hT hx
theorem G3f {x ix:Operand} {T E' k' m:Nat} {kd:IntKind} {z:Int} (ho:o.op=.indexAddr T x ix) (hx:ev l x=RA e) (hi:ev l ix=.sc (.int kd z)) (hT:sliceB P T E' k'=true) (hz:z=(m:Int)) (hm:m < rn e):H2 P o l L (Is (PT (rb e) (m*k')) L):=by
 rcases e with _ | ⟨b,n,c⟩
 .exact absurd hm (Nat.not_lt_zero _)
 .have:=Q02 (P:=P) (o:=o) (l:=l) (L:=L) (b:=b) (off:=0) (n:=n) (cap:=c) (m:=m) ho hx hi hT hz hm
  rwa [Nat.zero_add] at this
theorem J58 {f:Nat→List AV} {g:Nat→AV} {x:Operand} {T m i:Nat} (hf:∀ i,f i=[g i]) (ho:o.op=.load T x) (hx:ev l x=PT (rb e) (i*1)) (hT:Jc P T=true) (hr:RdH 1 f H e m) (h0:i < m) (hm:m≤rn e):H2 P o l (HL p E H++M) (Is (g i) (HL p E H++M)):=by
 rcases e with _ | ⟨b,n,c⟩
 .exact absurd (P0 h0 hm) (Nat.not_lt_zero _)
 .obtain⟨cs,h1,h2,h3,h4,h5⟩:=hr b n c rfl
  have hp:=J28 (k:=1) (fun i=>by rw [hf]; rfl) h5 h0
  refine Jb5 ho hx hT (lJ h1) ?_
  rw [hf,Nat.mul_one] at hp
  rw [Nat.mul_one]
  cases hd:cs.drop i with
  | nil=>rw [hd] at hp; cases hp
  | cons y r=>
   rw [hd] at hp
   have hy:y=g i:=by
    simp [takeN] at hp
    exact hp
   have:cs[i]? = (cs.drop i)[0]? := by rw [Pm]; simp
   rw [this,hd,hy]; rfl
theorem J57 {f:Nat→List AV} {x y:Operand} {T i:Nat} {u:AV} (hf:∀ i,(f i).length=k) (ho:o.op=.store T x y) (hx:ev l x=PT (rb e) (i*k)) (hT:Rc P T k=true) (hu:ev l y=u) (hr:RdH k f H e i) (hi:i < rn e) (hc:u.flatOk=true) (hd:Ys (fun _=>false) u.cells=true) (h0:u.cells=f i) :
  H2 P o l (HL p E H++M) (fun u' L'=>u'=.junk/\∃ cs',L'=HL p E ((rb e,cs')::H)++M/\RdH k f ((rb e,cs')::H) e (i+1)/\(hg H (rb e)).isSome=true):=by
 rcases e with _ | ⟨b,n,c⟩
 .exact absurd hi (Nat.not_lt_zero _)
 .obtain⟨cs,h1,h2,h3,h4,h5⟩:=hr b n c rfl
  have h8:i < n:=hi
  have h6:i*k+k≤cs.length:=by
   rw [h4,← Nat.succ_mul]; exact Nat.mul_le_mul_right _ (by omega)
  have hk:u.cells.length=k:=by rw [h0]; exact hf i
  have:=J59 (P:=P) (o:=o) (l:=l) (L:=HL p E H++M) (u:=u) ho hx hT hu (lJ h1) hc hd hk h6
  refine fun a w β K Q hs h7 hK=>this a w β K Q hs h7 fun u' L' v w' J' hR=>hK u' L' v w' J' ?_
  obtain⟨rfl,rfl⟩:=hR
  refine⟨rfl,_,rfl,fun b' n' c' he=>?_,by show (hg H b).isSome=true; rw [h1]; rfl⟩
  cases he
  refine⟨_,if_pos rfl,h2,h3,?_,?_⟩
  .simp only [Pn,List.length_take,List.length_drop,hk]
   omega
  .have e1:(cs.take (i*k)++u.cells).length=(i+1)*k:=by rw [Pn,List.length_take,hk,Nat.succ_mul]; omega
   rw [sJ,← h5,← h0,List.take_append_of_le_length (Nat.le_of_eq e1.symm),List.take_of_length_le (Nat.le_of_eq e1)]
structure qQ (k:Nat) (H:Hp) (e:Raw) (ys:List AV) (e':Raw) (H':Hp):Prop where
 out:∃ b' c' cs',e'=some (b',rn e+ys.length,c')/\(∀ b,hg H' b=if b'=b then some cs' else hg H b)/\rn e+ys.length≤c'/\c'≤maxLen/\cs'.length=c'*k/\(cs'.drop (rn e*k)).take (flat ys).length=flat ys /\
  ((∃ cs,e=some (b',rn e,c')/\hg H b'=some cs/\cs'.length=cs.length/\cs'.take (rn e*k)=cs.take (rn e*k))\/(hg H b'=none/\∀ b n c,e=some (b,n,c)→∃ cs,hg H b=some cs/\cs'.take (n*k)=cs.take (n*k)))
theorem Q01 {s x:Operand} {T by_ kx:Nat} {ys:List AV} (ho:o.op=.call { callee:=.builtin .append,args:=#[s,x],argTypes:=#[T,T] }) (hs:ev l s=RA e) (hx:Jz (ev l x)=some (kx,ys)) (hT:sliceB P T E k=true) (hE:Qo P E k by_=true) (a0:∀ y∈ys,y.flatOk=true) (hk:kx=k) (b8:0 < ys.length)
  (hM:∀ id,p≤id→lk M id=none) (hr:∀ b n c,e=some (b,n,c)→∃ cs,hg H b=some cs/\n≤c/\c≤maxLen/\cs.length=c*k) (a2:rn e+ys.length≤maxLen) (hb:(rn e+ys.length)*by_≤140737488355328) :
  H2 P o l (HL p E H++M) (fun u' L'=>∃ e' H',u'=RA e'/\L'=HL p E H'++M/\qQ k H e ys e' H'):=by
 subst hk
 by_cases b0:∃ b n c,e=some (b,n,c)/\n+ys.length≤c
 .obtain⟨b,n,c,rfl,h6⟩:=b0
  obtain⟨cs,h1,h2,h3,h4⟩:=hr b n c rfl
  have:=Q04 (P:=P) (o:=o) (l:=l) (L:=HL p E H++M) (off:=0) (b:=b) (n:=n) (cap:=c) ho hs (lJ h1) hx hT hE a0 rfl b8 h6 (by rw [h4]; omega)
  refine fun a w β K Q h0 b1 hK=>this a w β K Q h0 b1 fun u' L' v w' J' hR=>hK u' L' v w' J' ?_
  obtain⟨rfl,rfl⟩:=hR
  have a3:∀ y∈ys,y.cells.length=kx:=by
   have hD:=(b1.ev x).Jz hx
   obtain⟨ao,c',h7,_,_⟩:=hD.len
   rw [h7] at hD
   exact hD.vals.2.1
  have h5:(flat ys).length=ys.length*kx:=Jf a3
  have d6:n*kx+(flat ys).length≤cs.length:=by rw [h5,h4,← Nat.add_mul]; exact Nat.mul_le_mul_right _ h6
  refine⟨some (b,n+ys.length,c),(_,_)::H,rfl,rfl,⟨b,c,_,rfl,fun _=>gH,h6,h3,?_,?_,.inl ⟨cs,rfl,h1,?_,?_⟩⟩⟩
  .simp only [Pn,List.length_take,List.length_drop,Nat.zero_add]; omega
  .show List.take _ (List.drop (n*kx) _)=_
   rw [Nat.zero_add,List.append_assoc,List.drop_append_of_le_length (by rw [List.length_take]; omega),List.drop_of_length_le (by rw [List.length_take]; omega),List.nil_append,List.take_append_of_le_length (Pf),List.take_length]
  .simp only [Pn,List.length_take,List.length_drop,Nat.zero_add]; omega
  .show List.take (n*kx) _=_
   rw [Nat.zero_add,List.append_assoc,List.take_append_of_le_length (by rw [List.length_take]; omega),List.take_take,Nat.min_self]; rfl
 .intro a w β K Q h0 hf hK
  have h1:=hf.ev s
  rw [hs] at h1
  have hd:=(hf.ev x).Jz hx
  obtain⟨ao,cx,h7,_,_⟩:=hd.len
  rw [h7] at hd
  obtain⟨_,a3,c2,vals,a4,c3,b2⟩:=hd.vals
  obtain⟨inf,zv,e1,e2,e3,e4,e5,e6⟩:=Qo.out hE
  have h5:(flat ys).length=ys.length*kx:=Jf a3
  have d3:∀ u∈vals,u.oneCell'=true:=fun u hu=>by
   obtain⟨j,hj⟩:=List.getElem?_of_mem hu
   have b3:j < (flat ys).length:=by have:=(Pa hj).1; omega
   obtain⟨x',h8,a5⟩:=b2 j _ (Pb b3)
   rw [hj] at h8; cases h8
   exact(V.data (β:=β) (L:=HL p E H++M) a5).cell (jT a0 (List.getElem_mem b3))
  have b9:lk (HL p E H++M) (p+w.heap.size)=none:=by
   rw [RH]
   cases hh:hg H w.heap.size with
   | none=>exact hM _ (Nat.le_add_right _ _)
   | some cs=>
    have hl:lk (HL p E H++M) (p+w.heap.size)=some (.pin E w.heap.size cs):=lJ hh
    have:=h0.bnd _ _ (by rw [hl]; rfl) (uI h0 hl).1
    omega
  have c4:hg H w.heap.size=none:=by
   cases hh:hg H w.heap.size with
   | none=>rfl
   | some cs=>
    have hl:lk (HL p E H++M) (p+w.heap.size)=some (.pin E w.heap.size cs):=lJ hh
    have:=h0.bnd _ _ (by rw [hl]; rfl) (uI h0 hl).1
    omega
  cases ao with
  | none=>have:=c2 rfl; omega
  | some ad=>
   have a1:∀ j u,vals[j]? = some u→w.cell? (ad.add j)=some u:=fun j u hu=>c3 ad j u rfl hu
   -- the old elements
   have hold:∃ (olds:List Value) (os:List AV),olds.length=rn e*kx/\os.length=rn e*kx/\(∀ (j:Nat) u v,os[j]? = some u→olds[j]? = some v→D w (Ji w β (HL p E H++M)) u v)/\(∀ b n c,e=some (b,n,c)→∃ cs,hg H b=some cs/\os=cs.take (n*kx)) /\
     ∃ c0,((execOp a.eval o).run P w=.ok (.value (.slice (some ⟨w.heap.size,0,none⟩) (rn e+ys.length) (grownCap w (rn e+ys.length) c0 E))) (w.drew.alloc (.cells (olds.toArray++vals.toArray++Builtin.zeroCells zv.cells (grownCap w (rn e+ys.length) c0 E - (rn e+ys.length))) E))):=by
    rcases e with _ | ⟨b,n,c⟩
    .refine⟨[],[],by simp [rn],by simp [rn],fun j u v hu=>by simp at hu,fun b n c he=>(by cases he),0,?_⟩
     have a6:=run_append_nil (P:=P) w T o.type E inf zv (sliceB.out hT).1 e1 e4 ad ys.length cx vals (by rw [a4,h5,e2]) a1 (by omega) (by simp only [maxLen,rn] at a2; omega) (by rw [e3]; simp only [rn,Nat.zero_add] at hb; omega)
     have h9:=h1.inv_sc
     simp only [rv] at h9
     simp [execOp,ho,resolve,invoke,builtin,h9,h7,a6,rn]
    .obtain⟨cs,g1,g2,g3,g4⟩:=hr b n c rfl
     obtain⟨d7,old,c5,c6,c7⟩:=uI h0 (lJ (p:=p) (E:=E) (M:=M) g1)
     have d8:n*kx≤cs.length:=by rw [g4]; exact Nat.mul_le_mul_right _ g2
     have b4:(old.toList.take (n*kx)).length=n*kx:=by rw [List.length_take,Array.length_toList,c6]; omega
     refine⟨old.toList.take (n*kx),cs.take (n*kx),b4,by rw [List.length_take]; show _=n*kx; omega,fun j u v hu hv=>?_,fun b' n' c' he=>(by cases he; exact⟨cs,g1,rfl⟩),c,?_⟩
     .rw [Pk] at hu hv
      split at hu
      .rename_i hj
       rw [if_pos hj,Array.getElem?_toList] at hv
       exact c7 j u v hu hv
      .cases hu
     .have b5:c < n+ys.length:=by
       rcases P4 c (n+ys.length) with h | h
       .exact h
       .exact(b0 ⟨b,n,c,rfl,h⟩).elim
      have a6:=run_append_grow (P:=P) w T o.type E inf zv (sliceB.out hT).1 e1 e4 ⟨b,0,none⟩ n c (old.toList.take (n*kx)) (by rw [b4,e2]) (fun j v hj=>by
       rw [Pk] at hj
       split at hj
       .rw [Array.getElem?_toList] at hj
        simp [Addr.add_lit,World.cell?,c5,hj]
       .cases hj) ad ys.length cx vals (by rw [a4,h5,e2]) a1 b5 (by simp only [maxLen,rn] at a2; omega) (growslice_fits b5 (by rw [e3]; exact hb))
      have h9:=h1.inv_sc
      simp only [rv] at h9
      simp [execOp,ho,resolve,invoke,builtin,h9,h7,a6,rn]
   obtain⟨olds,os,c8,a7,c9,d0,c0,c1⟩:=hold
   have a8:=grownCap_ge w (rn e+ys.length) c0 E
   have b6:=grownCap_le_maxLen w (rn e+ys.length) c0 E a2
   unfold Oper.wp
   rw [c1]
   generalize d4:grownCap w (rn e+ys.length) c0 E=cap at a8 b6
   have d5:(cap - (rn e+ys.length))*kx+(rn e*kx+ys.length*kx)=cap*kx:=by rw [← Nat.add_mul,← Nat.add_mul,Nat.sub_add_cancel a8]
   have b7:(os++flat ys++List.replicate ((cap - (rn e+ys.length))*kx) AV.junk).length=cap*kx:=by
    rw [Pn,Pn,a7,h5,List.length_replicate]; omega
   obtain⟨st,sat⟩:=Hb5 (w':=w.drew.alloc (.cells (olds.toArray++vals.toArray++Builtin.zeroCells zv.cells (cap - (rn e+ys.length))) E)) (t:=E) (cs:=os++flat ys++List.replicate ((cap - (rn e+ys.length))*kx) AV.junk) h0 b9 rfl rfl ⟨rfl,Nat.le_succ _⟩ _ rfl (by
     rw [b7]
     simp only [Array.size_append,List.size_toArray,size_zeroCells,c8,a4,h5,e5]; omega) (fun j u v hu hv=>by
     rcases P4 j (os++flat ys).length with hj | hj
     .rw [Ph hj] at hu
      rw [Array.getElem?_append_left (by simp only [Array.size_append,List.size_toArray]; rw [Pn] at hj; omega)] at hv
      rcases P4 j os.length with a9 | a9
      .rw [Ph a9] at hu
       rw [Array.getElem?_append_left (by simp only [List.size_toArray]; omega)] at hv
       exact c9 j u v hu (by simpa using hv)
      .rw [Pg a9] at hu
       rw [Array.getElem?_append_right (by simp only [List.size_toArray]; omega)] at hv
       obtain⟨x',h8,a5⟩:=b2 _ u hu
       rw [show j - olds.toArray.size=j - os.length by simp only [List.size_toArray]; omega] at hv
       have d1:vals[j - os.length]? = some v:=by simpa using hv
       rw [d1] at h8; cases h8
       exact a5
     .rw [Pg hj] at hu
      have:=List.eq_of_mem_replicate (Pd hu)
      subst this
      exact .junk)
   refine hK _ _ _ _ _ ⟨some (w.heap.size,rn e+ys.length,cap),(w.heap.size,_)::H,rfl,rfl,⟨w.heap.size,cap,_,rfl,fun _=>gH,a8,b6,b7,?_,.inr ⟨c4,fun b n c he=>?_⟩⟩⟩ sat st .sc
   .rw [List.append_assoc,List.drop_append_of_le_length (by omega),List.drop_of_length_le (by omega),List.nil_append,List.take_append_of_le_length (Pf),List.take_length]
   .obtain⟨cs,g1,g2⟩:=d0 b n c he
    refine⟨cs,g1,?_⟩
    subst he
    have d2:os.length=n*kx:=a7
    rw [List.append_assoc,List.take_append_of_le_length (by omega),List.take_of_length_le (by omega),g2]
end ops
section appr
variable {k:Nat} {f:Nat→List AV} {H H':Hp} {e e':Raw} {ys:List AV}
theorem qQ.len (h:qQ k H e ys e' H'):rn e'=rn e+ys.length:=by
 obtain⟨b',c',cs',rfl,_⟩:=h; rfl
theorem qQ.rd (h:qQ k H e ys e' H') {e2:Raw} {m2:Nat} (hr:RdH k f H e2 m2) (hm:∀ b n c n' c',e2=some (b,n,c)→e=some (b,n',c')→m2≤rn e):RdH k f H' e2 m2:=fun b n c he=>by
 obtain⟨b',c',cs',rfl,hH,h1,h2,h3,h4,h5⟩:=h
 obtain⟨cs,g1,g2,g3,g4,g5⟩:=hr b n c he
 by_cases hb:b'=b
 .subst hb
  rcases h5 with ⟨cs0,q1,q2,q3,q4⟩ | ⟨q1,_⟩
  .rw [g1] at q2; cases q2
   have h0:=hm b' n c _ _ he q1
   refine⟨cs',(hH _).trans (if_pos rfl),g2,g3,q3.trans g4,?_⟩
   have:=congrArg (List.take (m2*k)) q4
   rw [List.take_take,List.take_take,Nat.min_eq_left (Nat.mul_le_mul_right _ h0)] at this
   rw [this,g5]
  .rw [q1] at g1; cases g1
 .exact⟨cs,by rw [hH,if_neg hb]; exact g1,g2,g3,g4,g5⟩
theorem qQ.old (h:qQ k H e ys e' H') (hf:∀ i,(f i).length=k) {m:Nat} (hr:RdH k f H e m) (hm:m≤rn e):RdH k f H' e' m:=fun b n c he=>by
 obtain⟨b',c',cs',rfl,hH,h1,h2,h3,h4,h5⟩:=h
 cases he
 refine⟨cs',(hH _).trans (if_pos rfl),h1,h2,h3,?_⟩
 have key:∀ cs:List AV,cs'.take (rn e*k)=cs.take (rn e*k)→cs.take (m*k)=pre f m→cs'.take (m*k)=pre f m:=fun cs q1 q2=>by
  have:=congrArg (List.take (m*k)) q1
  rw [List.take_take,List.take_take,Nat.min_eq_left (Nat.mul_le_mul_right _ hm)] at this
  rw [this,q2]
 rcases h5 with ⟨cs0,q1,q2,q3,q4⟩ | ⟨q1,q2⟩
 .obtain⟨cs,g1,g2,g3,g4,g5⟩:=hr _ _ _ q1
  rw [q2] at g1; cases g1
  exact key _ q4 g5
 .rcases e with _ | ⟨b0,n0,c0⟩
  .have:m=0:=Nat.le_zero.1 hm
   subst this; simp [pre]
  .obtain⟨cs,g1,g2,g3,g4,g5⟩:=hr _ _ _ rfl
   obtain⟨cs2,r1,r2⟩:=q2 _ _ _ rfl
   rw [g1] at r1; cases r1
   exact key _ r2 g5
theorem qQ.next {u:AV} (h:qQ k H e [u] e' H') (hf:∀ i,(f i).length=k) (hr:RdH k f H e (rn e)) (hu:u.cells=f (rn e)):RdH k f H' e' (rn e+1):=fun b n c he=>by
 have h0:=h.old hf hr (Pf) b n c he
 obtain⟨b',c',cs',rfl,hH,h1,h2,h3,h4,h5⟩:=h
 cases he
 obtain⟨cs,g1,g2,g3,g4,g5⟩:=h0
 have g1':cs'=cs:=by
  have:hg H' b=some cs':=(hH _).trans (if_pos rfl)
  rw [this] at g1; exact Pc g1
 subst g1'
 refine⟨cs',(hH _).trans (if_pos rfl),g2,g3,g4,?_⟩
 have h6:flat [u]=f (rn e):=by simp [flat,hu]
 rw [h6,hf] at h4
 rw [sJ,← g5,Nat.succ_mul,List.take_add,h4]
theorem qQ.owner (h:qQ k H e ys e' H') {O:Nat→Nat} {j:Nat} (he:∀ b n c,e=some (b,n,c)→O b=j) {e2:Raw} {j2:Nat} (h1:∀ b n c,e2=some (b,n,c)→(hg H b).isSome=true) (h2:∀ b n c,e2=some (b,n,c)→O b=j2):∀ b n c,e2=some (b,n,c)→(if b=rb e' then j else O b)=j2:=fun b n c hb=>by
 obtain⟨b',c',cs',rfl,hH,_,_,_,_,h5⟩:=h
 show (if b=b' then j else O b)=j2
 by_cases h0:b=b'
 .subst h0
  rw [if_pos rfl]
  rcases h5 with ⟨cs0,q1,_⟩ | ⟨q1,_⟩
  .rw [← he _ _ _ q1,← h2 _ _ _ hb]
  .have:=h1 _ _ _ hb
   rw [q1] at this; cases this
 .rw [if_neg h0]; exact h2 _ _ _ hb
theorem qQ.own (h:qQ k H e ys e' H') (O:Nat→Nat) (j:Nat):∀ b n c,e'=some (b,n,c)→(if b=rb e' then j else O b)=j:=fun b n c hb=>by
 subst hb; exact if_pos rfl
theorem qQ.some (h:qQ k H e ys e' H') {b:Nat} (hb:(hg H b).isSome=true):(hg H' b).isSome=true:=by
 obtain⟨b',c',cs',rfl,hH,_⟩:=h
 rw [hH]
 split
 .rfl
 .exact hb
end appr
theorem RdH.isSome {k:Nat} {f:Nat→List AV} {H:Hp} {e:Raw} {m:Nat} (h:RdH k f H e m):∀ b n c,e=some (b,n,c)→(hg H b).isSome=true:=fun b n c he=>by
 obtain⟨cs,h1,_⟩:=h b n c he
 rw [h1]; rfl

def dd:Hp→Hp
 | []=>[]
 | (b,cs)::r=>(b,cs)::(dd r).filter (fun e=>!Nat.beq e.1 b)
theorem JE {b b0:Nat} (h:b≠b0):∀ H:Hp,hg (H.filter fun e=>!Nat.beq e.1 b0) b=hg H b
 | []=>rfl
 | (b',cs)::r=>by
  rw [List.filter_cons]
  by_cases e:b'=b0
  .subst e
   rw [if_neg (by simp),gH,if_neg (fun e=>h e.symm)]; exact JE h r
  .have hb:Nat.beq b' b0=false:=by
    cases hq:Nat.beq b' b0 with
    | false=>rfl
    | true=>exact(e (P2 hq)).elim
   rw [if_pos (by simp [hb]),gH,gH,JE h r]
theorem G8a (b:Nat):∀ H:Hp,hg (dd H) b=hg H b
 | []=>rfl
 | (b',cs)::r=>by
  show hg ((b',cs)::(dd r).filter _) b=_
  rw [gH,gH]
  by_cases e:b'=b
  .rw [if_pos e,if_pos e]
  .rw [if_neg e,if_neg e,JE (Ne.symm e),G8a b r]
theorem G20:∀ H:Hp,((dd H).map Prod.fst).Nodup
 | []=>List.nodup_nil
 | (b',cs)::r=>by
  show (b'::((dd r).filter _).map Prod.fst).Nodup
  refine List.nodup_cons.2 ⟨fun h=>?_,(G20 r).sublist (List.filter_sublist.map _)⟩
  obtain⟨e,h1,h2⟩:=Pt.1 h
  have:=(Pw.1 h1).2
  rw [h2] at this
  simp at this
theorem RdH.dd {k:Nat} {f:Nat→List AV} {H:Hp} {e:Raw} {m:Nat} (h:RdH k f H e m):RdH k f (dd H) e m:=fun b n c he=>by
 obtain⟨cs,h1,h2⟩:=h b n c he
 exact⟨cs,by rw [G8a]; exact h1,h2⟩
theorem H90:∀ {H:Hp},(H.map Prod.fst).Nodup→∀ {b:Nat} {cs:List AV},(b,cs)∈H→hg H b=some cs
 | (b',cs')::r,hn,b,cs,h=>by
  have hn:=List.nodup_cons.1 hn
  rcases Pv.1 h with h | h
  .cases h; exact if_pos rfl
  .have:b'≠b:=fun e=>hn.1 (by rw [e]; exact Pt.2 ⟨_,h,rfl⟩)
   rw [gH,if_neg this]; exact H90 hn.2 h
theorem H20 {p E:Nat} {H:Hp} {M:Loc} (hM:∀ id,p≤id→lk M id=none):kH (HL p E H++M) (HL p E (dd H)++M):=fun id=>by
 rcases P4 id p with h | h
 .rw [Za h,Za h]
 .obtain⟨b,rfl⟩:∃ b,id=p+b:=⟨id - p,by omega⟩
  rw [RH,RH,G8a]
theorem GY {p E:Nat} {H:Hp} {L M':Loc} {ok:Nat→Bool} (hn:(H.map Prod.fst).Nodup) (hL:∀ b cs,hg H b=some cs→lk L (p+b)=some (.pin E b cs)) (hM:bQ ok L M'):bQ ok L (HL p E H++M'):=by
 have key:∀ G:Hp,(∀ b cs,(b,cs)∈G→lk L (p+b)=some (.pin E b cs))→bQ ok L (HL p E G++M'):=by
  intro G
  induction G with
  | nil=>exact fun _=>hM
  | cons x r ih=>exact fun h=>⟨⟨_,h _ _ (List.mem_cons_self ..),.pin⟩,ih fun b cs hb=>h b cs (List.mem_cons_of_mem _ hb)⟩
 exact key H fun b cs hb=>hL b cs (H90 hn hb)
theorem HD {p:Nat} {L:Loc}:∀ {H0:Hp},(∀ e∈H0,(lk L (p+e.1)).isSome=true)→allIn L (H0.map fun e=>p+e.1)=true
 | [],_=>rfl
 | e::r,h=>by
  show ((lk L (p+e.1)).isSome&&allIn L (r.map fun e=>p+e.1))=true
  rw [h e (List.mem_cons_self ..),HD fun e' he=>h e' (List.mem_cons_of_mem _ he)]; rfl
end Go.Proofs.YthkihfoleenlmaaGreat
