/-
 A heap of blocks whose places are known: Rows of slices,filled and appended to one by one:
-/
import Derived.Test.YtbgfgnddogfpcaaGreatGrd
import Derived.Test.YtbgfgnddogfpcaaGreatSortB
namespace Go.Proofs.YtbgfgnddogfpcaaGreat
open Go.RowKit
set_option linter.unusedVariables false
set_option linter.unusedSimpArgs false

abbrev Hp:=List (Nat×AD)
def hg:Hp->Nat->Option AD
 | [],_=>none
 | (b',cs)::r,b=>if b'=b then some cs else hg r b
def HL (p E:Nat) (H:Hp):Loc:=H.map fun e=>(p+e.1,Jb.pin E e.1 e.2)
variable {H:Hp} {cs:AD}
theorem gR {b b':Nat} :hg ((b',cs)::H) b=if b'=b then some cs else hg H b:=rfl
theorem ZN {p E:Nat} {M:Loc} (b:Nat):∀ H:Hp,lk (HL p E H++M) (p+b)=match hg H b with
  | some cs=>some (.pin E b cs)
  | none=>lk M (p+b)
 | []=>rfl
 | (b',cs)::r=>by
  show lk ((p+b',.pin E b' cs)::(HL p E r++M)) (p+b)=_
  rw [Ge,gR];by_cases e:b'=b
  .subst e; rw [if_pos rfl,if_pos rfl]
  .rw [if_neg (by omega),if_neg e]; exact ZN b r
theorem Yu {p E:Nat} {M:Loc} {id:Nat} (h:id < p):∀ H:Hp,lk (HL p E H++M) id=lk M id
 | []=>rfl
 | (b',cs)::r=>by
  show lk ((p+b',.pin E b' cs)::(HL p E r++M)) id=_
  rw [Ge,if_neg (by omega)]; exact Yu h r
variable {M:Loc} {E p:Nat}
theorem mT {b:Nat} (h:hg H b=some cs):lk (HL p E H++M) (p+b)=some (.pin E b cs):=by rw [ZN,h]

abbrev Raw:=Option (Nat×Nat×Nat)
def rv:Raw->Value
 | none=>.slice none 0 0
 | some (b,n,c)=>.slice (some ⟨b,0,none⟩) n c
def rn:Raw->Nat
 | none=>0
 | some (_,n,_)=>n
def rb:Raw->Nat
 | none=>0
 | some (b,_,_)=>b
def RA (e:Raw):AV:=.sc (rv e)
abbrev Ed:=LS 1 RA

def pre (f:Nat->AD) (m:Nat):AD:=(List.range m).flatMap f
theorem tY (f:Nat->AD) (m:Nat):pre f (m+1)=pre f m++f m:=by simp [pre,List.range_succ]
theorem JK {f:Nat->AD} {k:Nat} (hf:∀ i,(f i).length=k):∀ m,(pre f m).length=m*k
 | 0=>by simp [pre]
 | m+1=>by rw [tY,Pn,JK hf m,hf,Nat.succ_mul]
variable {k m:Nat} {f:Nat->AD}
theorem H72 (hf:∀ i,(f i).length=k) {n:Nat} (h:m<=n):(pre f n).take (m*k)=pre f m:=by
 induction n with
 | zero=>
  have:m=0:=by omega
  subst this; simp [pre]
 | succ n ih=>
  rw [tY];rcases P4 n m with hn | hn
  .have:m=n+1:=by omega
   subst this;rw [tY,List.take_of_length_le];rw [Pn,JK hf,hf,Nat.succ_mul]; omega
  .rw [List.take_append_of_le_length (by rw [JK hf]; exact Nat.mul_le_mul_right _ hn)];exact ih hn
def RdH (k:Nat) (f:Nat->AD) (H:Hp) (e:Raw) (m:Nat):Prop:=
 ∀ b n c,e=some (b,n,c)->∃ cs,hg H b=some cs/\n<=c/\c<=maxLen/\cs.length=c*k/\cs.take (m*k)=pre f m
theorem H60:∀ {k:Nat} {l r:AD},l.length=k->takeN k (l++r)=some l
 | 0,l,r,h=>by have:=P1 h; subst this; rfl
 | k+1,[],r,h=>by simp at h
 | k+1,x::l,r,h=>by
  have:=H60 (k:=k) (l:=l) (r:=r) (by simpa using h);simp [takeN,this]
variable {i:Nat}
theorem Jaf (hf:∀ i,(f i).length=k) (h:cs.take (m*k)=pre f m) (hi:i < m):takeN k (cs.drop (i*k))=some (f i):=by
 have h1:cs.take ((i+1)*k)=pre f i++f i:=by
  rw [<- tY,<- H72 hf (show i+1<=m by omega),<- h,List.take_take,Nat.min_eq_left (Nat.mul_le_mul_right _ (by omega))]
 have h2:cs.drop (i*k)=f i++cs.drop ((i+1)*k):=by
  have e:cs=(pre f i++f i)++cs.drop ((i+1)*k):=by rw [<- h1]; exact(List.take_append_drop _ _).symm
  have e2:cs.drop (i*k)=((pre f i++f i)++cs.drop ((i+1)*k)).drop (i*k):=by rw [<- e]
  rw [e2,List.append_assoc,List.drop_append_of_le_length (by rw [JK hf]; exact Pf),List.drop_of_length_le (by rw [JK hf]; exact Pf),List.nil_append]
 rw [h2]; exact H60 (hf i)

section ops
variable {P:Program} {o:Oper} {l:Fr} {L M:Loc} {p E k:Nat} {H:Hp} {e:Raw}
variable {T:Nat} {x:Operand}
theorem G86 {E' k':Nat} (ho:o.op=.call { callee:=.builtin .len,args:=#[x],argTypes:=#[T] }) (hT:sliceB P T E' k'=true) (hx:ev l x=RA e):Gy P o l L (Is (I64 (rn e:Int)) L):=by
 rcases e with _ | ⟨b,n,c⟩
 .exact sW ho hT hx
 .exact sW ho hT hx
theorem G87 {ix:Operand} {E' k' m:Nat} {kd:IntKind} {z:Int} (ho:o.op=.indexAddr T x ix) (hx:ev l x=RA e) (hi:ev l ix=.sc (.int kd z)) (hT:sliceB P T E' k'=true) (hz:z=(m:Int)) (hm:m < rn e):Gy P o l L (Is (PT (rb e) (m*k')) L):=by
 rcases e with _ | ⟨b,n,c⟩
 .exact absurd hm (Nat.not_lt_zero _)
 .have:=Qa8 (P:=P) (o:=o) (l:=l) (L:=L) (b:=b) (off:=0) (n:=n) (cap:=c) (m:=m) ho hx hi hT hz hm
  rwa [Nat.zero_add] at this
theorem Q51 {f:Nat->AD} {m i:Nat} (hf:∀ i,(f i).length=k) (ho:o.op=.load T x) (hx:ev l x=PT (rb e) (i*k)) (hT:gQ P T k=true) (hr:RdH k f H e m) (h0:i < m) (hm:m<=rn e):Gy P o l (HL p E H++M) (Is (.agg (f i)) (HL p E H++M)):=by
 rcases e with _ | ⟨b,n,c⟩
 .exact absurd (P0 h0 hm) (Nat.not_lt_zero _)
 .obtain⟨cs,h1,h2,h3,h4,h5⟩:=hr b n c rfl;exact J23 ho hx hT (mT h1) (Jaf hf h5 h0)
theorem Jde {f:Nat->AD} {y:Operand} {i:Nat} {u:AV} (hf:∀ i,(f i).length=k) (ho:o.op=.store T x y) (hx:ev l x=PT (rb e) (i*k)) (hT:R3 P T k=true) (hu:ev l y=u) (hr:RdH k f H e i) (hi:i < rn e) (hc:u.BI=true) (hd:Qr (fun _=>false) u.cells=true) (h0:u.cells=f i) :
  Gy P o l (HL p E H++M) (fun u' L'=>u'=.AL/\∃ cs',L'=HL p E ((rb e,cs')::H)++M/\RdH k f ((rb e,cs')::H) e (i+1)/\(hg H (rb e)).isSome=true):=by
 rcases e with _ | ⟨b,n,c⟩
 .exact absurd hi (Nat.not_lt_zero _)
 .obtain⟨cs,h1,h2,h3,h4,h5⟩:=hr b n c rfl;have h8:i < n:=hi;have h6:i*k+k<=cs.length:=by
   rw [h4,<- Nat.succ_mul]; exact Nat.mul_le_mul_right _ (by omega)
  have hk:u.cells.length=k:=by rw [h0]; exact hf i
  have:=Jdf (P:=P) (o:=o) (l:=l) (L:=HL p E H++M) (u:=u) ho hx hT hu (mT h1) hc hd hk h6;refine fun a w U K Q hs h7 hK=>this a w U K Q hs h7 fun u' L' v w' U' hR=>hK u' L' v w' U' ?_;obtain⟨rfl,rfl⟩:=hR;refine⟨rfl,_,rfl,fun b' n' c' he=>?_,by show (hg H b).isSome=true; rw [h1]; rfl⟩;cases he;refine⟨_,if_pos rfl,h2,h3,?_,?_⟩
  .simp only [Pn,List.length_take,List.length_drop,hk];omega
  .have e1:(cs.take (i*k)++u.cells).length=(i+1)*k:=by rw [Pn,List.length_take,hk,Nat.succ_mul]; omega
   rw [tY,<- h5,<- h0,List.take_append_of_le_length (Nat.le_of_eq e1.symm),List.take_of_length_le (Nat.le_of_eq e1)]
structure rV (k:Nat) (H:Hp) (e:Raw) (ys:AD) (e':Raw) (H':Hp):Prop where
 out:∃ b' c' cs',e'=some (b',rn e+ys.length,c')/\(∀ b,hg H' b=if b'=b then some cs' else hg H b)/\rn e+ys.length<=c'/\c'<=maxLen/\cs'.length=c'*k/\(cs'.drop (rn e*k)).take (flat ys).length=flat ys /\
  ((∃ cs,e=some (b',rn e,c')/\hg H b'=some cs/\cs'.length=cs.length/\cs'.take (rn e*k)=cs.take (rn e*k))\/(hg H b'=none/\∀ b n c,e=some (b,n,c)->∃ cs,hg H b=some cs/\cs'.take (n*k)=cs.take (n*k)))
theorem Qa7 {s:Operand} {by_ kx:Nat} {ys:AD} (ho:o.op=.call { callee:=.builtin .append,args:=#[s,x],argTypes:=#[T,T] }) (hs:ev l s=RA e) (hx:Jv (ev l x)=some (kx,ys)) (hT:sliceB P T E k=true) (hE:Qa P E k by_=true) (a0:∀ y∈ys,y.BI=true) (hk:kx=k) (b8:0 < ys.length)
  (hM:∀ id,p<=id->lk M id=none) (hr:∀ b n c,e=some (b,n,c)->∃ cs,hg H b=some cs/\n<=c/\c<=maxLen/\cs.length=c*k) (a2:rn e+ys.length<=maxLen) (hb:(rn e+ys.length)*by_<=140737488355328) :
  Gy P o l (HL p E H++M) (fun u' L'=>∃ e' H',u'=RA e'/\L'=HL p E H'++M/\rV k H e ys e' H'):=by
 subst hk;by_cases b0:∃ b n c,e=some (b,n,c)/\n+ys.length<=c
 .obtain⟨b,n,c,rfl,h6⟩:=b0;obtain⟨cs,h1,h2,h3,h4⟩:=hr b n c rfl;have:=Qaa (P:=P) (o:=o) (l:=l) (L:=HL p E H++M) (off:=0) (b:=b) (n:=n) (cap:=c) ho hs (mT h1) hx hT hE a0 rfl b8 h6 (by rw [h4]; omega);refine fun a w U K Q h0 b1 hK=>this a w U K Q h0 b1 fun u' L' v w' U' hR=>hK u' L' v w' U' ?_;obtain⟨rfl,rfl⟩:=hR;have a3:∀ y∈ys,y.cells.length=kx:=by
   have hD:=(b1.ev x).Jv hx;obtain⟨ao,c',h7,_,_⟩:=hD.len;rw [h7] at hD;exact hD.vals.2.1
  have h5:(flat ys).length=ys.length*kx:=J2 a3;have d6:n*kx+(flat ys).length<=cs.length:=by rw [h5,h4,<- Nat.add_mul]; exact Nat.mul_le_mul_right _ h6
  refine⟨some (b,n+ys.length,c),(_,_)::H,rfl,rfl,⟨b,c,_,rfl,fun _=>gR,h6,h3,?_,?_,.inl ⟨cs,rfl,h1,?_,?_⟩⟩⟩
  .simp only [Pn,List.length_take,List.length_drop,Nat.zero_add]; omega
  .show List.take _ (List.drop (n*kx) _)=_
   rw [Nat.zero_add,List.append_assoc,List.drop_append_of_le_length (by rw [List.length_take]; omega),List.drop_of_length_le (by rw [List.length_take]; omega),List.nil_append,List.take_append_of_le_length (Pf),List.take_length]
  .simp only [Pn,List.length_take,List.length_drop,Nat.zero_add]; omega
  .show List.take (n*kx) _=_
   rw [Nat.zero_add,List.append_assoc,List.take_append_of_le_length (by rw [List.length_take]; omega),List.take_take,Nat.min_self]; rfl
 .intro a w U K Q h0 hf hK;have h1:=hf.ev s;rw [hs] at h1;have hd:=(hf.ev x).Jv hx;obtain⟨ao,cx,h7,_,_⟩:=hd.len;rw [h7] at hd;obtain⟨_,a3,c2,vals,a4,c3,b2⟩:=hd.vals;obtain⟨inf,zv,e1,e2,e3,e4,e5,e6⟩:=Qa.out hE;have h5:(flat ys).length=ys.length*kx:=J2 a3;have d3:∀ u∈vals,u.oneCell'=true:=fun u hu=>by
   obtain⟨j,hj⟩:=List.getElem?_of_mem hu;have b3:j < (flat ys).length:=by have:=(Pa hj).1; omega
   obtain⟨x',h8,a5⟩:=b2 j _ (Pb b3);rw [hj] at h8; cases h8;exact(V.data (U:=U) (L:=HL p E H++M) a5).cell (kS a0 (List.getElem_mem b3))
  have b9:lk (HL p E H++M) (p+w.heap.size)=none:=by
   rw [ZN];cases hh:hg H w.heap.size with
   | none=>exact hM _ (Nat.le_add_right _ _)
   | some cs=>
    have hl:lk (HL p E H++M) (p+w.heap.size)=some (.pin E w.heap.size cs):=mT hh;have:=h0.bnd _ _ (by rw [hl]; rfl) (vL h0 hl).1;omega
  have c4:hg H w.heap.size=none:=by
   cases hh:hg H w.heap.size with
   | none=>rfl
   | some cs=>
    have hl:lk (HL p E H++M) (p+w.heap.size)=some (.pin E w.heap.size cs):=mT hh;have:=h0.bnd _ _ (by rw [hl]; rfl) (vL h0 hl).1;omega
  cases ao with
  | none=>have:=c2 rfl; omega
  | some ad=>
   have a1:∀ j u,vals[j]? = some u->w.cell? (ad.add j)=some u:=fun j u hu=>c3 ad j u rfl hu
   -- the old elements
   have hold:∃ (olds:AK) (os:AD),olds.length=rn e*kx/\os.length=rn e*kx/\(∀ (j:Nat) u v,os[j]? = some u->olds[j]? = some v->D w (Hs w U (HL p E H++M)) u v)/\(∀ b n c,e=some (b,n,c)->∃ cs,hg H b=some cs/\os=cs.take (n*kx)) /\
     ∃ c0,((execOp a.eval o).run P w=.ok (.value (.slice (some ⟨w.heap.size,0,none⟩) (rn e+ys.length) (grownCap w (rn e+ys.length) c0 E))) (w.drew.alloc (.cells (olds.toArray++vals.toArray++Builtin.zeroCells zv.cells (grownCap w (rn e+ys.length) c0 E - (rn e+ys.length))) E))):=by
    rcases e with _ | ⟨b,n,c⟩
    .refine⟨[],[],by simp [rn],by simp [rn],fun j u v hu=>by simp at hu,fun b n c he=>(by cases he),0,?_⟩;have a6:=run_append_nil (P:=P) w T o.type E inf zv (sliceB.out hT).1 e1 e4 ad ys.length cx vals (by rw [a4,h5,e2]) a1 (by omega) (by simp only [maxLen,rn] at a2; omega) (by rw [e3]; simp only [rn,Nat.zero_add] at hb; omega);have h9:=h1.inv_sc;simp only [rv] at h9;simp [execOp,ho,resolve,invoke,builtin,h9,h7,a6,rn]
    .obtain⟨cs,g1,g2,g3,g4⟩:=hr b n c rfl;obtain⟨d7,old,c5,c6,c7⟩:=vL h0 (mT (p:=p) (E:=E) (M:=M) g1);have d8:n*kx<=cs.length:=by rw [g4]; exact Nat.mul_le_mul_right _ g2
     have b4:(old.toList.take (n*kx)).length=n*kx:=by rw [List.length_take,Array.length_toList,c6]; omega
     refine⟨old.toList.take (n*kx),cs.take (n*kx),b4,by rw [List.length_take]; show _=n*kx; omega,fun j u v hu hv=>?_,fun b' n' c' he=>(by cases he; exact⟨cs,g1,rfl⟩),c,?_⟩
     .rw [Pk] at hu hv;split at hu
      .rename_i hj;rw [if_pos hj,Array.getElem?_toList] at hv;exact c7 j u v hu hv
      .cases hu
     .have b5:c < n+ys.length:=by
       rcases P4 c (n+ys.length) with h | h
       .exact h
       .exact(b0 ⟨b,n,c,rfl,h⟩).elim
      have a6:=run_append_grow (P:=P) w T o.type E inf zv (sliceB.out hT).1 e1 e4 ⟨b,0,none⟩ n c (old.toList.take (n*kx)) (by rw [b4,e2]) (fun j v hj=>by
       rw [Pk] at hj;split at hj
       .rw [Array.getElem?_toList] at hj;simp [Addr.add_lit,World.cell?,c5,hj]
       .cases hj) ad ys.length cx vals (by rw [a4,h5,e2]) a1 b5 (by simp only [maxLen,rn] at a2; omega) (growslice_fits b5 (by rw [e3]; exact hb))
      have h9:=h1.inv_sc;simp only [rv] at h9;simp [execOp,ho,resolve,invoke,builtin,h9,h7,a6,rn]
   obtain⟨olds,os,c8,a7,c9,d0,c0,c1⟩:=hold;have a8:=grownCap_ge w (rn e+ys.length) c0 E;have b6:=grownCap_le_maxLen w (rn e+ys.length) c0 E a2;unfold Oper.wp;rw [c1];generalize d4:grownCap w (rn e+ys.length) c0 E=cap at a8 b6;have d5:(cap - (rn e+ys.length))*kx+(rn e*kx+ys.length*kx)=cap*kx:=by rw [<- Nat.add_mul,<- Nat.add_mul,Nat.sub_add_cancel a8]
   have b7:(os++flat ys++List.replicate ((cap - (rn e+ys.length))*kx) AV.AL).length=cap*kx:=by
    rw [Pn,Pn,a7,h5,List.length_replicate]; omega
   obtain⟨st,sat⟩:=J33 (w':=w.drew.alloc (.cells (olds.toArray++vals.toArray++Builtin.zeroCells zv.cells (cap - (rn e+ys.length))) E)) (t:=E) (cs:=os++flat ys++List.replicate ((cap - (rn e+ys.length))*kx) AV.AL) h0 b9 rfl rfl ⟨rfl,Nat.le_succ _⟩ _ rfl (by
     rw [b7];simp only [Array.size_append,List.size_toArray,size_zeroCells,c8,a4,h5,e5]; omega) (fun j u v hu hv=>by
     rcases P4 j (os++flat ys).length with hj | hj
     .rw [Ph hj] at hu;rw [Array.getElem?_append_left (by simp only [Array.size_append,List.size_toArray]; rw [Pn] at hj; omega)] at hv;rcases P4 j os.length with a9 | a9
      .rw [Ph a9] at hu;rw [Array.getElem?_append_left (by simp only [List.size_toArray]; omega)] at hv;exact c9 j u v hu (by simpa using hv)
      .rw [Pg a9] at hu;rw [Array.getElem?_append_right (by simp only [List.size_toArray]; omega)] at hv;obtain⟨x',h8,a5⟩:=b2 _ u hu;rw [show j - olds.toArray.size=j - os.length by simp only [List.size_toArray]; omega] at hv;have d1:vals[j - os.length]? = some v:=by simpa using hv
       rw [d1] at h8; cases h8;exact a5
     .rw [Pg hj] at hu;have:=List.eq_of_mem_replicate (Pd hu);subst this;exact .AL)
   refine hK _ _ _ _ _ ⟨some (w.heap.size,rn e+ys.length,cap),(w.heap.size,_)::H,rfl,rfl,⟨w.heap.size,cap,_,rfl,fun _=>gR,a8,b6,b7,?_,.inr ⟨c4,fun b n c he=>?_⟩⟩⟩ sat st .sc
   .rw [List.append_assoc,List.drop_append_of_le_length (by omega),List.drop_of_length_le (by omega),List.nil_append,List.take_append_of_le_length (Pf),List.take_length]
   .obtain⟨cs,g1,g2⟩:=d0 b n c he;refine⟨cs,g1,?_⟩;subst he;have d2:os.length=n*kx:=a7;rw [List.append_assoc,List.take_append_of_le_length (by omega),List.take_of_length_le (by omega),g2]
end ops
section appr
variable {k:Nat} {f:Nat->AD} {H H':Hp} {e e':Raw} {ys:AD}
theorem rV.len (h:rV k H e ys e' H'):rn e'=rn e+ys.length:=by
 obtain⟨b',c',cs',rfl,_⟩:=h; rfl
theorem rV.rd (h:rV k H e ys e' H') {e2:Raw} {m2:Nat} (hr:RdH k f H e2 m2) (hm:∀ b n c n' c',e2=some (b,n,c)->e=some (b,n',c')->m2<=rn e):RdH k f H' e2 m2:=fun b n c he=>by
 obtain⟨b',c',cs',rfl,hH,h1,h2,h3,h4,h5⟩:=h;obtain⟨cs,g1,g2,g3,g4,g5⟩:=hr b n c he;by_cases hb:b'=b
 .subst hb;rcases h5 with ⟨cs0,q1,q2,q3,q4⟩ | ⟨q1,_⟩
  .rw [g1] at q2; cases q2;have h0:=hm b' n c _ _ he q1;refine⟨cs',(hH _).trans (if_pos rfl),g2,g3,q3.trans g4,?_⟩;have:=congrArg (List.take (m2*k)) q4;rw [List.take_take,List.take_take,Nat.min_eq_left (Nat.mul_le_mul_right _ h0)] at this;rw [this,g5]
  .rw [q1] at g1; cases g1
 .exact⟨cs,by rw [hH,if_neg hb]; exact g1,g2,g3,g4,g5⟩
theorem rV.old (h:rV k H e ys e' H') (hf:∀ i,(f i).length=k) {m:Nat} (hr:RdH k f H e m) (hm:m<=rn e):RdH k f H' e' m:=fun b n c he=>by
 obtain⟨b',c',cs',rfl,hH,h1,h2,h3,h4,h5⟩:=h;cases he;refine⟨cs',(hH _).trans (if_pos rfl),h1,h2,h3,?_⟩;have key:∀ cs:AD,cs'.take (rn e*k)=cs.take (rn e*k)->cs.take (m*k)=pre f m->cs'.take (m*k)=pre f m:=fun cs q1 q2=>by
  have:=congrArg (List.take (m*k)) q1;rw [List.take_take,List.take_take,Nat.min_eq_left (Nat.mul_le_mul_right _ hm)] at this;rw [this,q2]
 rcases h5 with ⟨cs0,q1,q2,q3,q4⟩ | ⟨q1,q2⟩
 .obtain⟨cs,g1,g2,g3,g4,g5⟩:=hr _ _ _ q1;rw [q2] at g1; cases g1;exact key _ q4 g5
 .rcases e with _ | ⟨b0,n0,c0⟩
  .have:m=0:=Nat.le_zero.1 hm;subst this; simp [pre]
  .obtain⟨cs,g1,g2,g3,g4,g5⟩:=hr _ _ _ rfl;obtain⟨cs2,r1,r2⟩:=q2 _ _ _ rfl;rw [g1] at r1; cases r1;exact key _ r2 g5
theorem rV.next {u:AV} (h:rV k H e [u] e' H') (hf:∀ i,(f i).length=k) (hr:RdH k f H e (rn e)) (hu:u.cells=f (rn e)):RdH k f H' e' (rn e+1):=fun b n c he=>by
 have h0:=h.old hf hr (Pf) b n c he;obtain⟨b',c',cs',rfl,hH,h1,h2,h3,h4,h5⟩:=h;cases he;obtain⟨cs,g1,g2,g3,g4,g5⟩:=h0;have g1':cs'=cs:=by
  have:hg H' b=some cs':=(hH _).trans (if_pos rfl);rw [this] at g1; exact Pc g1
 subst g1';refine⟨cs',(hH _).trans (if_pos rfl),g2,g3,g4,?_⟩;have h6:flat [u]=f (rn e):=by simp [flat,hu]
 rw [h6,hf] at h4;rw [tY,<- g5,Nat.succ_mul,List.take_add,h4]
theorem rV.owner (h:rV k H e ys e' H') {O:Nat->Nat} {j:Nat} (he:∀ b n c,e=some (b,n,c)->O b=j) {e2:Raw} {j2:Nat} (h1:∀ b n c,e2=some (b,n,c)->(hg H b).isSome=true) (h2:∀ b n c,e2=some (b,n,c)->O b=j2):∀ b n c,e2=some (b,n,c)->(if b=rb e' then j else O b)=j2:=fun b n c hb=>by
 obtain⟨b',c',cs',rfl,hH,_,_,_,_,h5⟩:=h;show (if b=b' then j else O b)=j2
 by_cases h0:b=b'
 .subst h0;rw [if_pos rfl];rcases h5 with ⟨cs0,q1,_⟩ | ⟨q1,_⟩
  .rw [<- he _ _ _ q1,<- h2 _ _ _ hb]
  .have:=h1 _ _ _ hb;rw [q1] at this; cases this
 .rw [if_neg h0]; exact h2 _ _ _ hb
theorem rV.own (h:rV k H e ys e' H') (O:Nat->Nat) (j:Nat):∀ b n c,e'=some (b,n,c)->(if b=rb e' then j else O b)=j:=fun b n c hb=>by
 subst hb; exact if_pos rfl
theorem rV.some (h:rV k H e ys e' H') {b:Nat} (hb:(hg H b).isSome=true):(hg H' b).isSome=true:=by
 obtain⟨b',c',cs',rfl,hH,_⟩:=h;rw [hH];split
 .rfl
 .exact hb
end appr
variable {e:Raw}
theorem RdH.isSome (h:RdH k f H e m):∀ b n c,e=some (b,n,c)->(hg H b).isSome=true:=fun b n c he=>by
 obtain⟨cs,h1,_⟩:=h b n c he;rw [h1]; rfl

def dd:Hp->Hp
 | []=>[]
 | (b,cs)::r=>(b,cs)::(dd r).filter (fun e=>!Nat.beq e.1 b)
theorem RR {b b0:Nat} (h:b≠b0):∀ H:Hp,hg (H.filter fun e=>!Nat.beq e.1 b0) b=hg H b
 | []=>rfl
 | (b',cs)::r=>by
  rw [List.filter_cons];by_cases e:b'=b0
  .subst e;rw [if_neg (by simp),gR,if_neg (fun e=>h e.symm)]; exact RR h r
  .have hb:Nat.beq b' b0=false:=by
    cases hq:Nat.beq b' b0 with
    | false=>rfl
    | true=>exact(e (P2 hq)).elim
   rw [if_pos (by simp [hb]),gR,gR,RR h r]
theorem Gda (b:Nat):∀ H:Hp,hg (dd H) b=hg H b
 | []=>rfl
 | (b',cs)::r=>by
  show hg ((b',cs)::(dd r).filter _) b=_
  rw [gR,gR];by_cases e:b'=b
  .rw [if_pos e,if_pos e]
  .rw [if_neg e,if_neg e,RR (Ne.symm e),Gda b r]
theorem G64:∀ H:Hp,((dd H).map Prod.fst).Nodup
 | []=>List.nodup_nil
 | (b',cs)::r=>by
  show (b'::((dd r).filter _).map Prod.fst).Nodup
  refine List.nodup_cons.2 ⟨fun h=>?_,(G64 r).sublist (List.filter_sublist.map _)⟩;obtain⟨e,h1,h2⟩:=Pt.1 h;have:=(Pw.1 h1).2;rw [h2] at this;simp at this
theorem RdH.dd (h:RdH k f H e m):RdH k f (dd H) e m:=fun b n c he=>by
 obtain⟨cs,h1,h2⟩:=h b n c he;exact⟨cs,by rw [Gda]; exact h1,h2⟩
theorem J10:∀ {H:Hp},(H.map Prod.fst).Nodup->∀ {b:Nat} {cs:AD},(b,cs)∈H->hg H b=some cs
 | (b',cs')::r,hn,b,cs,h=>by
  have hn:=List.nodup_cons.1 hn;rcases Pv.1 h with h | h
  .cases h; exact if_pos rfl
  .have:b'≠b:=fun e=>hn.1 (by rw [e]; exact Pt.2 ⟨_,h,rfl⟩);rw [gR,if_neg this]; exact J10 hn.2 h
theorem H7d (hM:∀ id,p<=id->lk M id=none):fL (HL p E H++M) (HL p E (dd H)++M):=fun id=>by
 rcases P4 id p with h | h
 .rw [Yu h,Yu h]
 .obtain⟨b,rfl⟩:∃ b,id=p+b:=⟨id - p,by omega⟩;rw [ZN,ZN,Gda]
variable {L:Loc}
theorem JW {M':Loc} {ok:Nat->Bool} (hn:(H.map Prod.fst).Nodup) (hL:∀ b cs,hg H b=some cs->lk L (p+b)=some (.pin E b cs)) (hM:aX ok L M'):aX ok L (HL p E H++M'):=by
 have key:∀ G:Hp,(∀ b cs,(b,cs)∈G->lk L (p+b)=some (.pin E b cs))->aX ok L (HL p E G++M'):=by
  intro G
  induction G with
  | nil=>exact fun _=>hM
  | cons x r ih=>exact fun h=>⟨⟨_,h _ _ (List.mem_cons_self ..),.pin⟩,ih fun b cs hb=>h b cs (List.mem_cons_of_mem _ hb)⟩
 exact key H fun b cs hb=>hL b cs (J10 hn hb)
theorem QD {p:Nat} {L:Loc}:∀ {H0:Hp},(∀ e∈H0,(lk L (p+e.1)).isSome=true)->allIn L (H0.map fun e=>p+e.1)=true
 | [],_=>rfl
 | e::r,h=>by
  show ((lk L (p+e.1)).isSome&&allIn L (r.map fun e=>p+e.1))=true
  rw [h e (List.mem_cons_self ..),QD fun e' he=>h e' (List.mem_cons_of_mem _ he)]; rfl
set_option linter.unusedVariables false
set_option linter.unusedSimpArgs false

variable {R:AV->Loc->Prop} {l:Fr} {o:Oper} {P:Program}
theorem Gy.re {R':AV->Loc->Prop} (h:Gy P o l L R) (hr:∀ u L',R u L'->∃ L'',R' u L''/\fL L' L''):Gy P o l L R':=fun a w U K Q hs hf hK=>
 h a w U K Q hs hf fun u L' v w' U' hR h0 st hv=>by
  obtain⟨L'',h1,e⟩:=hr u L' hR;exact hK u L'' v w' U' h1 (h0.BK e) (st.BK e) (hv.BK e)
structure WrR (k:Nat) (f:Nat->AD) (H:Hp) (e:Raw) (i:Nat) (H':Hp):Prop where
 rd:RdH k f H' e (i+1)
 oth:∀ b,b≠rb e->hg H' b=hg H b
 some:∀ b,(hg H b).isSome=true->(hg H' b).isSome=true
section ops
variable {P:Program} {o:Oper} {l:Fr} {L M:Loc} {p E k:Nat} {H:Hp} {e:Raw}
theorem J92 {f:Nat->AD} {x y:Operand} {T i:Nat} {u:AV} (hf:∀ i,(f i).length=k) (ho:o.op=.store T x y) (hx:ev l x=PT (rb e) (i*k)) (hT:R3 P T k=true) (hu:ev l y=u) (hr:RdH k f H e i) (hi:i < rn e) (hM:∀ id,p<=id->lk M id=none) (hc:u.BI=true) (hd:Qr (fun _=>false) u.cells=true) (h0:u.cells=f i) :
  Gy P o l (HL p E H++M) (fun u' L'=>u'=.AL/\∃ H',L'=HL p E H'++M/\(H'.map Prod.fst).Nodup/\WrR k f H e i H'):=
 (Jde hf ho hx hT hu hr hi hc hd h0).re fun u' L' hR=>by
  obtain⟨h1,cs',rfl,h2,h3⟩:=hR;refine⟨_,⟨h1,_,rfl,G64 _,h2.dd,fun b hb=>?_,fun b hb=>?_⟩,H7d hM⟩
  .rw [Gda,gR,if_neg (Ne.symm hb)]
  .rw [Gda,gR];split
   .rfl
   .exact hb
theorem rV.dd {e':Raw} {H':Hp} {ys:AD} (h:rV k H e ys e' H'):rV k H e ys e' (dd H'):=by
 obtain⟨b',c',cs',h0,hH,h1⟩:=h;exact⟨b',c',cs',h0,fun b=>(Gda b H').trans (hH b),h1⟩
theorem J51 {s x:Operand} {T by_ kx:Nat} {ys:AD} (ho:o.op=.call { callee:=.builtin .append,args:=#[s,x],argTypes:=#[T,T] }) (hs:ev l s=RA e) (hx:Jv (ev l x)=some (kx,ys)) (hT:sliceB P T E k=true) (hE:Qa P E k by_=true) (h0:∀ y∈ys,y.BI=true) (hk:kx=k) (h3:0 < ys.length)
  (hM:∀ id,p<=id->lk M id=none) (hr:∀ b n c,e=some (b,n,c)->∃ cs,hg H b=some cs/\n<=c/\c<=maxLen/\cs.length=c*k) (h4:rn e+ys.length<=maxLen) (hb:(rn e+ys.length)*by_<=140737488355328) :
  Gy P o l (HL p E H++M) (fun u' L'=>∃ e' H',u'=RA e'/\L'=HL p E H'++M/\(H'.map Prod.fst).Nodup/\rV k H e ys e' H'):=
 (Qa7 ho hs hx hT hE h0 hk h3 hM hr h4 hb).re fun u' L' hR=>by
  obtain⟨e',H',h1,rfl,h2⟩:=hR;exact⟨_,⟨e',_,h1,rfl,G64 _,h2.dd⟩,H7d hM⟩
end ops
theorem RdH.own (h:RdH k f H e m):∀ b n c,e=some (b,n,c)->∃ cs,hg H b=some cs/\n<=c/\c<=maxLen/\cs.length=c*k:=fun b n c he=>by
 obtain⟨cs,h1,h2,h3,h4,_⟩:=h b n c he;exact⟨cs,h1,h2,h3,h4⟩
variable {H':Hp}
theorem RdH.st {g:Nat->AD} {e2:Raw} (h:RdH k f H e2 m) (hs:WrR k g H e i H') (hb:∀ b n c,e2=some (b,n,c)->b≠rb e):RdH k f H' e2 m:=fun b n c he=>by
 obtain⟨cs,h1,h2⟩:=h b n c he;exact⟨cs,(hs.oth b (hb b n c he)).trans h1,h2⟩
def Ow (O:Nat->Nat) (es:List Raw):Prop:=∀ (j:Nat) e b n c,es[j]? = some e->e=some (b,n,c)->O b=j
def IA (K:Nat) (mk:Nat->Nat->AD) (es:List Raw) (H:Hp) (k i:Nat):Prop:=∀ (j:Nat) e,es[j]? = some e->RdH K (mk j) H e (if j < k then rn e else if j=k then i else 0)
section ia
variable {K:Nat} {mk:Nat->Nat->AD} {es:List Raw} {H H':Hp} {O:Nat->Nat} {k i:Nat} {e:Raw}
theorem IA.start (h:∀ (j:Nat) e,es[j]? = some e->∀ b n c,e=some (b,n,c)->∃ cs,hg H b=some cs/\n<=c/\c<=maxLen/\cs.length=c*K):IA K mk es H 0 0:=fun j e he b n c hb=>by
 obtain⟨cs,h1,h2,h3,h4⟩:=h j e he b n c hb;refine⟨cs,h1,h2,h3,h4,?_⟩;rw [if_neg (Nat.not_lt_zero _)];split <;> simp [pre]
theorem IA.at_ (h:IA K mk es H k i) (he:es[k]? = some e):RdH K (mk k) H e i:=by
 have:=h k e he
 rwa [if_neg (Nat.lt_irrefl _),if_pos rfl] at this
theorem IA.store (h:IA K mk es H k i) (hO:Ow O es) (he:es[k]? = some e) (hi:i < rn e) (hs:WrR K (mk k) H e i H'):IA K mk es H' k (i+1):=fun j e2 h0=>by
 by_cases hj:j=k
 .subst hj;rw [he] at h0; cases h0;rw [if_neg (Nat.lt_irrefl _),if_pos rfl]; exact hs.rd
 .have:=h j e2 h0;rw [if_neg hj] at this ⊢;refine this.st hs fun b n c hb h1=>hj ?_;rcases e with _ | ⟨b0,n0,c0⟩
  .exact absurd hi (Nat.not_lt_zero _)
  .rw [<- hO j e2 b n c h0 hb,<- hO k _ b0 n0 c0 he rfl];exact congrArg O h1
theorem IA.next (h:IA K mk es H k (rn e)) (he:es[k]? = some e):IA K mk es H (k+1) 0:=fun j e2 h0=>by
 have:=h j e2 h0;by_cases hj:j=k
 .subst hj;rw [he] at h0; cases h0;rw [if_neg (Nat.lt_irrefl _),if_pos rfl] at this
  rwa [if_pos (Nat.lt_succ_self _)]
 .rw [if_neg hj] at this;by_cases h2:j < k
  .rw [if_pos h2] at this; rwa [if_pos (by omega)]
  .rw [if_neg h2] at this;rw [if_neg (by omega)];split <;> exact this
theorem IA.all (h:IA K mk es H es.length 0):∀ (j:Nat) e,es[j]? = some e->RdH K (mk j) H e (rn e):=fun j e he=>by
 have:=h j e he
 rwa [if_pos (Pa he).1] at this
end ia
structure IG (K q:Nat) (mk:Nat->Nat->AD) (es:List Raw) (H:Hp) (gs:List Raw) (O:Nat->Nat) (k:Nat):Prop where
 ow:Ow O es
 ls:∀ (j:Nat) e,es[j]? = some e->RdH K (mk j) H e (rn e)
 len:gs.length=es.length
 gs:∀ (j:Nat) g e,j < k->gs[j]? = some g->es[j]? = some e->rn g=rn e+64/\RdH K (mk j) H g (rn e+q)/\∀ b n c,g=some (b,n,c)->O b=j
section ig
variable {K q:Nat} {mk:Nat->Nat->AD} {es:List Raw} {H H':Hp} {gs:List Raw} {O:Nat->Nat} {k:Nat} {e g0 g':Raw} {ys:AD}
theorem IG.app (h:IG K q mk es H gs O k) (he:es[k]? = some e) (h5:rn e<=rn g0) (h4:∀ b n c,g0=some (b,n,c)->O b=k) (ha:rV K H g0 ys g' H'):IG K q mk es H' gs (fun b=>if b=rb g' then k else O b) k where
 ow:=fun j e2 b n c h0 hb=>ha.owner (O:=O) h4 (h.ls j e2 h0).isSome (fun b n c hb=>h.ow j e2 b n c h0 hb) b n c hb
 ls:=fun j e2 h0=>ha.rd (h.ls j e2 h0) fun b n c n' c' h1 h2=>by
  have hj:j=k:=by rw [<- h.ow j e2 b n c h0 h1,<- h4 b n' c' h2]
  subst hj;rw [he] at h0; cases h0; exact h5
 len:=h.len
 gs:=fun j g e2 hj h6 h0=>by
  obtain⟨h1,h2,h3⟩:=h.gs j g e2 hj h6 h0;refine⟨h1,ha.rd h2 fun b n c n' c' q1 q2=>?_,fun b n c hb=>ha.owner (O:=O) h4 h2.isSome h3 b n c hb⟩;have:j=k:=by rw [<- h3 b n c q1,<- h4 b n' c' q2]
  omega
theorem IG.set (h:IG K q mk es H gs O k) (he:es[k]? = some e) (hn:rn g'=rn e+64) (hr:RdH K (mk k) H g' (rn e+q)) (ho:∀ b n c,g'=some (b,n,c)->O b=k):IG K q mk es H (gs.set k g') O (k+1) where
 ow:=h.ow
 ls:=h.ls
 len:=by rw [List.length_set]; exact h.len
 gs:=fun j g e2 hj h0 h1=>by
  by_cases h2:k=j
  .subst h2;rw [he] at h1; cases h1;rw [List.getElem?_set_self (by rw [h.len]; exact(Pa he).1)] at h0;cases h0;exact⟨hn,hr,ho⟩
  .rw [List.getElem?_set_ne h2] at h0;exact h.gs j g e2 (by omega) h0 h1
theorem IG.re {q':Nat} (h:IG K q mk es H gs O k):IG K q' mk es H gs O 0:=⟨h.ow,h.ls,h.len,fun j g e hj=>absurd hj (Nat.not_lt_zero _)⟩
end ig
def Bs (H0 H:Hp):Prop:=∀ e∈H0,(hg H e.1).isSome=true
variable {H0:Hp}
theorem Bs.refl:Bs H0 H0:=fun e he=>by
 induction H0 with
 | nil=>cases he
 | cons x r ih=>
  rw [show (x::r:Hp)=(x.1,x.2)::r from rfl,gR];split
  .rfl
  .rename_i h0;rcases Pv.1 he with rfl | he
   .exact absurd rfl h0
   .exact ih he
theorem Bs.st (h:Bs H0 H) (hs:WrR k f H e i H'):Bs H0 H':=fun e he=>hs.some _ (h e he)
theorem Bs.app {e':Raw} {ys:AD} (h:Bs H0 H) (hs:rV k H e ys e' H'):Bs H0 H':=fun e he=>hs.some (h e he)
theorem cU {M':Loc} {F:Fr} (hn:(H.map Prod.fst).Nodup) (hB:Bs H0 H) (hF:lE (fun i=>(lk (HL p E H++M') i).isSome) l F) (hM:aX (fun i=>(lk (HL p E H++M') i).isSome) (HL p E H++M) M'):Fits (H0.map fun e=>p+e.1) l (HL p E H++M) F (HL p E H++M'):=
 ⟨hF,JW hn (fun b cs h=>mT h) hM,QD fun e he=>by
  obtain⟨cs,h0⟩:=Ny (hB e he);rw [mT h0]; rfl⟩
theorem Jba {id:Nat} {o:Jb} (h:id < p):fL ((id,o)::(HL p E H++M)) (HL p E H++((id,o)::M)):=fun j=>by
 rw [Ge];by_cases e:id=j
 .subst e; rw [if_pos rfl,Yu h,Ge,if_pos rfl]
 .rw [if_neg e];rcases P4 j p with hj | hj
  .rw [Yu hj,Yu hj,Ge,if_neg e]
  .obtain⟨b,rfl⟩:∃ b,j=p+b:=⟨j - p,by omega⟩;rw [ZN,ZN];split
   .rfl
   .rw [Ge,if_neg e]
theorem Je7 {id:Nat} {u:AV} {x:Jb} (h:Gy P o l (HL p E H++M) (Is u ((id,x)::(HL p E H++M)))) (hid:Nat.blt id p=true:=by rfl):Gy P o l (HL p E H++M) (Is u (HL p E H++((id,x)::M))):=
 h.re fun u' L' hR=>by
  obtain⟨rfl,rfl⟩:=hR;exact⟨_,⟨rfl,rfl⟩,Jba (by simpa [Nat.blt_eq] using hid)⟩
theorem H0a:∀ id,(lk (HL p E H0++[]) id).isSome=true->id∈H0.map fun e=>p+e.1:=by
 induction H0 with
 | nil=>intro id h; cases h
 | cons x r ih=>
  intro id h;have h:(lk ((p+x.1,.pin E x.1 x.2)::(HL p E r++[])) id).isSome=true:=h;rw [Ge] at h;by_cases e:p+x.1=id
  .exact Pv.2 (.inl e.symm)
  .rw [if_neg e] at h;exact List.mem_cons_of_mem _ (ih id h)
theorem H9a {N:Cfg} {ops:Array Oper} {rest:AM} {Q:Post} {j dj d:Nat} {want:Bool} {gv:AV} (hg:o.guard=some (j,want)) (hj:(ops[j]?).bind (·.dst)=some dj) (h2:look l dj=gv) (h3:rA gv want true) (h:Gy P o l L R)
  (hk:∀ u L',R u L'->JL P N ops rest Q ((d,u)::l) L') (hd:o.dst=some d) (hn:Nat.blt d N.n=true) (h4:Nat.blt dj N.n=true) (h5:bL o=true:=by rfl):JL P N ops (o::rest) Q l L:=by
 subst h2;intro n w0 U0 L0 a w U hs;have hw:=h3.wanted (ops:=ops) hs.frame (P0 (by simpa [Nat.blt_eq] using h4) hs.size) hg hj;have h6:d < a.tmps.size:=P0 (by simpa [Nat.blt_eq] using hn) hs.size;refine wpListIn_step fun K hK=>?_;rw [hw,if_pos rfl];refine kI h5 (h a w U K _ hs.sat hs.frame ?_);intro u L' v w' U' hr h1 h0 hv;rw [hd];exact hK _ _ (hk u L' hr n w0 U0 L0 _ w' U' ⟨h1,hs.step.trans h0,(hs.frame.step h0).put h6 hv,by rw [Act.put_size]; exact hs.size,hs.base,by rw [Act.put_defers']; exact hs.defers.step h0⟩)
def Ha1 (l:Fr):List Operand->AD->Prop
 | [],[]=>True
 | x::r,u::s=>ev l x=u/\Ha1 l r s
 | _,_=>False
theorem Ha1.get {l:Fr}:∀ {xs:List Operand} {us:AD},Ha1 l xs us->xs.length=us.length/\∀ (j:Nat) x u,xs[j]? = some x->us[j]? = some u->ev l x=u
 | [],[],_=>⟨rfl,fun j x u hx=>by simp at hx⟩
 | y::r,v::s,h=>by
  obtain⟨h1,h2⟩:=Ha1.get h.2;refine⟨by simp [h1],fun j x u hx hu=>?_⟩;cases j with
  | zero=>cases hx; cases hu; exact h.1
  | succ j=>exact h2 j x u hx hu
 | [],_::_,h=>h.elim
 | _::_,[],h=>h.elim
theorem YE {f:FuncId} {xs:List Operand} {args:AD} {ts:Array TypeId} (ho:o.op=.call { callee:=.value (.func f),args:=xs.toArray,argTypes:=ts }) (hc:Q2 P f args L R) (hB:H5 P f=true) (ha:Ha1 l xs args):Gy P o l L R:=by
 intro a w U K Q h0 hf hK;have hr:(execOp a.eval o).run P w=.ok (.enter f (xs.toArray.map a.eval)) w:=by
  simp [execOp,ho,resolve,Act.eval,Deferred.ofValue,invoke,H5.out hB]
 unfold Oper.wp;rw [hr];obtain⟨g1,g2⟩:=ha.get;refine(hc w U (xs.toArray.map a.eval) h0 (by simp [g1]) (fun j u v hu hv=>?_)).mono fun e w' h=>?_
 .simp only [Array.getElem?_map,List.getElem?_toArray,Option.map_eq_some_iff] at hv;obtain⟨x,hx,rfl⟩:=hv;rw [<- g2 j x u hx hu]; exact hf.ev x
 .obtain⟨v,r,U',L',rfl,h1,h2,h3,h4⟩:=h;exact hK r L' v w' U' h4 h1 h2 h3
end Go.Proofs.YtbgfgnddogfpcaaGreat
