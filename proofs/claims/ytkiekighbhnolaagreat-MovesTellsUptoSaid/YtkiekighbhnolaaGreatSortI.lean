/-
 Slices of the call's own,sorted in place by the library. slices.SortFunc in a model. Slices of whole numbers of the call's own,sorted in place by
-/
import Derived.Test.YtkiekighbhnolaaGreatDraw2
import Derived.Shelf.SlSortCmp.WholeK
namespace Go.Proofs.YtkiekighbhnolaaGreat
open Go.RowKit Go.Sort

def dH {J:Type} [Inhabited J] (cf:J->J->Int) (xs:List J):List J:=(pdq (ltOf cf) xs.toArray 0 xs.length (Lib.bitLen xs.length) true true).toList
variable {J:Type}
theorem G6e [Inhabited J] (cf:J->J->Int) (hO:SWO (ltOf cf)) (xs:List J):(dH cf xs).Perm xs/\(dH cf xs).length=xs.length/\∀ i j (hi:i < j) (hj:j < (dH cf xs).length),ltOf cf (dH cf xs)[j] (dH cf xs)[i]=false:=by
 have h:=pdq_sorts (ltOf cf) hO xs.toArray 0 xs.length (Lib.bitLen xs.length) true true (Nat.zero_le _) (by simp) (Or.inl rfl);obtain⟨⟨h1,h2,h3⟩,h4⟩:=h;have hl:(dH cf xs).length=xs.length:=by simp [dH,h1]
 refine⟨?_,hl,fun i j hi hj=>?_⟩
 .have e1:(pdq (ltOf cf) xs.toArray 0 xs.length (Lib.bitLen xs.length) true true).extract 0 xs.length=pdq (ltOf cf) xs.toArray 0 xs.length (Lib.bitLen xs.length) true true:=by
   have:xs.length=(pdq (ltOf cf) xs.toArray 0 xs.length (Lib.bitLen xs.length) true true).size:=by rw [h1]; simp
   rw [Array.extract_eq_self_of_le (by omega)]
  have e2:xs.toArray.extract 0 xs.length=xs.toArray:=by rw [Array.extract_eq_self_of_le (by simp)]
  rw [e1,e2] at h3;exact h3
 .have h0:j < xs.length:=by omega
  have:=h4 i j (Nat.zero_le _) hi h0;have g:∀ q (hq:q < (dH cf xs).length),(pdq (ltOf cf) xs.toArray 0 xs.length (Lib.bitLen xs.length) true true)[q]! = (dH cf xs)[q]:=fun q hq=>by
   have h5:q < (pdq (ltOf cf) xs.toArray 0 xs.length (Lib.bitLen xs.length) true true).size:=by rw [h1]; simpa using (hl ▸ hq)
   rw [getElem!_pos _ q h5]; simp [dH]
  rw [g j hj,g i (by omega)] at this;exact this

def Ga9 (P:Program) (F:FuncId) (k:Nat):Prop:=
 ∀ {J:Type} [Inhabited J] (enc:J->AM),(∀ x,(enc x).length=k)->(∀ x,∀ v∈enc x,v.oneCell'=true)->∀ (cf:J->J->Int),SWO (ltOf cf)->∀ (g:Nat) (cb:Array Value) (blk off cap:Nat) (d:Array J) (w:World),
  (∀ args w,(callFunc g args).run P w=.ok (.enter g args) w)->CmpLays P g cb enc k cf blk off d.size w->HoldsK enc k w blk off d->blk < w.heap.size->d.size < 4611686018427387904 ->
  Calls P F #[.slice (some ⟨blk,off,none⟩) d.size cap,.func (.func g) #[] cb] w fun e w'=>e=.returned (.tuple #[])/\∃ n os,w'=sortWorldK enc k w blk off n (pdq (ltOf cf) d 0 d.size (Lib.bitLen d.size) true true) os
def SortNone (P:Program) (F:FuncId):Prop:=
 ∀ (g:Nat) (cb:Array Value) (w:World),Calls P F #[.slice none 0 0,.func (.func g) #[] cb] w fun e w'=>e=.returned (.tuple #[])/\∃ n os,w'=grow (w.drewN n) os

variable {w:World}
theorem Jf3 {w':World} (h1:w'.os=w.os) (h2:w'.tape=w.tape) (h3:w'.output=w.output/\w.drawn<=w'.drawn) (h4:w.heap.size<=w'.heap.size) (h5:∀ b,b < w.heap.size->w'.heap[b]? = w.heap[b]?):∃ q os,w'=grow (w.drewN q) os:=by
 refine⟨w'.drawn - w.drawn,w'.heap.extract w.heap.size w'.heap.size,?_⟩;obtain⟨hp,tp,dr,os_,out⟩:=w';simp only at h1 h2 h3 h4 h5;subst h1 h2;obtain⟨rfl,h3⟩:=h3;unfold grow World.drewN;simp only [World.mk.injEq,true_and,and_true];refine⟨?_,by omega⟩;apply Array.ext_getElem?;intro k;rw [Array.getElem?_append];split
 .rename_i hk; exact h5 k hk
 .rename_i hk;rw [Array.getElem?_extract];have e:w.heap.size+(k - w.heap.size)=k:=by omega
  split
  .rw [e]
  .rename_i h0;exact Array.getElem?_eq_none (by omega)

variable {P:Program}
theorem J9e {f:FuncId} {args:AD} {u:AV} (hc:Pure P f args (·=u)) {vs:Array Value} (hl:vs.size=args.length) (hv:∀ (j:Nat) a v,args[j]? = some a->vs[j]? = some v->D w (fun b _=>b < w.heap.size) a v) :
  Calls P f vs w fun e w'=>∃ v,e=.returned v/\D w' (fun b _=>b < w'.heap.size) u v/\∃ q os,w'=grow (w.drewN q) os:=by
 have h1:∀ b i:Nat,b < w.heap.size->Ju w ⟨fun _=>none,fun _ _=>False⟩ [] b i:=fun b i hs=>⟨hs,fun h=>h,fun id o h=>by simp [lk] at h⟩;refine(hc w ⟨fun _=>none,fun _ _=>False⟩ vs ⟨fun b i h=>h.elim,fun id b h=>by simp [lk] at h,fun id b j h=>by simp [lk] at h,fun id id' b h=>by simp [lk] at h,fun id o h=>by simp [lk] at h⟩ hl
  (fun j u v hu h2=>.data ((hv j u v hu h2).mono fun b i hs=>⟨h1 b i hs,rfl⟩))).mono fun e w' h=>?_
 obtain⟨v,r,J',L',he,h4,h0,h3,rfl,rfl⟩:=h;exact⟨v,he,h3.data_of_nil.mono fun b i hs=>⟨hs.lt,rfl⟩,Jf3 h0.os h0.tape h0.output h0.size (fun b hb=>(h0.far b hb (fun id h=>by simp [lk] at h)).1)⟩

def Flat {J:Type} (f:J->AV) (enc:J->AM):Prop:=∀ x,f x=.agg ((enc x).map .sc)

theorem D.inv_sc {S:Nat->Nat->Prop} {v x:Value} (h:D w S (.sc v) x):x=v:=by cases h; rfl
theorem Qe3 {S:Nat->Nat->Prop} {vs:AM}:D w S (.agg (vs.map .sc)) (.agg vs.toArray):=
 .agg (by simp) fun j u v hu hv=>by
  simp only [S3] at hu;simp only [List.getElem?_toArray] at hv;rw [hv] at hu; cases hu; exact .sc

theorem Ge4 [Inhabited J] {f:J->AV} {enc:J->AM} {k:Nat} (hf:Flat f enc) (hk:∀ x,(enc x).length=k) (xs:List J):flat (xs.map f)=(flatK enc k xs.toArray).toList.map .sc:=by
 apply List.ext_getElem?;intro j;have h0:∀ x∈xs.map f,x.cells.length=k:=fun x hx=>by
  obtain⟨y,_,rfl⟩:=Sc.1 hx;rw [hf y]; simp [AV.cells,hk]
 have h4:(flatK enc k xs.toArray).size=xs.length*k:=by rw [size_flatK]; simp
 rcases Po j (xs.length*k) with hj | hj
 .have k0:0 < k:=by
   rcases Nat.eq_zero_or_pos k with h | h
   .subst h; simp at hj
   .exact h
  have h5:j=j / k*k+j % k:=by rw [Nat.mul_comm]; exact(Nat.div_add_mod j k).symm
  have hq:j / k < xs.length:=Nat.div_lt_of_lt_mul (by rw [Nat.mul_comm]; exact hj);have h1:(xs.map f)[j / k]? = some (f xs[j / k]):=by simp [hq]
  have hl:(flat (xs.map f))[j]? = (f xs[j / k]).cells[j % k]? := by
   have:=lN h0 h1 (Nat.mod_lt j k0)
   rwa [<- h5] at this
  have hg:=get_flatK enc k xs.toArray j (by rw [List.size_toArray]; exact hj);have h2:j % k < (enc xs[j / k]).length:=by rw [hk]; exact Nat.mod_lt _ k0
  rw [hl,hf,S3];simp only [AV.cells,S3,Pv h2,Option.map_some,Array.getElem?_toList];have h3:j < (flatK enc k xs.toArray).size:=by omega
  rw [Array.getElem?_eq_getElem h3,Option.map_some];rw [getElem!_pos _ j h3] at hg;rw [hg];have:xs.toArray[j / k]! = xs[j / k]:=by rw [getElem!_pos _ (j / k) (by simpa using hq)]; simp
  rw [this,getElem!_pos _ (j % k) h2]
 .rw [List.getElem?_eq_none (by rw [Jm h0]; simpa using hj),List.getElem?_eq_none (by simp [h4]; exact hj)]

set_option maxHeartbeats 1000000 in
theorem J95 {F:FuncId} {k:Nat} (hs:Ga9 P F k) (h0:SortNone P F) [Inhabited J] {f:J->AV} (enc:J->AM) (hf:Flat f enc) (hk:∀ x,(enc x).length=k) (h1:∀ x,∀ v∈enc x,v.oneCell'=true)
  (cf:J->J->Int) (hO:SWO (ltOf cf)) (g:FuncId) (hB:Gz P g=true) (BM:AD) (c1:Y6 (fun _=>false) BM=true) (h8:∀ x y,Pure P g ([f x,f y]++BM) (·=I64 (cf x y)))
  (i ver E:Nat) (xs:List J) (b7:xs.length < 4611686018427387904) :
  Qn P F [.vec i ver k xs.length,.fn g BM] [(i,.vec E k ver (xs.map f))] (fun r L'=>r=.tup []/\L'=[(i,.vec E k ver ((dH cf xs).map f))]):=by
 intro w β vs h9 hl hv;have hi:lk [(i,Q3.vec E k ver (xs.map f))] i=some (.vec E k ver (xs.map f)):=by simp [lk]
 have c2:vs.size=2:=hl;obtain⟨v0,v1,rfl⟩:∃ v0 v1,vs=#[v0,v1]:=by
  refine⟨vs[0],vs[1],?_⟩;apply Array.ext
  .simp [c2]
  .intro j d4 c3;have:j=0\/j=1:=by omega
   rcases this with rfl | rfl <;> rfl
 have c4:=hv 0 _ v0 rfl rfl;have c5:=hv 1 _ v1 rfl rfl;obtain⟨cb,rfl,a9,c6⟩:=c5.inv_fn;have b8:∀ (j:Nat) u v,BM[j]? = some u->cb[j]? = some v->D w (Ju w β [(i,Q3.vec E k ver (xs.map f))]) u v:=fun j u v hu h2=>(c6 j u v hu h2).toD (cQ c1 u (Px hu));obtain⟨-,d5,c7⟩:=lI h9 hi c4;have h7:(dH cf xs).length=xs.length:=(G6e cf hO xs).2.1;have a0:∀ y∈(dH cf xs).map f,y.cells.length=k:=fun y hy=>by
  obtain⟨z,_,rfl⟩:=Sc.1 hy;rw [hf z]; simp [AV.cells,hk]
 have h6:∀ L:Loc,L=[(i,Q3.vec E k ver ((dH cf xs).map f))]->nP ((i,Q3.vec E k ver ((dH cf xs).map f))::[(i,Q3.vec E k ver (xs.map f))]) L:=fun L hL id=>by
  subst hL;rw [Gp,Gp,Gp];by_cases e:i=id
  .rw [if_pos e,if_pos e]
  .rw [if_neg e,if_neg e,if_neg e]
 rcases c7 with ⟨rfl,c8,b0⟩ | ⟨b,cap,cur,rfl,hb,q1,q2,q3,q4,q5⟩
 ·-- no element
  refine(h0 g cb w).mono fun e w' h=>?_;obtain⟨rfl,n,os,rfl⟩:=h;have hx:xs=[]:=by simpa using c8
  subst hx;have b1:dH cf ([]:List J)=[]:=Pk (by simpa using h7);obtain⟨st,sat⟩:=aU (w':=grow (w.drewN n) os) (t:=E) (k:=k) (BK:=ver) (xs':=(dH cf ([]:List J)).map f) (ob':=none) h9 (.inr ⟨ver,_,hi,Pz,fun _=>⟨by simp [b1],b0.symm,fun b hb=>by rw [b0] at hb; cases hb⟩⟩)
   rfl rfl ⟨rfl,by simp [grow,World.drewN]⟩ (by simp [grow,World.drewN]) (fun b hb _=>by simp [grow,World.drewN,Array.getElem?_append_left hb]) (.inl rfl)
  have s2:=sat ⟨a0,.inl ⟨rfl,by simp [b1]⟩⟩;exact⟨_,_,_,_,rfl,s2.BS (h6 _ rfl),st.BS (h6 _ rfl),.tup rfl (fun j u v hu=>by simp at hu),rfl,rfl⟩
 .have a3:b < w.heap.size:=(Pi q3).1;have b2:(flatK enc k xs.toArray).size=xs.length*k:=by rw [size_flatK]; simp
  have b3:(xs.map f).length=xs.length:=by simp
  rw [b3] at q1;have hH:HoldsK enc k w b 0 xs.toArray:=by
   intro j hj;have c3:j < xs.length*k:=by rw [<- b2]; exact hj
   have b4:j < cur.size:=by rw [q4]; have:=Nat.mul_le_mul_right k q1; omega
   have hu:(flat (xs.map f))[j]? = some (.sc (flatK enc k xs.toArray)[j]!):=by
    rw [Ge4 hf hk,S3,Array.getElem?_toList,Array.getElem?_eq_getElem hj,getElem!_pos _ j hj]; rfl
   have hd:=q5 j _ cur[j] hu (by simp [b4]);have he:cur[j]=(flatK enc k xs.toArray)[j]! := hd.inv_sc;constructor
   .simp [World.cell?,q3,b4,he]
   .simp [World.frozen?,q3]
  have eg:∀ args w,(callFunc g args).run P w=.ok (.enter g args) w:=fun args w=>Gz.out hB args w;have hC:CmpLays P g cb enc k cf b 0 xs.toArray.size w:=by
   intro m os dk d6 x y;have h4:∀ b' j,Ju w β [(i,Q3.vec E k ver (xs.map f))] b' j->Zj (sortWorldK enc k w b 0 m dk os) b' j=Zj w b' j/\b' < (sortWorldK enc k w b 0 m dk os).heap.size:=by
    intro b' j hs;have a4:b'≠b:=fun e=>by
     have:=hs.kept i _ hi (by rw [e]; exact hb);exact this
    constructor
    .refine Qa (w:=w) ?_;unfold sortWorldK;simp only [grow];rw [Array.getElem?_append_left (by simp only [putRowK,putRow,mapBlock,Array.size_modify,Sort.ahead]; exact hs.lt)];simp only [putRowK,putRow,mapBlock,Sort.ahead,Array.getElem?_modify,if_neg (Ne.symm a4)]
    .unfold sortWorldK;simp only [size_grow,putRowK,putRow,mapBlock,Array.size_modify,Sort.ahead];have:=hs.lt; omega
   generalize sortWorldK enc k w b 0 m dk os=W at h4 ⊢;have a5:(#[Value.agg (enc x).toArray,Value.agg (enc y).toArray]++cb).size=([f x,f y]++BM).length:=by rw [Array.size_append,S6,a9]; rfl
   have c9:=J9e (w:=W) (h8 x y) a5;clear h8 hs a5 hH b2 q5 a9;refine(c9 (fun j a v ha h2=>?_)).mono fun e w' h=>?_
   .rcases Po j 2 with hj | hj
    .rw [S1 (by simpa using hj)] at ha;rw [Array.getElem?_append_left (by simpa using hj)] at h2;have:j=0\/j=1:=by omega
     rcases this with rfl | rfl
     .simp at ha h2; subst ha h2; rw [hf x]; exact Qe3
     .simp at ha h2; subst ha h2; rw [hf y]; exact Qe3
    .rw [S0 (by simpa using hj)] at ha;rw [Array.getElem?_append_right (by simpa using hj)] at h2;exact(b8 (j - 2) a v (by simpa using ha) (by simpa using h2)).mono fun b' j' hs=>⟨(h4 b' j' hs).2,(h4 b' j' hs).1⟩
   .obtain⟨v,rfl,hd,q,os',rfl⟩:=h;have d0:=hd.inv_sc;subst d0;exact⟨rfl,q,os',rfl⟩
  have a1:=hs enc hk h1 cf hO g cb b 0 cap xs.toArray w eg hC hH a3 (by simpa using b7);rw [List.size_toArray] at a1;rw [b3];refine a1.mono fun e w' h=>?_;obtain⟨rfl,n,os,rfl⟩:=h
  -- what lies there now
  obtain⟨d',a6⟩:∃ d',d'=pdq (ltOf cf) xs.toArray 0 xs.length (Lib.bitLen xs.length) true true:=⟨_,rfl⟩;have a7:d'.size=xs.toArray.size:=by
   have:=h7;rw [dH,<- a6] at this;simpa using this
  have d1:dH cf xs=d'.toList:=by rw [dH,<- a6]
  rw [<- a6];have b5:=holdsK_sortWorldK enc k w b 0 n xs.toArray d' os a3 hH a7;have h3:(sortWorldK enc k w b 0 n d' os).heap[b]? = some (.cells (putCells id 0 (flatK enc k d') cur) E (0,0)):=by
   unfold sortWorldK grow putRowK putRow mapBlock;simp only [Sort.ahead];rw [Array.getElem?_append_left (by simpa using a3),Array.getElem?_modify,if_pos rfl,q3];rfl
  have b6:(putCells id 0 (flatK enc k d') cur).size=cur.size:=by simp [putCells]
  have a8:∀ j,j < xs.length*k->(sortWorldK enc k w b 0 n d' os).cell? ⟨b,j,none⟩=some (flatK enc k d')[j]! := by
   intro j hj;have a2:j < (flatK enc k d').size:=by rw [size_flatK,a7]; simpa using hj
   have:=(b5 j a2).1;rw [Nat.zero_add] at this;exact this
  have f1:(sortWorldK enc k w b 0 n d' os).os=w.os:=rfl;have f2:(sortWorldK enc k w b 0 n d' os).tape=w.tape:=rfl;have f3:(sortWorldK enc k w b 0 n d' os).output=w.output/\w.drawn<=(sortWorldK enc k w b 0 n d' os).drawn:=⟨rfl,Nat.le_add_right _ _⟩;have f4:w.heap.size<=(sortWorldK enc k w b 0 n d' os).heap.size:=by
   unfold sortWorldK;rw [size_grow];simp only [putRowK,putRow,mapBlock,Array.size_modify,Sort.ahead]; omega
  have f5:∀ b',b' < w.heap.size->b≠b'->(sortWorldK enc k w b 0 n d' os).heap[b']? = w.heap[b']? := by
   intro b' h5 b9;unfold sortWorldK grow putRowK putRow mapBlock;simp only [Sort.ahead];rw [Array.getElem?_append_left (by simpa using h5),Array.getElem?_modify,if_neg b9]
  clear b5 hH hC h8;generalize sortWorldK enc k w b 0 n d' os=W at h3 a8 f1 f2 f3 f4 f5;obtain⟨st,sat⟩:=aU (w':=W) (t:=E) (k:=k) (BK:=ver) (xs':=(dH cf xs).map f) (ob':=β.at_ i) h9
   (.inr ⟨ver,_,hi,Pz,fun _=>⟨by rw [Sa,Sa,h7],rfl,fun b' h5=>by
    rw [hb] at h5; cases h5;rw [World.shape?,h3,World.shape?,q3]; simp only [b6]⟩⟩) f1 f2 f3 f4
   (fun b' h5 a4=>f5 b' h5 (fun e=>a4 (by rw [inL,hi]; rfl) (by rw [hb,e])))
   (.inr (.inl ⟨by rw [inL,hi]; rfl,rfl⟩))
  have c0:∀ j,j < xs.length*k->(putCells id 0 (flatK enc k d') cur)[j]? = some (flatK enc k d')[j]! := by
   intro j hj;have:=a8 j hj;simp only [World.cell?,h3] at this;simpa using this
  have s2:=sat ⟨a0,.inr ⟨b,hb,_,h3,by rw [b6,q4,Sa,h7]; exact Nat.mul_le_mul_right _ q1,fun j u v hu h2=>by
   have hj:=(Pu hu).1;rw [Jm a0,Sa,h7] at hj;rw [c0 j hj] at h2;have d2:=Pw h2;subst d2;have a2:j < (flatK enc k d').size:=by rw [size_flatK,a7]; simpa using hj
   rw [Ge4 hf hk,d1] at hu;rw [S3,Array.getElem?_toList,Array.toArray_toList,Array.getElem?_eq_getElem a2,Option.map_some] at hu;have d3:=Pw hu;subst d3;rw [getElem!_pos _ j a2];exact .sc⟩⟩
  exact⟨_,_,_,_,rfl,s2.BS (h6 _ rfl),st.BS (h6 _ rfl),.tup rfl (fun j u v hu=>by simp at hu),rfl,rfl⟩
set_option maxRecDepth 100000
open Go.RowKit Go.Shelf Go.Sort

open Classical in
noncomputable def G6d {J:Type} [Inhabited J] (cmp:J->J->Option Int) (xs:List J):Option (List J):=
 if h:∃ cf:J->J->Int,(∀ x y,cmp x y=some (cf x y))/\SWO (ltOf cf)/\xs.length < 4611686018427387904 then some (dH h.choose xs) else none
theorem Q01 [Inhabited J] {cmp:J->J->Option Int} {xs r:List J} (h:G6d cmp xs=some r):∃ cf:J->J->Int,(∀ x y,cmp x y=some (cf x y))/\SWO (ltOf cf)/\xs.length < 4611686018427387904/\r=dH cf xs:=by
 unfold G6d at h;split at h
 .next hh=>exact⟨hh.choose,hh.choose_spec.1,hh.choose_spec.2.1,hh.choose_spec.2.2,(Pw h).symm⟩
 .cases h
theorem Q3d [Inhabited J] {cmp:J->J->Option Int} (cf:J->J->Int) (hc:∀ x y,cmp x y=some (cf x y)) (hO:SWO (ltOf cf)) {xs:List J} (hl:xs.length < 4611686018427387904):G6d cmp xs=some (dH cf xs):=by
 have hh:∃ cf:J->J->Int,(∀ x y,cmp x y=some (cf x y))/\SWO (ltOf cf)/\xs.length < 4611686018427387904:=⟨cf,hc,hO,hl⟩;unfold G6d;rw [dif_pos hh];have:hh.choose=cf:=by
  funext x y;have h1:=hh.choose_spec.1 x y;rw [hc x y] at h1;exact(Pw h1).symm
 rw [this]

theorem Q5f {vs:AM} (h:vs.all Value.oneCell'=true):∀ v∈vs,v.oneCell'=true:=List.all_eq_true.1 h

section ops
variable {P:Program} {o:Oper} {l:Fr} {L L'':Loc}
theorem Jee {F:FuncId} {x y:Operand} {ts:Array TypeId} {k i ver E n:Nat} {g:FuncId} {BM:AD} {J:Type} [Inhabited J] {f:J->AV} {cmp:J->J->Option Int} {xs r:List J} (enc:J->AM) (ho:o.op=.call { callee:=.value (.func F),args:=#[x,y],argTypes:=ts })
  (hs:Ga9 P F k) (h0:SortNone P F) (hf:Flat f enc) (hk:∀ x,(enc x).length=k) (h1:∀ x,∀ v∈enc x,v.oneCell'=true) (hB:Gz P F=true) (h5:Gz P g=true)
  (hx:ev l x=.vec i ver k n) (hy:ev l y=.fn g BM) (hi:lk L i=some (.vec E k ver (xs.map f))) (hn:n=xs.length) (h3:Y6 (fun _=>false) BM=true) (h:G6d cmp xs=some r)
  (h4:∀ x y q,cmp x y=some q->Pure P g ([f x,f y]++BM) (·=I64 q)) (hL:(i,.vec E k ver (r.map f))::xR L [(i,.vec E k ver (xs.map f))]=L''):H1 P o l L (Is (.tup []) L''):=by
 obtain⟨cf,hc,hO,hl,rfl⟩:=Q01 h;subst hn;have h2:=J95 (P:=P) (F:=F) (k:=k) hs h0 enc hf hk h1 cf hO g h5 BM h3 (fun a b=>h4 a b _ (hc a b)) i ver E xs hl;refine qK (xs:=[x,y]) ho h2 hB ⟨.inl hx,?_,.inl hy,?_,trivial⟩ ⟨hi,trivial⟩ ?_ ?_ hL
 .simp [AV.refs,inL,lk]
 .exact Ji _ _ h3
 .simp [closedIn,Q3.refs]
 .simp [tQ,inL,lk]
end ops
set_option linter.unusedVariables false
open Go.RowKit Go.Sort Go.Shelf

def Jaa (x:Int):AE->AE
 | []=>[x]
 | y::r=>bif decide (x<=y) then x::y::r else y::Jaa x r
def pB:AE->AE
 | []=>[]
 | x::r=>Jaa x (pB r)
theorem G3a (x:Int):∀ l,(Jaa x l).Perm (x::l)
 | []=>List.Perm.refl _
 | y::r=>by
  rw [Jaa];cases decide (x<=y) with
  | true=>exact List.Perm.refl _
  | false=>exact(List.Perm.cons y (G3a x r)).trans (List.Perm.swap x y r)
theorem zO:∀ l,(pB l).Perm l
 | []=>List.Perm.refl _
 | x::r=>(G3a x _).trans ((zO r).cons x)
theorem G7e {x:Int}:∀ {l:AE},l.Pairwise (·<=·)->(Jaa x l).Pairwise (·<=·)
 | [],_=>by simp [Jaa]
 | y::r,h=>by
  rw [Jaa];rw [List.pairwise_cons] at h;cases hb:decide (x<=y) with
  | true=>
   have h0:=Pq hb;rw [cond_true,List.pairwise_cons];refine⟨fun z hz=>?_,List.pairwise_cons.2 h⟩;rcases Se.1 hz with rfl | hz
   .exact h0
   .have:=h.1 z hz; omega
  | false=>
   have h0:=Pr hb;rw [cond_false,List.pairwise_cons];refine⟨fun z hz=>?_,G7e h.2⟩;rcases Se.1 ((G3a x r).mem_iff.1 hz) with rfl | hz
   .omega
   .exact h.1 z hz
theorem zN:∀ l,(pB l).Pairwise (·<=·)
 | []=>List.Pairwise.nil
 | x::r=>G7e (zN r)
theorem Hf7 (xs:AE):(xs.mergeSort fun x y=>decide (x<=y))=pB xs:=by
 have h1:=List.mergeSort_perm xs (fun x y=>decide (x<=y));have h2:(xs.mergeSort fun x y=>decide (x<=y)).Pairwise (fun a b:Int=>decide (a<=b)=true):=List.pairwise_mergeSort (le:=fun x y:Int=>decide (x<=y)) (fun a b c h g=>by simp at *; omega) (fun a b=>by simp; omega) xs;refine List.Perm.eq_of_pairwise (le:=fun a b:Int=>decide (a<=b)=true) (fun a b _ _ h0 h3=>by simp at *; omega) h2 ((zN xs).imp fun h=>Ps h) (h1.trans (zO xs).symm)
theorem H48 (xs:AE):(pB xs).length=xs.length:=(zO xs).length_eq
def G2c (xs:AE):Option AE:=bif decide (xs.length < 4611686018427387904) then some (pB xs) else none
theorem J96 {xs r:AE} (h:G2c xs=some r):xs.length < 4611686018427387904/\r=pB xs:=by
 unfold G2c at h;cases hb:decide (xs.length < 4611686018427387904) with
 | true=>rw [hb] at h; exact⟨Pq hb,(Pw h).symm⟩
 | false=>rw [hb] at h; cases h

def Gf3 (P:Program) (F:FuncId):Prop:=
 ∀ (blk off cap:Nat) (zs:AE) (w:World),Holds (Value.int .i64) w blk off zs.toArray->blk < w.heap.size->zs.length < 4611686018427387904 ->
  Calls P F #[.slice (some ⟨blk,off,none⟩) zs.length cap] w fun e w'=>e=.returned (.tuple #[])/\∃ n os,w'=grow (putRow (Value.int .i64) (Sort.ahead w n) blk off (zs.mergeSort fun x y=>decide (x<=y)).toArray) os
def G41 (P:Program) (F:FuncId):Prop:=
 ∀ (p:Option Addr) (cap:Nat) (w:World),Calls P F #[.slice p 0 cap] w fun e w'=>e=.returned (.tuple #[])/\w'=w

theorem H5b (xs:AE):flat (xs.map I64)=xs.map I64:=by
 induction xs with
 | nil=>rfl
 | cons x r ih=>rw [List.map_cons,flat,ih]; rfl

theorem Hf8 {F:FuncId} (hs:Gf3 P F) (h0:G41 P F) (i ver E:Nat) (xs:AE) (a6:xs.length < 4611686018427387904) :
  Qn P F [.vec i ver 1 xs.length] [(i,.vec E 1 ver (xs.map I64))] (fun r L'=>r=.tup []/\L'=[(i,.vec E 1 ver ((pB xs).map I64))]):=by
 intro w β vs h4 hl hv;have hi:lk [(i,Q3.vec E 1 ver (xs.map I64))] i=some (.vec E 1 ver (xs.map I64)):=by simp [lk]
 have a9:vs.size=1:=hl;obtain⟨v0,rfl⟩:∃ v0,vs=#[v0]:=by
  refine⟨vs[0],?_⟩;apply Array.ext
  .simp [a9]
  .intro j b9 h7;have:j=0:=by omega
   subst this; rfl
 have b0:=hv 0 _ v0 rfl rfl;obtain⟨-,c0,b1⟩:=lI h4 hi b0;have h5:=H48 xs;have h8:∀ y∈(pB xs).map I64,y.cells.length=1:=fun y hy=>by
  obtain⟨z,_,rfl⟩:=Sc.1 hy;rfl
 have h2:∀ L:Loc,L=[(i,Q3.vec E 1 ver ((pB xs).map I64))]->nP ((i,Q3.vec E 1 ver ((pB xs).map I64))::[(i,Q3.vec E 1 ver (xs.map I64))]) L:=fun L hL id=>by
  subst hL;rw [Gp,Gp,Gp];by_cases e:i=id
  .rw [if_pos e,if_pos e]
  .rw [if_neg e,if_neg e,if_neg e]
 rcases b1 with ⟨rfl,b2,b3⟩ | ⟨b,cap,cur,rfl,hb,q1,q2,q3,q4,q5⟩
 .refine(h0 none 0 w).mono fun e w' h=>?_;obtain⟨rfl,rfl⟩:=h;have hx:xs=[]:=by simpa using b2
  subst hx;have a1:pB ([]:AE)=[]:=Pk (by simpa using h5);obtain⟨st,sat⟩:=aU (w':=w') (t:=E) (k:=1) (BK:=ver) (xs':=(pB ([]:AE)).map I64) (ob':=none) h4 (.inr ⟨ver,_,hi,Pz,fun _=>⟨by simp [a1],b3.symm,fun _ _=>rfl⟩⟩)
   rfl rfl ⟨rfl,Pz⟩ (Pz) (fun b hb _=>rfl) (.inl rfl)
  have s2:=sat ⟨h8,.inl ⟨rfl,by simp [a1]⟩⟩;exact⟨_,_,_,_,rfl,s2.BS (h2 _ rfl),st.BS (h2 _ rfl),.tup rfl (fun j u v hu=>by simp at hu),rfl,rfl⟩
 .have a2:b < w.heap.size:=(Pi q3).1;have a3:(xs.map I64).length=xs.length:=by simp
  rw [a3] at q1;have hH:Holds (Value.int .i64) w b 0 xs.toArray:=by
   intro j hj;have h7:j < xs.length:=by simpa using hj
   have h6:j < cur.size:=by rw [q4]; omega
   have hu:(flat (xs.map I64))[j]? = some (.sc (Value.int .i64 xs[j])):=by
    rw [H5b,S3,Pv h7]; rfl
   have hd:=q5 j _ cur[j] hu (by simp [h6]);have he:cur[j]=Value.int .i64 xs[j]:=hd.inv_sc;constructor
   .simp [World.cell?,q3,h6,he,h7]
   .simp [World.frozen?,q3]
  have a0:=hs b 0 cap xs w hH a2 a6;rw [a3];refine a0.mono fun e w' h=>?_;obtain⟨rfl,n,os,rfl⟩:=h;rw [Hf7];obtain⟨d',h9⟩:∃ d':Array Int,d'=(pB xs).toArray:=⟨_,rfl⟩;have b4:d'.size=xs.length:=by rw [h9]; simp [H48]
  have b5:pB xs=d'.toList:=by rw [h9]
  rw [<- h9];have h3:(grow (putRow (Value.int .i64) (Sort.ahead w n) b 0 d') os).heap[b]? = some (.cells (putCells (Value.int .i64) 0 d' cur) E (0,0)):=by
   unfold grow putRow mapBlock;simp only [Sort.ahead];rw [Array.getElem?_append_left (by simpa using a2),Array.getElem?_modify,if_pos rfl,q3];rfl
  have a4:(putCells (Value.int .i64) 0 d' cur).size=cur.size:=by simp [putCells]
  have a7:∀ j,j < xs.length->(putCells (Value.int .i64) 0 d' cur)[j]? = some (Value.int .i64 d'[j]!):=by
   intro j hj;have h6:j < cur.size:=by rw [q4]; omega
   simp [putCells,h6,b4,hj]
  have f1:(grow (putRow (Value.int .i64) (Sort.ahead w n) b 0 d') os).os=w.os:=rfl;have f2:(grow (putRow (Value.int .i64) (Sort.ahead w n) b 0 d') os).tape=w.tape:=rfl;have f3:(grow (putRow (Value.int .i64) (Sort.ahead w n) b 0 d') os).output=w.output/\w.drawn<=(grow (putRow (Value.int .i64) (Sort.ahead w n) b 0 d') os).drawn:=⟨rfl,Nat.le_add_right _ _⟩;have f4:w.heap.size<=(grow (putRow (Value.int .i64) (Sort.ahead w n) b 0 d') os).heap.size:=by
   rw [size_grow];simp only [putRow,mapBlock,Array.size_modify,Sort.ahead]; omega
  have f5:∀ b',b' < w.heap.size->b≠b'->(grow (putRow (Value.int .i64) (Sort.ahead w n) b 0 d') os).heap[b']? = w.heap[b']? := by
   intro b' h1 a8;unfold grow putRow mapBlock;simp only [Sort.ahead];rw [Array.getElem?_append_left (by simpa using h1),Array.getElem?_modify,if_neg a8]
  clear hH;generalize grow (putRow (Value.int .i64) (Sort.ahead w n) b 0 d') os=W at h3 f1 f2 f3 f4 f5;obtain⟨st,sat⟩:=aU (w':=W) (t:=E) (k:=1) (BK:=ver) (xs':=(pB xs).map I64) (ob':=β.at_ i) h4
   (.inr ⟨ver,_,hi,Pz,fun _=>⟨by rw [Sa,Sa,h5],rfl,fun b' h1=>by
    rw [hb] at h1; cases h1;rw [World.shape?,h3,World.shape?,q3]; simp only [a4]⟩⟩) f1 f2 f3 f4
   (fun b' h1 b6=>f5 b' h1 (fun e=>b6 (by rw [inL,hi]; rfl) (by rw [hb,e])))
   (.inr (.inl ⟨by rw [inL,hi]; rfl,rfl⟩))
  have s2:=sat ⟨h8,.inr ⟨b,hb,_,h3,by rw [a4,q4,Sa,h5]; omega,fun j u v hu a5=>by
   rw [H5b] at hu;have hj:=(Pu hu).1;rw [Sa,h5] at hj;rw [a7 j hj] at a5;have b7:=Pw a5;subst b7;rw [b5,S3,Array.getElem?_toList,Array.getElem?_eq_getElem (by omega),Option.map_some] at hu;have b8:=Pw hu;subst b8;rw [getElem!_pos _ j (by omega)];exact .sc⟩⟩
  exact⟨_,_,_,_,rfl,s2.BS (h2 _ rfl),st.BS (h2 _ rfl),.tup rfl (fun j u v hu=>by simp at hu),rfl,rfl⟩

section ops
variable {P:Program} {o:Oper} {l:Fr} {L L'':Loc}
theorem Qc5 {F:FuncId} {x:Operand} {ts:Array TypeId} {i ver E n:Nat} {xs r:AE} (ho:o.op=.call { callee:=.value (.func F),args:=#[x],argTypes:=ts })
  (hs:Gf3 P F) (h0:G41 P F) (hB:Gz P F=true)
  (hx:ev l x=.vec i ver 1 n) (hi:lk L i=some (.vec E 1 ver (xs.map I64))) (hn:n=xs.length) (h:G2c xs=some r)
  (hL:(i,.vec E 1 ver (r.map I64))::xR L [(i,.vec E 1 ver (xs.map I64))]=L''):H1 P o l L (Is (.tup []) L''):=by
 obtain⟨hl,rfl⟩:=J96 h;subst hn;have h1:=Hf8 (P:=P) (F:=F) hs h0 i ver E xs hl;refine qK (xs:=[x]) ho h1 hB ⟨.inl hx,?_,trivial⟩ ⟨hi,trivial⟩ ?_ ?_ hL
 .simp [AV.refs,inL,lk]
 .simp [closedIn,Q3.refs]
 .simp [tQ,inL,lk]
end ops
end Go.Proofs.YtkiekighbhnolaaGreat
