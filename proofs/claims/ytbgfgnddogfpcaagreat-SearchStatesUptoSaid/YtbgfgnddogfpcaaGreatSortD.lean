/-
 Slices of the call's own,sorted in place by the library. slices.SortFunc in a model. Slices of whole numbers of the call's own,sorted in place by slices.SortFunc of slices (or other cells that refer to memo
-/
import Derived.Test.YtbgfgnddogfpcaaGreatDraw2
import Derived.Shelf.SlSortCmp.WholeK
import Derived.Shelf.SlSortCmp.Kit1
namespace Go.Proofs.YtbgfgnddogfpcaaGreat
open Go.RowKit Go.Sort

def bJ {B:Type} [Inhabited B] (cf:B->B->Int) (xs:List B):List B:=(pdq (ltOf cf) xs.toArray 0 xs.length (Lib.bitLen xs.length) true true).toList
variable {B:Type}
theorem ZG [Inhabited B] (cf:B->B->Int) (hO:SWO (ltOf cf)) (xs:List B):(bJ cf xs).Perm xs/\(bJ cf xs).length=xs.length/\∀ i j (hi:i < j) (hj:j < (bJ cf xs).length),ltOf cf (bJ cf xs)[j] (bJ cf xs)[i]=false:=by
 have h:=pdq_sorts (ltOf cf) hO xs.toArray 0 xs.length (Lib.bitLen xs.length) true true (Nat.zero_le _) (by simp) (Or.inl rfl);obtain⟨⟨h1,h2,h3⟩,h4⟩:=h;have hl:(bJ cf xs).length=xs.length:=by simp [bJ,h1]
 refine⟨?_,hl,fun i j hi hj=>?_⟩
 .have e1:(pdq (ltOf cf) xs.toArray 0 xs.length (Lib.bitLen xs.length) true true).extract 0 xs.length=pdq (ltOf cf) xs.toArray 0 xs.length (Lib.bitLen xs.length) true true:=by
   have:xs.length=(pdq (ltOf cf) xs.toArray 0 xs.length (Lib.bitLen xs.length) true true).size:=by rw [h1]; simp
   rw [Array.extract_eq_self_of_le (by omega)]
  have e2:xs.toArray.extract 0 xs.length=xs.toArray:=by rw [Array.extract_eq_self_of_le (by simp)]
  rw [e1,e2] at h3;exact h3
 .have h0:j < xs.length:=by omega
  have:=h4 i j (Nat.zero_le _) hi h0;have g:∀ q (hq:q < (bJ cf xs).length),(pdq (ltOf cf) xs.toArray 0 xs.length (Lib.bitLen xs.length) true true)[q]! = (bJ cf xs)[q]:=fun q hq=>by
   have h5:q < (pdq (ltOf cf) xs.toArray 0 xs.length (Lib.bitLen xs.length) true true).size:=by rw [h1]; simpa using (hl ▸ hq)
   rw [getElem!_pos _ q h5]; simp [bJ]
  rw [g j hj,g i (by omega)] at this;exact this

def H0f (P:Program) (F:FuncId) (k:Nat):Prop:=
 ∀ {B:Type} [Inhabited B] (enc:B->AK),(∀ x,(enc x).length=k)->(∀ x,∀ v∈enc x,v.oneCell'=true)->∀ (cf:B->B->Int),SWO (ltOf cf)->∀ (g:Nat) (cb:Array Value) (blk off cap:Nat) (d:Array B) (w:World),
  (∀ args w,(callFunc g args).run P w=.ok (.enter g args) w)->CmpLays P g cb enc k cf blk off d.size w->HoldsK enc k w blk off d->blk < w.heap.size->d.size < 4611686018427387904 ->
  Calls P F #[.slice (some ⟨blk,off,none⟩) d.size cap,.func (.func g) #[] cb] w fun e w'=>e=.returned (.tuple #[])/\∃ n os,w'=sortWorldK enc k w blk off n (pdq (ltOf cf) d 0 d.size (Lib.bitLen d.size) true true) os
def SortNone (P:Program) (F:FuncId):Prop:=
 ∀ (g:Nat) (cb:Array Value) (w:World),Calls P F #[.slice none 0 0,.func (.func g) #[] cb] w fun e w'=>e=.returned (.tuple #[])/\∃ n os,w'=grow (w.drewN n) os

variable {w:World}
theorem J53 {w':World} (h1:w'.os=w.os) (h2:w'.tape=w.tape) (h3:w'.output=w.output/\w.drawn<=w'.drawn) (h4:w.heap.size<=w'.heap.size) (h5:∀ b,b < w.heap.size->w'.heap[b]? = w.heap[b]?):∃ q os,w'=grow (w.drewN q) os:=by
 refine⟨w'.drawn - w.drawn,w'.heap.extract w.heap.size w'.heap.size,?_⟩;obtain⟨hp,tp,dr,os_,out⟩:=w';simp only at h1 h2 h3 h4 h5;subst h1 h2;obtain⟨rfl,h3⟩:=h3;unfold grow World.drewN;simp only [World.mk.injEq,true_and,and_true];refine⟨?_,by omega⟩;apply Array.ext_getElem?;intro k;rw [Array.getElem?_append];split
 .rename_i hk; exact h5 k hk
 .rename_i hk;rw [Array.getElem?_extract];have e:w.heap.size+(k - w.heap.size)=k:=by omega
  split
  .rw [e]
  .rename_i h0;exact Array.getElem?_eq_none (by omega)

variable {P:Program}
theorem GX {f:FuncId} {args:AD} {u:AV} (hc:Pure P f args (·=u)) {vs:Array Value} (hl:vs.size=args.length) (hv:∀ (j:Nat) a v,args[j]? = some a->vs[j]? = some v->D w (fun b _=>b < w.heap.size) a v) :
  Calls P f vs w fun e w'=>∃ v,e=.returned v/\D w' (fun b _=>b < w'.heap.size) u v/\∃ q os,w'=grow (w.drewN q) os:=by
 have h1:∀ b i:Nat,b < w.heap.size->Hs w ⟨fun _=>none,fun _ _=>False⟩ [] b i:=fun b i hs=>⟨hs,fun h=>h,fun id o h=>by simp [lk] at h⟩;refine(hc w ⟨fun _=>none,fun _ _=>False⟩ vs ⟨fun b i h=>h.elim,fun id b h=>by simp [lk] at h,fun id b j h=>by simp [lk] at h,fun id id' b h=>by simp [lk] at h,fun id o h=>by simp [lk] at h⟩ hl
  (fun j u v hu h2=>.data ((hv j u v hu h2).mono fun b i hs=>⟨h1 b i hs,rfl⟩))).mono fun e w' h=>?_
 obtain⟨v,r,U',L',he,h4,h0,h3,rfl,rfl⟩:=h;exact⟨v,he,h3.data_of_nil.mono fun b i hs=>⟨hs.lt,rfl⟩,J53 h0.os h0.tape h0.output h0.size (fun b hb=>(h0.far b hb (fun id h=>by simp [lk] at h)).1)⟩

def Flat {B:Type} (f:B->AV) (enc:B->AK):Prop:=∀ x,f x=.agg ((enc x).map .sc)

theorem D.inv_sc {S:Nat->Nat->Prop} {v x:Value} (h:D w S (.sc v) x):x=v:=by cases h; rfl
theorem Q77 {S:Nat->Nat->Prop} {vs:AK}:D w S (.agg (vs.map .sc)) (.agg vs.toArray):=
 .agg (by simp) fun j u v hu hv=>by
  simp only [Pj] at hu;simp only [List.getElem?_toArray] at hv;rw [hv] at hu; cases hu; exact .sc

theorem G5d [Inhabited B] {f:B->AV} {enc:B->AK} {k:Nat} (hf:Flat f enc) (hk:∀ x,(enc x).length=k) (xs:List B):flat (xs.map f)=(flatK enc k xs.toArray).toList.map .sc:=by
 apply List.ext_getElem?;intro j;have h0:∀ x∈xs.map f,x.cells.length=k:=fun x hx=>by
  obtain⟨y,_,rfl⟩:=Pt.1 hx;rw [hf y]; simp [AV.cells,hk]
 have h4:(flatK enc k xs.toArray).size=xs.length*k:=by rw [size_flatK]; simp
 rcases P4 j (xs.length*k) with hj | hj
 .have k0:0 < k:=by
   rcases Nat.eq_zero_or_pos k with h | h
   .subst h; simp at hj
   .exact h
  have h5:j=j / k*k+j % k:=by rw [Nat.mul_comm]; exact(Nat.div_add_mod j k).symm
  have hq:j / k < xs.length:=Nat.div_lt_of_lt_mul (by rw [Nat.mul_comm]; exact hj);have h1:(xs.map f)[j / k]? = some (f xs[j / k]):=by simp [hq]
  have hl:(flat (xs.map f))[j]? = (f xs[j / k]).cells[j % k]? := by
   have:=jI h0 h1 (Nat.mod_lt j k0)
   rwa [<- h5] at this
  have hg:=get_flatK enc k xs.toArray j (by rw [List.size_toArray]; exact hj);have h2:j % k < (enc xs[j / k]).length:=by rw [hk]; exact Nat.mod_lt _ k0
  rw [hl,hf,Pj];simp only [AV.cells,Pj,Pb h2,Option.map_some,Array.getElem?_toList];have h3:j < (flatK enc k xs.toArray).size:=by omega
  rw [Array.getElem?_eq_getElem h3,Option.map_some];rw [getElem!_pos _ j h3] at hg;rw [hg];have:xs.toArray[j / k]! = xs[j / k]:=by rw [getElem!_pos _ (j / k) (by simpa using hq)]; simp
  rw [this,getElem!_pos _ (j % k) h2]
 .rw [List.getElem?_eq_none (by rw [J2 h0]; simpa using hj),List.getElem?_eq_none (by simp [h4]; exact hj)]

set_option maxHeartbeats 1000000 in
theorem Hf9 {F:FuncId} {k:Nat} (hs:H0f P F k) (h0:SortNone P F) [Inhabited B] {f:B->AV} (enc:B->AK) (hf:Flat f enc) (hk:∀ x,(enc x).length=k) (h1:∀ x,∀ v∈enc x,v.oneCell'=true)
  (cf:B->B->Int) (hO:SWO (ltOf cf)) (g:FuncId) (hB:H5 P g=true) (AZ:AD) (c1:Qr (fun _=>false) AZ=true) (h8:∀ x y,Pure P g ([f x,f y]++AZ) (·=I64 (cf x y)))
  (i ver E:Nat) (xs:List B) (b7:xs.length < 4611686018427387904) :
  Q2 P F [.vec i ver k xs.length,.fn g AZ] [(i,.vec E k ver (xs.map f))] (fun r L'=>r=.tup []/\L'=[(i,.vec E k ver ((bJ cf xs).map f))]):=by
 intro w U vs h9 hl hv;have hi:lk [(i,Jb.vec E k ver (xs.map f))] i=some (.vec E k ver (xs.map f)):=by simp [lk]
 have c2:vs.size=2:=hl;obtain⟨v0,v1,rfl⟩:∃ v0 v1,vs=#[v0,v1]:=by
  refine⟨vs[0],vs[1],?_⟩;apply Array.ext
  .simp [c2]
  .intro j d4 c3;have:j=0\/j=1:=by omega
   rcases this with rfl | rfl <;> rfl
 have c4:=hv 0 _ v0 rfl rfl;have c5:=hv 1 _ v1 rfl rfl;obtain⟨cb,rfl,a9,c6⟩:=c5.inv_fn;have b8:∀ (j:Nat) u v,AZ[j]? = some u->cb[j]? = some v->D w (Hs w U [(i,Jb.vec E k ver (xs.map f))]) u v:=fun j u v hu h2=>(c6 j u v hu h2).toD (Yz c1 u (Pd hu));obtain⟨-,d5,c7⟩:=cX h9 hi c4;have h7:(bJ cf xs).length=xs.length:=(ZG cf hO xs).2.1;have a0:∀ y∈(bJ cf xs).map f,y.cells.length=k:=fun y hy=>by
  obtain⟨z,_,rfl⟩:=Pt.1 hy;rw [hf z]; simp [AV.cells,hk]
 have h6:∀ L:Loc,L=[(i,Jb.vec E k ver ((bJ cf xs).map f))]->fL ((i,Jb.vec E k ver ((bJ cf xs).map f))::[(i,Jb.vec E k ver (xs.map f))]) L:=fun L hL id=>by
  subst hL;rw [Ge,Ge,Ge];by_cases e:i=id
  .rw [if_pos e,if_pos e]
  .rw [if_neg e,if_neg e,if_neg e]
 rcases c7 with ⟨rfl,c8,b0⟩ | ⟨b,cap,cur,rfl,hb,q1,q2,q3,q4,q5⟩
 ·-- no element
  refine(h0 g cb w).mono fun e w' h=>?_;obtain⟨rfl,n,os,rfl⟩:=h;have hx:xs=[]:=by simpa using c8
  subst hx;have b1:bJ cf ([]:List B)=[]:=P1 (by simpa using h7);obtain⟨st,sat⟩:=R0 (w':=grow (w.drewN n) os) (t:=E) (k:=k) (BA:=ver) (xs':=(bJ cf ([]:List B)).map f) (ob':=none) h9 (.inr ⟨ver,_,hi,Pf,fun _=>⟨by simp [b1],b0.symm,fun b hb=>by rw [b0] at hb; cases hb⟩⟩)
   rfl rfl ⟨rfl,by simp [grow,World.drewN]⟩ (by simp [grow,World.drewN]) (fun b hb _=>by simp [grow,World.drewN,Array.getElem?_append_left hb]) (.inl rfl)
  have s2:=sat ⟨a0,.inl ⟨rfl,by simp [b1]⟩⟩;exact⟨_,_,_,_,rfl,s2.BK (h6 _ rfl),st.BK (h6 _ rfl),.tup rfl (fun j u v hu=>by simp at hu),rfl,rfl⟩
 .have a3:b < w.heap.size:=(Nz q3).1;have b2:(flatK enc k xs.toArray).size=xs.length*k:=by rw [size_flatK]; simp
  have b3:(xs.map f).length=xs.length:=by simp
  rw [b3] at q1;have hH:HoldsK enc k w b 0 xs.toArray:=by
   intro j hj;have c3:j < xs.length*k:=by rw [<- b2]; exact hj
   have b4:j < cur.size:=by rw [q4]; have:=Nat.mul_le_mul_right k q1; omega
   have hu:(flat (xs.map f))[j]? = some (.sc (flatK enc k xs.toArray)[j]!):=by
    rw [G5d hf hk,Pj,Array.getElem?_toList,Array.getElem?_eq_getElem hj,getElem!_pos _ j hj]; rfl
   have hd:=q5 j _ cur[j] hu (by simp [b4]);have he:cur[j]=(flatK enc k xs.toArray)[j]! := hd.inv_sc;constructor
   .simp [World.cell?,q3,b4,he]
   .simp [World.frozen?,q3]
  have eg:∀ args w,(callFunc g args).run P w=.ok (.enter g args) w:=fun args w=>H5.out hB args w;have hC:CmpLays P g cb enc k cf b 0 xs.toArray.size w:=by
   intro m os dk d6 x y;have h4:∀ b' j,Hs w U [(i,Jb.vec E k ver (xs.map f))] b' j->Qf (sortWorldK enc k w b 0 m dk os) b' j=Qf w b' j/\b' < (sortWorldK enc k w b 0 m dk os).heap.size:=by
    intro b' j hs;have a4:b'≠b:=fun e=>by
     have:=hs.kept i _ hi (by rw [e]; exact hb);exact this
    constructor
    .refine Jc (w:=w) ?_;unfold sortWorldK;simp only [grow];rw [Array.getElem?_append_left (by simp only [putRowK,putRow,mapBlock,Array.size_modify,Sort.ahead]; exact hs.lt)];simp only [putRowK,putRow,mapBlock,Sort.ahead,Array.getElem?_modify,if_neg (Ne.symm a4)]
    .unfold sortWorldK;simp only [size_grow,putRowK,putRow,mapBlock,Array.size_modify,Sort.ahead];have:=hs.lt; omega
   generalize sortWorldK enc k w b 0 m dk os=W at h4 ⊢;have a5:(#[Value.agg (enc x).toArray,Value.agg (enc y).toArray]++cb).size=([f x,f y]++AZ).length:=by rw [Array.size_append,Pn,a9]; rfl
   have c9:=GX (w:=W) (h8 x y) a5;clear h8 hs a5 hH b2 q5 a9;refine(c9 (fun j a v ha h2=>?_)).mono fun e w' h=>?_
   .rcases P4 j 2 with hj | hj
    .rw [Ph (by simpa using hj)] at ha;rw [Array.getElem?_append_left (by simpa using hj)] at h2;have:j=0\/j=1:=by omega
     rcases this with rfl | rfl
     .simp at ha h2; subst ha h2; rw [hf x]; exact Q77
     .simp at ha h2; subst ha h2; rw [hf y]; exact Q77
    .rw [Pg (by simpa using hj)] at ha;rw [Array.getElem?_append_right (by simpa using hj)] at h2;exact(b8 (j - 2) a v (by simpa using ha) (by simpa using h2)).mono fun b' j' hs=>⟨(h4 b' j' hs).2,(h4 b' j' hs).1⟩
   .obtain⟨v,rfl,hd,q,os',rfl⟩:=h;have d0:=hd.inv_sc;subst d0;exact⟨rfl,q,os',rfl⟩
  have a1:=hs enc hk h1 cf hO g cb b 0 cap xs.toArray w eg hC hH a3 (by simpa using b7);rw [List.size_toArray] at a1;rw [b3];refine a1.mono fun e w' h=>?_;obtain⟨rfl,n,os,rfl⟩:=h
  -- what lies there now
  obtain⟨d',a6⟩:∃ d',d'=pdq (ltOf cf) xs.toArray 0 xs.length (Lib.bitLen xs.length) true true:=⟨_,rfl⟩;have a7:d'.size=xs.toArray.size:=by
   have:=h7;rw [bJ,<- a6] at this;simpa using this
  have d1:bJ cf xs=d'.toList:=by rw [bJ,<- a6]
  rw [<- a6];have b5:=holdsK_sortWorldK enc k w b 0 n xs.toArray d' os a3 hH a7;have h3:(sortWorldK enc k w b 0 n d' os).heap[b]? = some (.cells (putCells id 0 (flatK enc k d') cur) E (0,0)):=by
   unfold sortWorldK grow putRowK putRow mapBlock;simp only [Sort.ahead];rw [Array.getElem?_append_left (by simpa using a3),Array.getElem?_modify,if_pos rfl,q3];rfl
  have b6:(putCells id 0 (flatK enc k d') cur).size=cur.size:=by simp [putCells]
  have a8:∀ j,j < xs.length*k->(sortWorldK enc k w b 0 n d' os).cell? ⟨b,j,none⟩=some (flatK enc k d')[j]! := by
   intro j hj;have a2:j < (flatK enc k d').size:=by rw [size_flatK,a7]; simpa using hj
   have:=(b5 j a2).1;rw [Nat.zero_add] at this;exact this
  have f1:(sortWorldK enc k w b 0 n d' os).os=w.os:=rfl;have f2:(sortWorldK enc k w b 0 n d' os).tape=w.tape:=rfl;have f3:(sortWorldK enc k w b 0 n d' os).output=w.output/\w.drawn<=(sortWorldK enc k w b 0 n d' os).drawn:=⟨rfl,Nat.le_add_right _ _⟩;have f4:w.heap.size<=(sortWorldK enc k w b 0 n d' os).heap.size:=by
   unfold sortWorldK;rw [size_grow];simp only [putRowK,putRow,mapBlock,Array.size_modify,Sort.ahead]; omega
  have f5:∀ b',b' < w.heap.size->b≠b'->(sortWorldK enc k w b 0 n d' os).heap[b']? = w.heap[b']? := by
   intro b' h5 b9;unfold sortWorldK grow putRowK putRow mapBlock;simp only [Sort.ahead];rw [Array.getElem?_append_left (by simpa using h5),Array.getElem?_modify,if_neg b9]
  clear b5 hH hC h8;generalize sortWorldK enc k w b 0 n d' os=W at h3 a8 f1 f2 f3 f4 f5;obtain⟨st,sat⟩:=R0 (w':=W) (t:=E) (k:=k) (BA:=ver) (xs':=(bJ cf xs).map f) (ob':=U.at_ i) h9
   (.inr ⟨ver,_,hi,Pf,fun _=>⟨by rw [Pr,Pr,h7],rfl,fun b' h5=>by
    rw [hb] at h5; cases h5;rw [World.shape?,h3,World.shape?,q3]; simp only [b6]⟩⟩) f1 f2 f3 f4
   (fun b' h5 a4=>f5 b' h5 (fun e=>a4 (by rw [inL,hi]; rfl) (by rw [hb,e])))
   (.inr (.inl ⟨by rw [inL,hi]; rfl,rfl⟩))
  have c0:∀ j,j < xs.length*k->(putCells id 0 (flatK enc k d') cur)[j]? = some (flatK enc k d')[j]! := by
   intro j hj;have:=a8 j hj;simp only [World.cell?,h3] at this;simpa using this
  have s2:=sat ⟨a0,.inr ⟨b,hb,_,h3,by rw [b6,q4,Pr,h7]; exact Nat.mul_le_mul_right _ q1,fun j u v hu h2=>by
   have hj:=(Pa hu).1;rw [J2 a0,Pr,h7] at hj;rw [c0 j hj] at h2;have d2:=Pc h2;subst d2;have a2:j < (flatK enc k d').size:=by rw [size_flatK,a7]; simpa using hj
   rw [G5d hf hk,d1] at hu;rw [Pj,Array.getElem?_toList,Array.toArray_toList,Array.getElem?_eq_getElem a2,Option.map_some] at hu;have d3:=Pc hu;subst d3;rw [getElem!_pos _ j a2];exact .sc⟩⟩
  exact⟨_,_,_,_,rfl,s2.BK (h6 _ rfl),st.BK (h6 _ rfl),.tup rfl (fun j u v hu=>by simp at hu),rfl,rfl⟩
set_option maxRecDepth 100000
open Go.RowKit Go.Shelf Go.Sort

open Classical in
noncomputable def ZF {B:Type} [Inhabited B] (cmp:B->B->Option Int) (xs:List B):Option (List B):=
 if h:∃ cf:B->B->Int,(∀ x y,cmp x y=some (cf x y))/\SWO (ltOf cf)/\xs.length < 4611686018427387904 then some (bJ h.choose xs) else none
variable {r xs:List B} {cmp:B->B->Option Int}
theorem J62 [Inhabited B] (h:ZF cmp xs=some r):∃ cf:B->B->Int,(∀ x y,cmp x y=some (cf x y))/\SWO (ltOf cf)/\xs.length < 4611686018427387904/\r=bJ cf xs:=by
 unfold ZF at h;split at h
 .next hh=>exact⟨hh.choose,hh.choose_spec.1,hh.choose_spec.2.1,hh.choose_spec.2.2,(Pc h).symm⟩
 .cases h
theorem Ja2 [Inhabited B] (cf:B->B->Int) (hc:∀ x y,cmp x y=some (cf x y)) (hO:SWO (ltOf cf)) (hl:xs.length < 4611686018427387904):ZF cmp xs=some (bJ cf xs):=by
 have hh:∃ cf:B->B->Int,(∀ x y,cmp x y=some (cf x y))/\SWO (ltOf cf)/\xs.length < 4611686018427387904:=⟨cf,hc,hO,hl⟩;unfold ZF;rw [dif_pos hh];have:hh.choose=cf:=by
  funext x y;have h1:=hh.choose_spec.1 x y;rw [hc x y] at h1;exact(Pc h1).symm
 rw [this]

theorem Q97 {vs:AK} (h:vs.all Value.oneCell'=true):∀ v∈vs,v.oneCell'=true:=List.all_eq_true.1 h

section ops
variable {P:Program} {o:Oper} {l:Fr} {L L'':Loc}
theorem Q4d {F:FuncId} {x y:Operand} {ts:Array TypeId} {k i ver E n:Nat} {g:FuncId} {AZ:AD} {B:Type} [Inhabited B] {f:B->AV} {cmp:B->B->Option Int} {xs r:List B} (enc:B->AK) (ho:o.op=.call { callee:=.value (.func F),args:=#[x,y],argTypes:=ts })
  (hs:H0f P F k) (h0:SortNone P F) (hf:Flat f enc) (hk:∀ x,(enc x).length=k) (h1:∀ x,∀ v∈enc x,v.oneCell'=true) (hB:H5 P F=true) (h5:H5 P g=true)
  (hx:ev l x=.vec i ver k n) (hy:ev l y=.fn g AZ) (hi:lk L i=some (.vec E k ver (xs.map f))) (hn:n=xs.length) (h3:Qr (fun _=>false) AZ=true) (h:ZF cmp xs=some r)
  (h4:∀ x y q,cmp x y=some q->Pure P g ([f x,f y]++AZ) (·=I64 q)) (hL:(i,.vec E k ver (r.map f))::qA L [(i,.vec E k ver (xs.map f))]=L''):Gy P o l L (Is (.tup []) L''):=by
 obtain⟨cf,hc,hO,hl,rfl⟩:=J62 h;subst hn;have h2:=Hf9 (P:=P) (F:=F) (k:=k) hs h0 enc hf hk h1 cf hO g h5 AZ h3 (fun a b=>h4 a b _ (hc a b)) i ver E xs hl;refine wF (xs:=[x,y]) ho h2 hB ⟨.inl hx,?_,.inl hy,?_,trivial⟩ ⟨hi,trivial⟩ ?_ ?_ hL
 .simp [AV.refs,inL,lk]
 .exact Qp _ _ h3
 .simp [closedIn,Jb.refs]
 .simp [nQ,inL,lk]
end ops
set_option linter.unusedVariables false
open Go.RowKit Go.Sort Go.Shelf

def J0e (x:Int):AE->AE
 | []=>[x]
 | y::r=>bif decide (x<=y) then x::y::r else y::J0e x r
def mG:AE->AE
 | []=>[]
 | x::r=>J0e x (mG r)
theorem RQ (x:Int):∀ l,(J0e x l).Perm (x::l)
 | []=>List.Perm.refl _
 | y::r=>by
  rw [J0e];cases decide (x<=y) with
  | true=>exact List.Perm.refl _
  | false=>exact(List.Perm.cons y (RQ x r)).trans (List.Perm.swap x y r)
theorem vH:∀ l,(mG l).Perm l
 | []=>List.Perm.refl _
 | x::r=>(RQ x _).trans ((vH r).cons x)
theorem ZX {x:Int}:∀ {l:AE},l.Pairwise (·<=·)->(J0e x l).Pairwise (·<=·)
 | [],_=>by simp [J0e]
 | y::r,h=>by
  rw [J0e];rw [List.pairwise_cons] at h;cases hb:decide (x<=y) with
  | true=>
   have h0:=P6 hb;rw [cond_true,List.pairwise_cons];refine⟨fun z hz=>?_,List.pairwise_cons.2 h⟩;rcases Pv.1 hz with rfl | hz
   .exact h0
   .have:=h.1 z hz; omega
  | false=>
   have h0:=P7 hb;rw [cond_false,List.pairwise_cons];refine⟨fun z hz=>?_,ZX h.2⟩;rcases Pv.1 ((RQ x r).mem_iff.1 hz) with rfl | hz
   .omega
   .exact h.1 z hz
theorem vG:∀ l,(mG l).Pairwise (·<=·)
 | []=>List.Pairwise.nil
 | x::r=>ZX (vG r)
theorem H64 (xs:AE):(xs.mergeSort fun x y=>decide (x<=y))=mG xs:=by
 have h1:=List.mergeSort_perm xs (fun x y=>decide (x<=y));have h2:(xs.mergeSort fun x y=>decide (x<=y)).Pairwise (fun a b:Int=>decide (a<=b)=true):=List.pairwise_mergeSort (le:=fun x y:Int=>decide (x<=y)) (fun a b c h g=>by simp at *; omega) (fun a b=>by simp; omega) xs;refine List.Perm.eq_of_pairwise (le:=fun a b:Int=>decide (a<=b)=true) (fun a b _ _ h0 h3=>by simp at *; omega) h2 ((vG xs).imp fun h=>P8 h) (h1.trans (vH xs).symm)
theorem Gc6 (xs:AE):(mG xs).length=xs.length:=(vH xs).length_eq
def RD (xs:AE):Option AE:=bif decide (xs.length < 4611686018427387904) then some (mG xs) else none
theorem Hfc {xs r:AE} (h:RD xs=some r):xs.length < 4611686018427387904/\r=mG xs:=by
 unfold RD at h;cases hb:decide (xs.length < 4611686018427387904) with
 | true=>rw [hb] at h; exact⟨P6 hb,(Pc h).symm⟩
 | false=>rw [hb] at h; cases h

def G70 (P:Program) (F:FuncId):Prop:=
 ∀ (blk off cap:Nat) (zs:AE) (w:World),Holds (Value.int .i64) w blk off zs.toArray->blk < w.heap.size->zs.length < 4611686018427387904 ->
  Calls P F #[.slice (some ⟨blk,off,none⟩) zs.length cap] w fun e w'=>e=.returned (.tuple #[])/\∃ n os,w'=grow (putRow (Value.int .i64) (Sort.ahead w n) blk off (zs.mergeSort fun x y=>decide (x<=y)).toArray) os
def RY (P:Program) (F:FuncId):Prop:=
 ∀ (p:Option Addr) (cap:Nat) (w:World),Calls P F #[.slice p 0 cap] w fun e w'=>e=.returned (.tuple #[])/\w'=w

theorem Gdc (xs:AE):flat (xs.map I64)=xs.map I64:=by
 induction xs with
 | nil=>rfl
 | cons x r ih=>rw [List.map_cons,flat,ih]; rfl

theorem H65 {F:FuncId} (hs:G70 P F) (h0:RY P F) (i ver E:Nat) (xs:AE) (a6:xs.length < 4611686018427387904) :
  Q2 P F [.vec i ver 1 xs.length] [(i,.vec E 1 ver (xs.map I64))] (fun r L'=>r=.tup []/\L'=[(i,.vec E 1 ver ((mG xs).map I64))]):=by
 intro w U vs h4 hl hv;have hi:lk [(i,Jb.vec E 1 ver (xs.map I64))] i=some (.vec E 1 ver (xs.map I64)):=by simp [lk]
 have a9:vs.size=1:=hl;obtain⟨v0,rfl⟩:∃ v0,vs=#[v0]:=by
  refine⟨vs[0],?_⟩;apply Array.ext
  .simp [a9]
  .intro j b9 h7;have:j=0:=by omega
   subst this; rfl
 have b0:=hv 0 _ v0 rfl rfl;obtain⟨-,c0,b1⟩:=cX h4 hi b0;have h5:=Gc6 xs;have h8:∀ y∈(mG xs).map I64,y.cells.length=1:=fun y hy=>by
  obtain⟨z,_,rfl⟩:=Pt.1 hy;rfl
 have h2:∀ L:Loc,L=[(i,Jb.vec E 1 ver ((mG xs).map I64))]->fL ((i,Jb.vec E 1 ver ((mG xs).map I64))::[(i,Jb.vec E 1 ver (xs.map I64))]) L:=fun L hL id=>by
  subst hL;rw [Ge,Ge,Ge];by_cases e:i=id
  .rw [if_pos e,if_pos e]
  .rw [if_neg e,if_neg e,if_neg e]
 rcases b1 with ⟨rfl,b2,b3⟩ | ⟨b,cap,cur,rfl,hb,q1,q2,q3,q4,q5⟩
 .refine(h0 none 0 w).mono fun e w' h=>?_;obtain⟨rfl,rfl⟩:=h;have hx:xs=[]:=by simpa using b2
  subst hx;have a1:mG ([]:AE)=[]:=P1 (by simpa using h5);obtain⟨st,sat⟩:=R0 (w':=w') (t:=E) (k:=1) (BA:=ver) (xs':=(mG ([]:AE)).map I64) (ob':=none) h4 (.inr ⟨ver,_,hi,Pf,fun _=>⟨by simp [a1],b3.symm,fun _ _=>rfl⟩⟩)
   rfl rfl ⟨rfl,Pf⟩ (Pf) (fun b hb _=>rfl) (.inl rfl)
  have s2:=sat ⟨h8,.inl ⟨rfl,by simp [a1]⟩⟩;exact⟨_,_,_,_,rfl,s2.BK (h2 _ rfl),st.BK (h2 _ rfl),.tup rfl (fun j u v hu=>by simp at hu),rfl,rfl⟩
 .have a2:b < w.heap.size:=(Nz q3).1;have a3:(xs.map I64).length=xs.length:=by simp
  rw [a3] at q1;have hH:Holds (Value.int .i64) w b 0 xs.toArray:=by
   intro j hj;have h7:j < xs.length:=by simpa using hj
   have h6:j < cur.size:=by rw [q4]; omega
   have hu:(flat (xs.map I64))[j]? = some (.sc (Value.int .i64 xs[j])):=by
    rw [Gdc,Pj,Pb h7]; rfl
   have hd:=q5 j _ cur[j] hu (by simp [h6]);have he:cur[j]=Value.int .i64 xs[j]:=hd.inv_sc;constructor
   .simp [World.cell?,q3,h6,he,h7]
   .simp [World.frozen?,q3]
  have a0:=hs b 0 cap xs w hH a2 a6;rw [a3];refine a0.mono fun e w' h=>?_;obtain⟨rfl,n,os,rfl⟩:=h;rw [H64];obtain⟨d',h9⟩:∃ d':Array Int,d'=(mG xs).toArray:=⟨_,rfl⟩;have b4:d'.size=xs.length:=by rw [h9]; simp [Gc6]
  have b5:mG xs=d'.toList:=by rw [h9]
  rw [<- h9];have h3:(grow (putRow (Value.int .i64) (Sort.ahead w n) b 0 d') os).heap[b]? = some (.cells (putCells (Value.int .i64) 0 d' cur) E (0,0)):=by
   unfold grow putRow mapBlock;simp only [Sort.ahead];rw [Array.getElem?_append_left (by simpa using a2),Array.getElem?_modify,if_pos rfl,q3];rfl
  have a4:(putCells (Value.int .i64) 0 d' cur).size=cur.size:=by simp [putCells]
  have a7:∀ j,j < xs.length->(putCells (Value.int .i64) 0 d' cur)[j]? = some (Value.int .i64 d'[j]!):=by
   intro j hj;have h6:j < cur.size:=by rw [q4]; omega
   simp [putCells,h6,b4,hj]
  have f1:(grow (putRow (Value.int .i64) (Sort.ahead w n) b 0 d') os).os=w.os:=rfl;have f2:(grow (putRow (Value.int .i64) (Sort.ahead w n) b 0 d') os).tape=w.tape:=rfl;have f3:(grow (putRow (Value.int .i64) (Sort.ahead w n) b 0 d') os).output=w.output/\w.drawn<=(grow (putRow (Value.int .i64) (Sort.ahead w n) b 0 d') os).drawn:=⟨rfl,Nat.le_add_right _ _⟩;have f4:w.heap.size<=(grow (putRow (Value.int .i64) (Sort.ahead w n) b 0 d') os).heap.size:=by
   rw [size_grow];simp only [putRow,mapBlock,Array.size_modify,Sort.ahead]; omega
  have f5:∀ b',b' < w.heap.size->b≠b'->(grow (putRow (Value.int .i64) (Sort.ahead w n) b 0 d') os).heap[b']? = w.heap[b']? := by
   intro b' h1 a8;unfold grow putRow mapBlock;simp only [Sort.ahead];rw [Array.getElem?_append_left (by simpa using h1),Array.getElem?_modify,if_neg a8]
  clear hH;generalize grow (putRow (Value.int .i64) (Sort.ahead w n) b 0 d') os=W at h3 f1 f2 f3 f4 f5;obtain⟨st,sat⟩:=R0 (w':=W) (t:=E) (k:=1) (BA:=ver) (xs':=(mG xs).map I64) (ob':=U.at_ i) h4
   (.inr ⟨ver,_,hi,Pf,fun _=>⟨by rw [Pr,Pr,h5],rfl,fun b' h1=>by
    rw [hb] at h1; cases h1;rw [World.shape?,h3,World.shape?,q3]; simp only [a4]⟩⟩) f1 f2 f3 f4
   (fun b' h1 b6=>f5 b' h1 (fun e=>b6 (by rw [inL,hi]; rfl) (by rw [hb,e])))
   (.inr (.inl ⟨by rw [inL,hi]; rfl,rfl⟩))
  have s2:=sat ⟨h8,.inr ⟨b,hb,_,h3,by rw [a4,q4,Pr,h5]; omega,fun j u v hu a5=>by
   rw [Gdc] at hu;have hj:=(Pa hu).1;rw [Pr,h5] at hj;rw [a7 j hj] at a5;have b7:=Pc a5;subst b7;rw [b5,Pj,Array.getElem?_toList,Array.getElem?_eq_getElem (by omega),Option.map_some] at hu;have b8:=Pc hu;subst b8;rw [getElem!_pos _ j (by omega)];exact .sc⟩⟩
  exact⟨_,_,_,_,rfl,s2.BK (h2 _ rfl),st.BK (h2 _ rfl),.tup rfl (fun j u v hu=>by simp at hu),rfl,rfl⟩

section ops
variable {P:Program} {o:Oper} {l:Fr} {L L'':Loc}
theorem Q4e {F:FuncId} {x:Operand} {ts:Array TypeId} {i ver E n:Nat} {xs r:AE} (ho:o.op=.call { callee:=.value (.func F),args:=#[x],argTypes:=ts })
  (hs:G70 P F) (h0:RY P F) (hB:H5 P F=true)
  (hx:ev l x=.vec i ver 1 n) (hi:lk L i=some (.vec E 1 ver (xs.map I64))) (hn:n=xs.length) (h:RD xs=some r)
  (hL:(i,.vec E 1 ver (r.map I64))::qA L [(i,.vec E 1 ver (xs.map I64))]=L''):Gy P o l L (Is (.tup []) L''):=by
 obtain⟨hl,rfl⟩:=Hfc h;subst hn;have h1:=H65 (P:=P) (F:=F) hs h0 i ver E xs hl;refine wF (xs:=[x]) ho h1 hB ⟨.inl hx,?_,trivial⟩ ⟨hi,trivial⟩ ?_ ?_ hL
 .simp [AV.refs,inL,lk]
 .simp [closedIn,Jb.refs]
 .simp [nQ,inL,lk]
end ops
open Go.RowKit Go.Sort Go.Shelf

def dV {B:Type} (cf:B->B->Int) (xs:List B):Prop:=xs.Pairwise fun x y=>ltOf cf y x=false
open Classical in
noncomputable def vI {B:Type} (cmp:B->B->Option Int) (xs:List B):Option (List B):=
 if h:∃ r,∃ cf:B->B->Int,(∀ x y,cmp x y=some (cf x y))/\SWO (ltOf cf)/\xs.length < 4611686018427387904/\r.Perm xs/\dV cf r/\∀ r',r'.Perm xs->dV cf r'->r'=r then some h.choose else none
theorem G43 (h:vI cmp xs=some r):∃ cf:B->B->Int,(∀ x y,cmp x y=some (cf x y))/\SWO (ltOf cf)/\xs.length < 4611686018427387904/\r.Perm xs/\dV cf r/\∀ r',r'.Perm xs->dV cf r'->r'=r:=by
 unfold vI at h;split at h
 .next hh=>cases h; exact hh.choose_spec
 .cases h
theorem Gc7 (cf:B->B->Int) (hc:∀ x y,cmp x y=some (cf x y)) (hO:SWO (ltOf cf)) (hl:xs.length < 4611686018427387904) (hp:r.Perm xs) (hs:dV cf r) (hu:∀ r',r'.Perm xs->dV cf r'->r'=r):vI cmp xs=some r:=by
 have hh:∃ r,∃ cf:B->B->Int,(∀ x y,cmp x y=some (cf x y))/\SWO (ltOf cf)/\xs.length < 4611686018427387904/\r.Perm xs/\dV cf r/\∀ r',r'.Perm xs->dV cf r'->r'=r:=⟨r,cf,hc,hO,hl,hp,hs,hu⟩;unfold vI;rw [dif_pos hh];obtain⟨cf',h1,h2,h3,h4,h5,h6⟩:=hh.choose_spec;have:cf'=cf:=by
  funext x y;have:=h1 x y;rw [hc x y] at this;exact(Pc this).symm
 subst this;rw [hu _ h4 h5]

def yF (P:Program) (F:FuncId):Prop:=
 ∀ {B:Type} [Inhabited B] (enc:B->Value),OneCell enc->∀ (cf:B->B->Int),SWO (ltOf cf)->∀ (g:Nat) (cb:Array Value) (blk off cap:Nat) (d:Array B) (w:World),
  (∀ args w,(callFunc g args).run P w=.ok (.enter g args) w)->CmpLays1 P g cb enc cf blk off d.size w->Holds enc w blk off d->blk < w.heap.size->d.size < 4611686018427387904 ->
  Calls P F #[.slice (some ⟨blk,off,none⟩) d.size cap,.func (.func g) #[] cb] w fun e w'=>e=.returned (.tuple #[])/\∃ d' n os,PermIn 0 d.size d d'/\SortedIn (ltOf cf) 0 d.size d'/\w'=sortWorld enc w blk off n d' os

theorem H75 [Inhabited B] {d d':Array B} (h:PermIn 0 d.size d d'):d'.toList.Perm d.toList/\d'.size=d.size:=by
 obtain⟨h1,h2,h3⟩:=h;have e1:d'.extract 0 d.size=d':=by rw [Array.extract_eq_self_of_le (by omega)]
 have e2:d.extract 0 d.size=d:=by rw [Array.extract_eq_self_of_le (by omega)]
 rw [e1,e2] at h3;exact⟨h3,h1⟩
theorem G42 [Inhabited B] {cf:B->B->Int} {d:Array B} (h:SortedIn (ltOf cf) 0 d.size d):dV cf d.toList:=by
 refine List.pairwise_iff_getElem.2 fun i j hi hj h0=>?_;have:=h i j (Nat.zero_le _) h0 (by simpa using hj);rw [getElem!_pos d j (by simpa using hj),getElem!_pos d i (by simpa using hi)] at this;simpa using this

theorem qH {B:Type} {f:B->AV} (hf:∀ x,(f x).cells=[f x]):∀ xs:List B,flat (xs.map f)=xs.map f
 | []=>rfl
 | x::r=>by rw [List.map_cons,flat,hf,qH hf r]; rfl

end Go.Proofs.YtbgfgnddogfpcaaGreat
