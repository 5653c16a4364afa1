/-
 Slices of the call's own,sorted in place by the library. slices.SortFunc in a model. Slices of whole numbers of the call's own,sorted in place by
-/
import Derived.Test.YthkihfoleenlmaaGreatDraw2
import Derived.Shelf.SlSortCmp.WholeK
namespace Go.Proofs.YthkihfoleenlmaaGreat
open Go.RowKit Go.Sort

def bA {α:Type} [Inhabited α] (cf:α→α→Int) (xs:List α):List α:=(pdq (ltOf cf) xs.toArray 0 xs.length (Lib.bitLen xs.length) true true).toList
theorem HV {α:Type} [Inhabited α] (cf:α→α→Int) (hO:SWO (ltOf cf)) (xs:List α):(bA cf xs).Perm xs∧(bA cf xs).length=xs.length∧∀ i j (hi:i < j) (hj:j < (bA cf xs).length),ltOf cf (bA cf xs)[j] (bA cf xs)[i]=false:=by
 have h:=pdq_sorts (ltOf cf) hO xs.toArray 0 xs.length (Lib.bitLen xs.length) true true (Nat.zero_le _) (by simp) (Or.inl rfl)
 obtain⟨⟨h1,h2,h3⟩,h4⟩:=h
 have hl:(bA cf xs).length=xs.length:=by simp [bA,h1]
 refine⟨?_,hl,fun i j hi hj=>?_⟩
 ·have e1:(pdq (ltOf cf) xs.toArray 0 xs.length (Lib.bitLen xs.length) true true).extract 0 xs.length=pdq (ltOf cf) xs.toArray 0 xs.length (Lib.bitLen xs.length) true true:=by
   have:xs.length=(pdq (ltOf cf) xs.toArray 0 xs.length (Lib.bitLen xs.length) true true).size:=by rw [h1]; simp
   rw [Array.extract_eq_self_of_le (by omega)]
  have e2:xs.toArray.extract 0 xs.length=xs.toArray:=by rw [Array.extract_eq_self_of_le (by simp)]
  rw [e1,e2] at h3
  exact h3
 ·have h0:j < xs.length:=by omega
  have:=h4 i j (Nat.zero_le _) hi h0
  have g:∀ q (hq:q < (bA cf xs).length),(pdq (ltOf cf) xs.toArray 0 xs.length (Lib.bitLen xs.length) true true)[q]! = (bA cf xs)[q]:=fun q hq=>by
   have h5:q < (pdq (ltOf cf) xs.toArray 0 xs.length (Lib.bitLen xs.length) true true).size:=by rw [h1]; simpa using (hl ▸ hq)
   rw [getElem!_pos _ q h5]; simp [bA]
  rw [g j hj,g i (by omega)] at this
  exact this

def G64 (P:Program) (F:FuncId) (k:Nat):Prop:=
 ∀ {α:Type} [Inhabited α] (enc:α→List Value),(∀ x,(enc x).length=k)→(∀ x,∀ v∈enc x,v.oneCell'=true)→∀ (cf:α→α→Int),SWO (ltOf cf)→∀ (g:Nat) (cb:Array Value) (blk off cap:Nat) (d:Array α) (w:World),
  (∀ args w,(callFunc g args).run P w=.ok (.enter g args) w)→CmpLays P g cb enc k cf blk off d.size w→HoldsK enc k w blk off d→blk < w.heap.size→d.size < 4611686018427387904 →
  Calls P F #[.slice (some ⟨blk,off,none⟩) d.size cap,.func (.func g) #[] cb] w fun e w'=>e=.returned (.tuple #[])∧∃ n os,w'=sortWorldK enc k w blk off n (pdq (ltOf cf) d 0 d.size (Lib.bitLen d.size) true true) os
def SortNone (P:Program) (F:FuncId):Prop:=
 ∀ (g:Nat) (cb:Array Value) (w:World),Calls P F #[.slice none 0 0,.func (.func g) #[] cb] w fun e w'=>e=.returned (.tuple #[])∧∃ n os,w'=grow (w.drewN n) os

theorem H72 {w w':World} (h1:w'.os=w.os) (h2:w'.tape=w.tape) (h3:w'.output=w.output∧w.drawn≤w'.drawn) (h4:w.heap.size≤w'.heap.size) (h5:∀ b,b < w.heap.size→w'.heap[b]? = w.heap[b]?):∃ q os,w'=grow (w.drewN q) os:=by
 refine⟨w'.drawn - w.drawn,w'.heap.extract w.heap.size w'.heap.size,?_⟩
 obtain⟨hp,tp,dr,os_,out⟩:=w'
 simp only at h1 h2 h3 h4 h5
 subst h1 h2
 obtain⟨rfl,h3⟩:=h3
 unfold grow World.drewN
 simp only [World.mk.injEq,true_and,and_true]
 refine⟨?_,by omega⟩
 apply Array.ext_getElem?
 intro k
 rw [Array.getElem?_append]
 split
 ·rename_i hk; exact h5 k hk
 ·rename_i hk
  rw [Array.getElem?_extract]
  have e:w.heap.size+(k - w.heap.size)=k:=by omega
  split
  ·rw [e]
  ·rename_i h0
   exact Array.getElem?_eq_none (by omega)

theorem H29 {P:Program} {f:FuncId} {args:List AV} {u:AV} (hc:Pure P f args (·=u)) {w:World} {vs:Array Value} (hl:vs.size=args.length) (hv:∀ (j:Nat) a v,args[j]? = some a→vs[j]? = some v→D w (fun b _=>b < w.heap.size) a v) :
  Calls P f vs w fun e w'=>∃ v,e=.returned v∧D w' (fun b _=>b < w'.heap.size) u v∧∃ q os,w'=grow (w.drewN q) os:=by
 have h1:∀ b i:Nat,b < w.heap.size→Jc w ⟨fun _=>none,fun _ _=>False⟩ [] b i:=fun b i hs=>⟨hs,fun h=>h,fun id o h=>by simp [lk] at h⟩
 refine(hc w ⟨fun _=>none,fun _ _=>False⟩ vs ⟨fun b i h=>h.elim,fun id b h=>by simp [lk] at h,fun id b j h=>by simp [lk] at h,fun id id' b h=>by simp [lk] at h,fun id o h=>by simp [lk] at h⟩ hl
  (fun j u v hu h2=>.data ((hv j u v hu h2).mono fun b i hs=>⟨h1 b i hs,rfl⟩))).mono fun e w' h=>?_
 obtain⟨v,r,β',L',he,h4,h0,h3,rfl,rfl⟩:=h
 exact⟨v,he,h3.data_of_nil.mono fun b i hs=>⟨hs.lt,rfl⟩,H72 h0.os h0.tape h0.output h0.size (fun b hb=>(h0.far b hb (fun id h=>by simp [lk] at h)).1)⟩

def Flat {α:Type} (f:α→AV) (enc:α→List Value):Prop:=∀ x,f x=.agg ((enc x).map .sc)

theorem D.inv_sc {w:World} {S:Nat→Nat→Prop} {v x:Value} (h:D w S (.sc v) x):x=v:=by cases h; rfl
theorem J5b {w:World} {S:Nat→Nat→Prop} {vs:List Value}:D w S (.agg (vs.map .sc)) (.agg vs.toArray):=
 .agg (by simp) fun j u v hu hv=>by
  simp only [P2] at hu
  simp only [List.getElem?_toArray] at hv
  rw [hv] at hu; cases hu; exact .sc

theorem YI {α:Type} [Inhabited α] {f:α→AV} {enc:α→List Value} {k:Nat} (hf:Flat f enc) (hk:∀ x,(enc x).length=k) (xs:List α):flat (xs.map f)=(flatK enc k xs.toArray).toList.map .sc:=by
 apply List.ext_getElem?
 intro j
 have h0:∀ x∈xs.map f,x.cells.length=k:=fun x hx=>by
  obtain⟨y,_,rfl⟩:=Pb.1 hx
  rw [hf y]; simp [AV.cells,hk]
 have h4:(flatK enc k xs.toArray).size=xs.length*k:=by rw [size_flatK]; simp
 rcases Nm j (xs.length*k) with hj | hj
 ·have k0:0 < k:=by
   rcases Nat.eq_zero_or_pos k with h | h
   ·subst h; simp at hj
   ·exact h
  have h5:j=j / k*k+j % k:=by rw [Nat.mul_comm]; exact(Nat.div_add_mod j k).symm
  have hq:j / k < xs.length:=Nat.div_lt_of_lt_mul (by rw [Nat.mul_comm]; exact hj)
  have h1:(xs.map f)[j / k]? = some (f xs[j / k]):=by simp [hq]
  have hl:(flat (xs.map f))[j]? = (f xs[j / k]).cells[j % k]? := by
   have:=gI h0 h1 (Nat.mod_lt j k0)
   rwa [← h5] at this
  have hg:=get_flatK enc k xs.toArray j (by rw [List.size_toArray]; exact hj)
  have h2:j % k < (enc xs[j / k]).length:=by rw [hk]; exact Nat.mod_lt _ k0
  rw [hl,hf,P2]
  simp only [AV.cells,P2,Nu h2,Option.map_some,Array.getElem?_toList]
  have h3:j < (flatK enc k xs.toArray).size:=by omega
  rw [Array.getElem?_eq_getElem h3,Option.map_some]
  rw [getElem!_pos _ j h3] at hg
  rw [hg]
  have:xs.toArray[j / k]! = xs[j / k]:=by rw [getElem!_pos _ (j / k) (by simpa using hq)]; simp
  rw [this,getElem!_pos _ (j % k) h2]
 ·rw [List.getElem?_eq_none (by rw [J3 h0]; simpa using hj),List.getElem?_eq_none (by simp [h4]; exact hj)]

set_option maxHeartbeats 1000000 in
theorem H1f {P:Program} {F:FuncId} {k:Nat} (hs:G64 P F k) (h0:SortNone P F) {α:Type} [Inhabited α] {f:α→AV} (enc:α→List Value) (hf:Flat f enc) (hk:∀ x,(enc x).length=k) (h1:∀ x,∀ v∈enc x,v.oneCell'=true)
  (cf:α→α→Int) (hO:SWO (ltOf cf)) (g:FuncId) (hB:H8 P g=true) (caps:List AV) (c1:Yn (fun _=>false) caps=true) (h8:∀ x y,Pure P g ([f x,f y]++caps) (·=I64 (cf x y)))
  (i ver E:Nat) (xs:List α) (b7:xs.length < 4611686018427387904) :
  R5 P F [.vec i ver k xs.length,.fn g caps] [(i,.vec E k ver (xs.map f))] (fun r L'=>r=.tup []∧L'=[(i,.vec E k ver ((bA cf xs).map f))]):=by
 intro w β vs h9 hl hv
 have hi:lk [(i,Jn.vec E k ver (xs.map f))] i=some (.vec E k ver (xs.map f)):=by simp [lk]
 have c2:vs.size=2:=hl
 obtain⟨v0,v1,rfl⟩:∃ v0 v1,vs=#[v0,v1]:=by
  refine⟨vs[0],vs[1],?_⟩
  apply Array.ext
  ·simp [c2]
  ·intro j d4 c3
   have:j=0∨j=1:=by omega
   rcases this with rfl | rfl <;> rfl
 have c4:=hv 0 _ v0 rfl rfl
 have c5:=hv 1 _ v1 rfl rfl
 obtain⟨cb,rfl,a9,c6⟩:=c5.inv_fn
 have b8:∀ (j:Nat) u v,caps[j]? = some u→cb[j]? = some v→D w (Jc w β [(i,Jn.vec E k ver (xs.map f))]) u v:=fun j u v hu h2=>(c6 j u v hu h2).toD (aA c1 u (Nw hu))
 obtain⟨-,d5,c7⟩:=eW h9 hi c4
 have h7:(bA cf xs).length=xs.length:=(HV cf hO xs).2.1
 have a0:∀ y∈(bA cf xs).map f,y.cells.length=k:=fun y hy=>by
  obtain⟨z,_,rfl⟩:=Pb.1 hy
  rw [hf z]; simp [AV.cells,hk]
 have h6:∀ L:Loc,L=[(i,Jn.vec E k ver ((bA cf xs).map f))]→jA ((i,Jn.vec E k ver ((bA cf xs).map f))::[(i,Jn.vec E k ver (xs.map f))]) L:=fun L hL id=>by
  subst hL
  rw [Gf,Gf,Gf]
  by_cases e:i=id
  ·rw [if_pos e,if_pos e]
  ·rw [if_neg e,if_neg e,if_neg e]
 rcases c7 with ⟨rfl,c8,b0⟩ | ⟨b,cap,cur,rfl,hb,q1,q2,q3,q4,q5⟩
 ·-- no element
  refine(h0 g cb w).mono fun e w' h=>?_
  obtain⟨rfl,n,os,rfl⟩:=h
  have hx:xs=[]:=by simpa using c8
  subst hx
  have b1:bA cf ([]:List α)=[]:=Ni (by simpa using h7)
  obtain⟨st,sat⟩:=Ys (w':=grow (w.drewN n) os) (t:=E) (k:=k) (ver1:=ver) (xs':=(bA cf ([]:List α)).map f) (ob':=none) h9 (.inr ⟨ver,_,hi,Ny,fun _=>⟨by simp [b1],b0.symm,fun b hb=>by rw [b0] at hb; cases hb⟩⟩)
   rfl rfl ⟨rfl,by simp [grow,World.drewN]⟩ (by simp [grow,World.drewN]) (fun b hb _=>by simp [grow,World.drewN,Array.getElem?_append_left hb]) (.inl rfl)
  have s2:=sat ⟨a0,.inl ⟨rfl,by simp [b1]⟩⟩
  exact⟨_,_,_,_,rfl,s2.locEq (h6 _ rfl),st.locEq (h6 _ rfl),.tup rfl (fun j u v hu=>by simp at hu),rfl,rfl⟩
 ·have a3:b < w.heap.size:=(Ng q3).1
  have b2:(flatK enc k xs.toArray).size=xs.length*k:=by rw [size_flatK]; simp
  have b3:(xs.map f).length=xs.length:=by simp
  rw [b3] at q1
  have hH:HoldsK enc k w b 0 xs.toArray:=by
   intro j hj
   have c3:j < xs.length*k:=by rw [← b2]; exact hj
   have b4:j < cur.size:=by rw [q4]; have:=Nat.mul_le_mul_right k q1; omega
   have hu:(flat (xs.map f))[j]? = some (.sc (flatK enc k xs.toArray)[j]!):=by
    rw [YI hf hk,P2,Array.getElem?_toList,Array.getElem?_eq_getElem hj,getElem!_pos _ j hj]; rfl
   have hd:=q5 j _ cur[j] hu (by simp [b4])
   have he:cur[j]=(flatK enc k xs.toArray)[j]! := hd.inv_sc
   constructor
   ·simp [World.cell?,q3,b4,he]
   ·simp [World.frozen?,q3]
  have eg:∀ args w,(callFunc g args).run P w=.ok (.enter g args) w:=fun args w=>H8.out hB args w
  have hC:CmpLays P g cb enc k cf b 0 xs.toArray.size w:=by
   intro m os dk d6 x y
   have h4:∀ b' j,Jc w β [(i,Jn.vec E k ver (xs.map f))] b' j→Yp (sortWorldK enc k w b 0 m dk os) b' j=Yp w b' j∧b' < (sortWorldK enc k w b 0 m dk os).heap.size:=by
    intro b' j hs
    have a4:b'≠b:=fun e=>by
     have:=hs.kept i _ hi (by rw [e]; exact hb)
     exact this
    constructor
    ·refine Jq (w:=w) ?_
     unfold sortWorldK
     simp only [grow]
     rw [Array.getElem?_append_left (by simp only [putRowK,putRow,mapBlock,Array.size_modify,Sort.ahead]; exact hs.lt)]
     simp only [putRowK,putRow,mapBlock,Sort.ahead,Array.getElem?_modify,if_neg (Ne.symm a4)]
    ·unfold sortWorldK
     simp only [size_grow,putRowK,putRow,mapBlock,Array.size_modify,Sort.ahead]
     have:=hs.lt; omega
   generalize sortWorldK enc k w b 0 m dk os=W at h4 ⊢
   have a5:(#[Value.agg (enc x).toArray,Value.agg (enc y).toArray]++cb).size=([f x,f y]++caps).length:=by rw [Array.size_append,P5,a9]; rfl
   have c9:=H29 (w:=W) (h8 x y) a5
   clear h8 hs a5 hH b2 q5 a9
   refine(c9 (fun j a v ha h2=>?_)).mono fun e w' h=>?_
   ·rcases Nm j 2 with hj | hj
    ·rw [P0 (by simpa using hj)] at ha
     rw [Array.getElem?_append_left (by simpa using hj)] at h2
     have:j=0∨j=1:=by omega
     rcases this with rfl | rfl
     ·simp at ha h2; subst ha h2; rw [hf x]; exact J5b
     ·simp at ha h2; subst ha h2; rw [hf y]; exact J5b
    ·rw [Nz (by simpa using hj)] at ha
     rw [Array.getElem?_append_right (by simpa using hj)] at h2
     exact(b8 (j - 2) a v (by simpa using ha) (by simpa using h2)).mono fun b' j' hs=>⟨(h4 b' j' hs).2,(h4 b' j' hs).1⟩
   ·obtain⟨v,rfl,hd,q,os',rfl⟩:=h
    have d0:=hd.inv_sc
    subst d0
    exact⟨rfl,q,os',rfl⟩
  have a1:=hs enc hk h1 cf hO g cb b 0 cap xs.toArray w eg hC hH a3 (by simpa using b7)
  rw [List.size_toArray] at a1
  rw [b3]
  refine a1.mono fun e w' h=>?_
  obtain⟨rfl,n,os,rfl⟩:=h
  -- what lies there now
  obtain⟨d',a6⟩:∃ d',d'=pdq (ltOf cf) xs.toArray 0 xs.length (Lib.bitLen xs.length) true true:=⟨_,rfl⟩
  have a7:d'.size=xs.toArray.size:=by
   have:=h7
   rw [bA,← a6] at this
   simpa using this
  have d1:bA cf xs=d'.toList:=by rw [bA,← a6]
  rw [← a6]
  have b5:=holdsK_sortWorldK enc k w b 0 n xs.toArray d' os a3 hH a7
  have h3:(sortWorldK enc k w b 0 n d' os).heap[b]? = some (.cells (putCells id 0 (flatK enc k d') cur) E (0,0)):=by
   unfold sortWorldK grow putRowK putRow mapBlock
   simp only [Sort.ahead]
   rw [Array.getElem?_append_left (by simpa using a3),Array.getElem?_modify,if_pos rfl,q3]
   rfl
  have b6:(putCells id 0 (flatK enc k d') cur).size=cur.size:=by simp [putCells]
  have a8:∀ j,j < xs.length*k→(sortWorldK enc k w b 0 n d' os).cell? ⟨b,j,none⟩=some (flatK enc k d')[j]! := by
   intro j hj
   have a2:j < (flatK enc k d').size:=by rw [size_flatK,a7]; simpa using hj
   have:=(b5 j a2).1
   rw [Nat.zero_add] at this
   exact this
  have f1:(sortWorldK enc k w b 0 n d' os).os=w.os:=rfl
  have f2:(sortWorldK enc k w b 0 n d' os).tape=w.tape:=rfl
  have f3:(sortWorldK enc k w b 0 n d' os).output=w.output∧w.drawn≤(sortWorldK enc k w b 0 n d' os).drawn:=⟨rfl,Nat.le_add_right _ _⟩
  have f4:w.heap.size≤(sortWorldK enc k w b 0 n d' os).heap.size:=by
   unfold sortWorldK
   rw [size_grow]
   simp only [putRowK,putRow,mapBlock,Array.size_modify,Sort.ahead]; omega
  have f5:∀ b',b' < w.heap.size→b≠b'→(sortWorldK enc k w b 0 n d' os).heap[b']? = w.heap[b']? := by
   intro b' h5 b9
   unfold sortWorldK grow putRowK putRow mapBlock
   simp only [Sort.ahead]
   rw [Array.getElem?_append_left (by simpa using h5),Array.getElem?_modify,if_neg b9]
  clear b5 hH hC h8
  generalize sortWorldK enc k w b 0 n d' os=W at h3 a8 f1 f2 f3 f4 f5
  obtain⟨st,sat⟩:=Ys (w':=W) (t:=E) (k:=k) (ver1:=ver) (xs':=(bA cf xs).map f) (ob':=β.at_ i) h9
   (.inr ⟨ver,_,hi,Ny,fun _=>⟨by rw [P9,P9,h7],rfl,fun b' h5=>by
    rw [hb] at h5; cases h5
    rw [World.shape?,h3,World.shape?,q3]; simp only [b6]⟩⟩) f1 f2 f3 f4
   (fun b' h5 a4=>f5 b' h5 (fun e=>a4 (by rw [inL,hi]; rfl) (by rw [hb,e])))
   (.inr (.inl ⟨by rw [inL,hi]; rfl,rfl⟩))
  have c0:∀ j,j < xs.length*k→(putCells id 0 (flatK enc k d') cur)[j]? = some (flatK enc k d')[j]! := by
   intro j hj
   have:=a8 j hj
   simp only [World.cell?,h3] at this
   simpa using this
  have s2:=sat ⟨a0,.inr ⟨b,hb,_,h3,by rw [b6,q4,P9,h7]; exact Nat.mul_le_mul_right _ q1,fun j u v hu h2=>by
   have hj:=(Nt hu).1
   rw [J3 a0,P9,h7] at hj
   rw [c0 j hj] at h2
   have d2:=Nv h2
   subst d2
   have a2:j < (flatK enc k d').size:=by rw [size_flatK,a7]; simpa using hj
   rw [YI hf hk,d1] at hu
   rw [P2,Array.getElem?_toList,Array.toArray_toList,Array.getElem?_eq_getElem a2,Option.map_some] at hu
   have d3:=Nv hu
   subst d3
   rw [getElem!_pos _ j a2]
   exact .sc⟩⟩
  exact⟨_,_,_,_,rfl,s2.locEq (h6 _ rfl),st.locEq (h6 _ rfl),.tup rfl (fun j u v hu=>by simp at hu),rfl,rfl⟩
set_option maxRecDepth 100000
open Go.RowKit Go.Shelf Go.Sort

open Classical in
noncomputable def RR {α:Type} [Inhabited α] (cmp:α→α→Option Int) (xs:List α):Option (List α):=
 if h:∃ cf:α→α→Int,(∀ x y,cmp x y=some (cf x y))∧SWO (ltOf cf)∧xs.length < 4611686018427387904 then some (bA h.choose xs) else none
theorem H7c {α:Type} [Inhabited α] {cmp:α→α→Option Int} {xs r:List α} (h:RR cmp xs=some r):∃ cf:α→α→Int,(∀ x y,cmp x y=some (cf x y))∧SWO (ltOf cf)∧xs.length < 4611686018427387904∧r=bA cf xs:=by
 unfold RR at h
 split at h
 ·next hh=>exact⟨hh.choose,hh.choose_spec.1,hh.choose_spec.2.1,hh.choose_spec.2.2,(Nv h).symm⟩
 ·cases h
theorem Hae {α:Type} [Inhabited α] {cmp:α→α→Option Int} (cf:α→α→Int) (hc:∀ x y,cmp x y=some (cf x y)) (hO:SWO (ltOf cf)) {xs:List α} (hl:xs.length < 4611686018427387904):RR cmp xs=some (bA cf xs):=by
 have hh:∃ cf:α→α→Int,(∀ x y,cmp x y=some (cf x y))∧SWO (ltOf cf)∧xs.length < 4611686018427387904:=⟨cf,hc,hO,hl⟩
 unfold RR
 rw [dif_pos hh]
 have:hh.choose=cf:=by
  funext x y
  have h1:=hh.choose_spec.1 x y
  rw [hc x y] at h1
  exact(Nv h1).symm
 rw [this]

theorem Hce {vs:List Value} (h:vs.all Value.oneCell'=true):∀ v∈vs,v.oneCell'=true:=List.all_eq_true.1 h

section ops
variable {P:Program} {o:Oper} {l:Fr} {L L'':Loc}
theorem H6e {F:FuncId} {x y:Operand} {ts:Array TypeId} {k i ver E n:Nat} {g:FuncId} {caps:List AV} {α:Type} [Inhabited α] {f:α→AV} {cmp:α→α→Option Int} {xs r:List α} (enc:α→List Value) (ho:o.op=.call { callee:=.value (.func F),args:=#[x,y],argTypes:=ts })
  (hs:G64 P F k) (h0:SortNone P F) (hf:Flat f enc) (hk:∀ x,(enc x).length=k) (h1:∀ x,∀ v∈enc x,v.oneCell'=true) (hB:H8 P F=true) (h5:H8 P g=true)
  (hx:ev l x=.vec i ver k n) (hy:ev l y=.fn g caps) (hi:lk L i=some (.vec E k ver (xs.map f))) (hn:n=xs.length) (h3:Yn (fun _=>false) caps=true) (h:RR cmp xs=some r)
  (h4:∀ x y q,cmp x y=some q→Pure P g ([f x,f y]++caps) (·=I64 q)) (hL:(i,.vec E k ver (r.map f))::qN L [(i,.vec E k ver (xs.map f))]=L''):Gv P o l L (Is (.tup []) L''):=by
 obtain⟨cf,hc,hO,hl,rfl⟩:=H7c h
 subst hn
 have h2:=H1f (P:=P) (F:=F) (k:=k) hs h0 enc hf hk h1 cf hO g h5 caps h3 (fun a b=>h4 a b _ (hc a b)) i ver E xs hl
 refine G74 (xs:=[x,y]) ho h2 hB ⟨.inl hx,?_,.inl hy,?_,trivial⟩ ⟨hi,trivial⟩ ?_ ?_ hL
 ·simp [AV.refs,inL,lk]
 ·exact Ye _ _ h3
 ·simp [closedIn,Jn.refs]
 ·simp [nO,inL,lk]
end ops
set_option linter.unusedVariables false
open Go.RowKit Go.Sort Go.Shelf

section ops
variable {P:Program} {o:Oper} {l:Fr} {L L'':Loc}
end ops
end Go.Proofs.YthkihfoleenlmaaGreat
