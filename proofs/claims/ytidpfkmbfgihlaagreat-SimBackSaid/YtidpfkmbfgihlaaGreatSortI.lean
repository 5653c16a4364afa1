/-
 Slices of the call's own,sorted in place by the library. slices.SortFunc in a model. Slices of whole numbers of the call's own,sorted in place by the library.
-/
import Derived.Test.YtidpfkmbfgihlaaGreatDraw2
import Derived.Shelf.SlSortCmp.WholeK
namespace Go.Proofs.YtidpfkmbfgihlaaGreat
open Go.RowKit Go.Sort

def G16 {α:Type} [Inhabited α] (cf:α→α→Int) (xs:List α):List α:=(pdq (ltOf cf) xs.toArray 0 xs.length (Lib.bitLen xs.length) true true).toList
theorem Q08 {α:Type} [Inhabited α] (cf:α→α→Int) (hO:SWO (ltOf cf)) (xs:List α):(G16 cf xs).Perm xs∧(G16 cf xs).length=xs.length∧∀ i j (hi:i < j) (hj:j < (G16 cf xs).length),ltOf cf (G16 cf xs)[j] (G16 cf xs)[i]=false:=by
 have h:=pdq_sorts (ltOf cf) hO xs.toArray 0 xs.length (Lib.bitLen xs.length) true true (Nat.zero_le _) (by simp) (Or.inl rfl)
 obtain⟨⟨h1,h2,h3⟩,h4⟩:=h
 have hl:(G16 cf xs).length=xs.length:=by simp [G16,h1]
 refine⟨?_,hl,fun i j hi hj=>?_⟩
 ·have e1:(pdq (ltOf cf) xs.toArray 0 xs.length (Lib.bitLen xs.length) true true).extract 0 xs.length=pdq (ltOf cf) xs.toArray 0 xs.length (Lib.bitLen xs.length) true true:=by
   have:xs.length=(pdq (ltOf cf) xs.toArray 0 xs.length (Lib.bitLen xs.length) true true).size:=by rw [h1]; simp
   rw [Array.extract_eq_self_of_le (by omega)]
  have e2:xs.toArray.extract 0 xs.length=xs.toArray:=by rw [Array.extract_eq_self_of_le (by simp)]
  rw [e1,e2] at h3
  exact h3
 ·have hj':j < xs.length:=by omega
  have:=h4 i j (Nat.zero_le _) hi hj'
  have g:∀ q (hq:q < (G16 cf xs).length),(pdq (ltOf cf) xs.toArray 0 xs.length (Lib.bitLen xs.length) true true)[q]! = (G16 cf xs)[q]:=fun q hq=>by
   have hq':q < (pdq (ltOf cf) xs.toArray 0 xs.length (Lib.bitLen xs.length) true true).size:=by rw [h1]; simpa using (hl ▸ hq)
   rw [getElem!_pos _ q hq']; simp [G16]
  rw [g j hj,g i (by omega)] at this
  exact this

def R35 (P:Program) (F:FuncId) (k:Nat):Prop:=
 ∀ {α:Type} [Inhabited α] (enc:α→List Value),(∀ x,(enc x).length=k)→(∀ x,∀ v∈enc x,v.oneCell'=true)→∀ (cf:α→α→Int),SWO (ltOf cf)→∀ (g:Nat) (cb:Array Value) (blk off cap:Nat) (d:Array α) (w:World),
  (∀ args w,(callFunc g args).run P w=.ok (.enter g args) w)→CmpLays P g cb enc k cf blk off d.size w→HoldsK enc k w blk off d→blk < w.heap.size→d.size < 4611686018427387904 →
  Calls P F #[.slice (some ⟨blk,off,none⟩) d.size cap,.func (.func g) #[] cb] w fun e w'=>e=.returned (.tuple #[])∧∃ n os,w'=sortWorldK enc k w blk off n (pdq (ltOf cf) d 0 d.size (Lib.bitLen d.size) true true) os
def SortNone (P:Program) (F:FuncId):Prop:=
 ∀ (g:Nat) (cb:Array Value) (w:World),Calls P F #[.slice none 0 0,.func (.func g) #[] cb] w fun e w'=>e=.returned (.tuple #[])∧∃ n os,w'=grow (w.drewN n) os

theorem Y3c {w w':World} (h1:w'.os=w.os) (h2:w'.tape=w.tape) (h3:w'.output=w.output∧w.drawn≤w'.drawn) (h4:w.heap.size≤w'.heap.size) (h5:∀ b,b < w.heap.size→w'.heap[b]? = w.heap[b]?):∃ q os,w'=grow (w.drewN q) os:=by
 refine⟨w'.drawn - w.drawn,w'.heap.extract w.heap.size w'.heap.size,?_⟩
 obtain⟨hp,tp,dr,os_,out⟩:=w'
 simp only at h1 h2 h3 h4 h5
 subst h1 h2
 obtain⟨rfl,h3⟩:=h3
 unfold grow World.drewN
 simp only [World.mk.injEq,true_and,and_true]
 refine⟨?_,by omega⟩
 apply Array.ext_getElem?
 intro k
 rw [Array.getElem?_append]
 split
 ·rename_i hk; exact h5 k hk
 ·rename_i hk
  rw [Array.getElem?_extract]
  have e:w.heap.size+(k - w.heap.size)=k:=by omega
  split
  ·rw [e]
  ·rename_i hk2
   exact Array.getElem?_eq_none (by omega)

theorem Reb {P:Program} {f:FuncId} {args:List AV} {u:AV} (hc:Pure P f args (·=u)) {w:World} {vs:Array Value} (hl:vs.size=args.length) (hv:∀ (j:Nat) a v,args[j]? = some a→vs[j]? = some v→D w (fun b _=>b < w.heap.size) a v) :
  Calls P f vs w fun e w'=>∃ v,e=.returned v∧D w' (fun b _=>b < w'.heap.size) u v∧∃ q os,w'=grow (w.drewN q) os:=by
 have hmono:∀ b i:Nat,b < w.heap.size→Jt w ⟨fun _=>none,fun _ _=>False⟩ [] b i:=fun b i hs=>⟨hs,fun h=>h,fun id o h=>by simp [lk] at h⟩
 refine(hc w ⟨fun _=>none,fun _ _=>False⟩ vs ⟨fun b i h=>h.elim,fun id b h=>by simp [lk] at h,fun id b j h=>by simp [lk] at h,fun id id' b h=>by simp [lk] at h,fun id o h=>by simp [lk] at h⟩ hl
  (fun j u v hu hv'=>.data ((hv j u v hu hv').mono fun b i hs=>⟨hmono b i hs,rfl⟩))).mono fun e w' h=>?_
 obtain⟨v,r,β',L',he,hsat',hst,hvr,rfl,rfl⟩:=h
 exact⟨v,he,hvr.data_of_nil.mono fun b i hs=>⟨hs.lt,rfl⟩,Y3c hst.os hst.tape hst.output hst.size (fun b hb=>(hst.far b hb (fun id h=>by simp [lk] at h)).1)⟩

def Flat {α:Type} (f:α→AV) (enc:α→List Value):Prop:=∀ x,f x=.agg ((enc x).map .sc)

theorem D.inv_sc {w:World} {S:Nat→Nat→Prop} {v x:Value} (h:D w S (.sc v) x):x=v:=by cases h; rfl
theorem Yfc {w:World} {S:Nat→Nat→Prop} {vs:List Value}:D w S (.agg (vs.map .sc)) (.agg vs.toArray):=
 .agg (by simp) fun j u v hu hv=>by
  simp only [List.getElem?_map] at hu
  simp only [List.getElem?_toArray] at hv
  rw [hv] at hu; cases hu; exact .sc

theorem Q8e {α:Type} [Inhabited α] {f:α→AV} {enc:α→List Value} {k:Nat} (hf:Flat f enc) (hk:∀ x,(enc x).length=k) (xs:List α):flat (xs.map f)=(flatK enc k xs.toArray).toList.map .sc:=by
 apply List.ext_getElem?
 intro j
 have hkl:∀ x∈xs.map f,x.cells.length=k:=fun x hx=>by
  obtain⟨y,_,rfl⟩:=List.mem_map.1 hx
  rw [hf y]; simp [AV.cells,hk]
 have hsz:(flatK enc k xs.toArray).size=xs.length*k:=by rw [size_flatK]; simp
 rcases Nat.lt_or_ge j (xs.length*k) with hj | hj
 ·have k0:0 < k:=by
   rcases Nat.eq_zero_or_pos k with h | h
   ·subst h; simp at hj
   ·exact h
  have hdm:j=j / k*k+j % k:=by rw [Nat.mul_comm]; exact(Nat.div_add_mod j k).symm
  have hq:j / k < xs.length:=Nat.div_lt_of_lt_mul (by rw [Nat.mul_comm]; exact hj)
  have h1:(xs.map f)[j / k]? = some (f xs[j / k]):=by simp [hq]
  have hl:(flat (xs.map f))[j]? = (f xs[j / k]).cells[j % k]? := by
   have:=Gbf hkl h1 (Nat.mod_lt j k0)
   rwa [← hdm] at this
  have hg:=get_flatK enc k xs.toArray j (by rw [List.size_toArray]; exact hj)
  have hjm:j % k < (enc xs[j / k]).length:=by rw [hk]; exact Nat.mod_lt _ k0
  rw [hl,hf,List.getElem?_map]
  simp only [AV.cells,List.getElem?_map,List.getElem?_eq_getElem hjm,Option.map_some,Array.getElem?_toList]
  have hjs:j < (flatK enc k xs.toArray).size:=by omega
  rw [Array.getElem?_eq_getElem hjs,Option.map_some]
  rw [getElem!_pos _ j hjs] at hg
  rw [hg]
  have:xs.toArray[j / k]! = xs[j / k]:=by rw [getElem!_pos _ (j / k) (by simpa using hq)]; simp
  rw [this,getElem!_pos _ (j % k) hjm]
 ·rw [List.getElem?_eq_none (by rw [J1 hkl]; simpa using hj),List.getElem?_eq_none (by simp [hsz]; exact hj)]

set_option maxHeartbeats 1000000 in
theorem Rdf {P:Program} {F:FuncId} {k:Nat} (hs:R35 P F k) (h0:SortNone P F) {α:Type} [Inhabited α] {f:α→AV} (enc:α→List Value) (hf:Flat f enc) (hk:∀ x,(enc x).length=k) (h1:∀ x,∀ v∈enc x,v.oneCell'=true)
  (cf:α→α→Int) (hO:SWO (ltOf cf)) (g:FuncId) (hB:H7 P g=true) (caps:List AV) (hcd:Qy (fun _=>false) caps=true) (hcmp:∀ x y,Pure P g ([f x,f y]++caps) (·=I64 (cf x y)))
  (i ver E:Nat) (xs:List α) (hlen:xs.length < 4611686018427387904) :
  Jg P F [.vec i ver k xs.length,.fn g caps] [(i,.vec E k ver (xs.map f))] (fun r L'=>r=.tup []∧L'=[(i,.vec E k ver ((G16 cf xs).map f))]):=by
 intro w β vs hsat hl hv
 have hi:lk [(i,Jh.vec E k ver (xs.map f))] i=some (.vec E k ver (xs.map f)):=by simp [lk]
 have hsz:vs.size=2:=hl
 obtain⟨v0,v1,rfl⟩:∃ v0 v1,vs=#[v0,v1]:=by
  refine⟨vs[0],vs[1],?_⟩
  apply Array.ext
  ·simp [hsz]
  ·intro j hj1 hj2
   have:j=0∨j=1:=by omega
   rcases this with rfl | rfl <;> rfl
 have hv0:=hv 0 _ v0 rfl rfl
 have hv1:=hv 1 _ v1 rfl rfl
 obtain⟨cb,rfl,hcl,hcv⟩:=hv1.inv_fn
 have hcd':∀ (j:Nat) u v,caps[j]? = some u→cb[j]? = some v→D w (Jt w β [(i,Jh.vec E k ver (xs.map f))]) u v:=fun j u v hu hv'=>(hcv j u v hu hv').toD (G07 hcd u (List.mem_of_getElem? hu))
 obtain⟨-,hxk,hst⟩:=G5b hsat hi hv0
 have hlz:(G16 cf xs).length=xs.length:=(Q08 cf hO xs).2.1
 have hxk':∀ y∈(G16 cf xs).map f,y.cells.length=k:=fun y hy=>by
  obtain⟨z,_,rfl⟩:=List.mem_map.1 hy
  rw [hf z]; simp [AV.cells,hk]
 have hnil:∀ L:Loc,L=[(i,Jh.vec E k ver ((G16 cf xs).map f))]→H9d ((i,Jh.vec E k ver ((G16 cf xs).map f))::[(i,Jh.vec E k ver (xs.map f))]) L:=fun L hL id=>by
  subst hL
  rw [Gh,Gh,Gh]
  by_cases e:i=id
  ·rw [if_pos e,if_pos e]
  ·rw [if_neg e,if_neg e,if_neg e]
 rcases hst with ⟨rfl,hx0,hb0⟩ | ⟨b,cap,cur,rfl,hb,q1,q2,q3,q4,q5⟩
 ·-- no element
  refine(h0 g cb w).mono fun e w' h=>?_
  obtain⟨rfl,n,os,rfl⟩:=h
  have hx:xs=[]:=by simpa using hx0
  subst hx
  have hsb:G16 cf ([]:List α)=[]:=List.eq_nil_of_length_eq_zero (by simpa using hlz)
  obtain⟨st,sat⟩:=Ru (w':=grow (w.drewN n) os) (t:=E) (k:=k) (ver1:=ver) (xs':=(G16 cf ([]:List α)).map f) (ob':=none) hsat (.inr ⟨ver,_,hi,Nat.le_refl _,fun _=>⟨by simp [hsb],hb0.symm,fun b hb=>by rw [hb0] at hb; cases hb⟩⟩)
   rfl rfl ⟨rfl,by simp [grow,World.drewN]⟩ (by simp [grow,World.drewN]) (fun b hb _=>by simp [grow,World.drewN,Array.getElem?_append_left hb]) (.inl rfl)
  have s2:=sat ⟨hxk',.inl ⟨rfl,by simp [hsb]⟩⟩
  exact⟨_,_,_,_,rfl,s2.locEq (hnil _ rfl),st.locEq (hnil _ rfl),.tup rfl (fun j u v hu=>by simp at hu),rfl,rfl⟩
 ·have hbs:b < w.heap.size:=(Array.getElem?_eq_some_iff.1 q3).1
  have hfl:(flatK enc k xs.toArray).size=xs.length*k:=by rw [size_flatK]; simp
  have hxl:(xs.map f).length=xs.length:=by simp
  rw [hxl] at q1
  have hH:HoldsK enc k w b 0 xs.toArray:=by
   intro j hj
   have hj2:j < xs.length*k:=by rw [← hfl]; exact hj
   have hjc:j < cur.size:=by rw [q4]; have:=Nat.mul_le_mul_right k q1; omega
   have hu:(flat (xs.map f))[j]? = some (.sc (flatK enc k xs.toArray)[j]!):=by
    rw [Q8e hf hk,List.getElem?_map,Array.getElem?_toList,Array.getElem?_eq_getElem hj,getElem!_pos _ j hj]; rfl
   have hd:=q5 j _ cur[j] hu (by simp [hjc])
   have he:cur[j]=(flatK enc k xs.toArray)[j]! := hd.inv_sc
   constructor
   ·simp [World.cell?,q3,hjc,he]
   ·simp [World.frozen?,q3]
  have eg:∀ args w,(callFunc g args).run P w=.ok (.enter g args) w:=fun args w=>H7.out hB args w
  have hC:CmpLays P g cb enc k cf b 0 xs.toArray.size w:=by
   intro m os dk hdk x y
   have hother:∀ b' j,Jt w β [(i,Jh.vec E k ver (xs.map f))] b' j→G35 (sortWorldK enc k w b 0 m dk os) b' j=G35 w b' j∧b' < (sortWorldK enc k w b 0 m dk os).heap.size:=by
    intro b' j hs
    have hne:b'≠b:=fun e=>by
     have:=hs.kept i _ hi (by rw [e]; exact hb)
     exact this
    constructor
    ·refine Q2 (w:=w) ?_
     unfold sortWorldK
     simp only [grow]
     rw [Array.getElem?_append_left (by simp only [putRowK,putRow,mapBlock,Array.size_modify,Sort.ahead]; exact hs.lt)]
     simp only [putRowK,putRow,mapBlock,Sort.ahead,Array.getElem?_modify,if_neg (Ne.symm hne)]
    ·unfold sortWorldK
     simp only [size_grow,putRowK,putRow,mapBlock,Array.size_modify,Sort.ahead]
     have:=hs.lt; omega
   generalize sortWorldK enc k w b 0 m dk os=W at hother ⊢
   have hsz2:(#[Value.agg (enc x).toArray,Value.agg (enc y).toArray]++cb).size=([f x,f y]++caps).length:=by rw [Array.size_append,List.length_append,hcl]; rfl
   have hpg:=Reb (w:=W) (hcmp x y) hsz2
   clear hcmp hs hsz2 hH hfl q5 hcl
   refine(hpg (fun j a v ha hv'=>?_)).mono fun e w' h=>?_
   ·rcases Nat.lt_or_ge j 2 with hj | hj
    ·rw [List.getElem?_append_left (by simpa using hj)] at ha
     rw [Array.getElem?_append_left (by simpa using hj)] at hv'
     have:j=0∨j=1:=by omega
     rcases this with rfl | rfl
     ·simp at ha hv'; subst ha hv'; rw [hf x]; exact Yfc
     ·simp at ha hv'; subst ha hv'; rw [hf y]; exact Yfc
    ·rw [List.getElem?_append_right (by simpa using hj)] at ha
     rw [Array.getElem?_append_right (by simpa using hj)] at hv'
     exact(hcd' (j - 2) a v (by simpa using ha) (by simpa using hv')).mono fun b' j' hs=>⟨(hother b' j' hs).2,(hother b' j' hs).1⟩
   ·obtain⟨v,rfl,hd,q,os',rfl⟩:=h
    have hvv:=hd.inv_sc
    subst hvv
    exact⟨rfl,q,os',rfl⟩
  have hcall:=hs enc hk h1 cf hO g cb b 0 cap xs.toArray w eg hC hH hbs (by simpa using hlen)
  rw [List.size_toArray] at hcall
  rw [hxl]
  refine hcall.mono fun e w' h=>?_
  obtain⟨rfl,n,os,rfl⟩:=h
  -- what lies there now
  obtain⟨d',hd'⟩:∃ d',d'=pdq (ltOf cf) xs.toArray 0 xs.length (Lib.bitLen xs.length) true true:=⟨_,rfl⟩
  have hds:d'.size=xs.toArray.size:=by
   have:=hlz
   rw [G16,← hd'] at this
   simpa using this
  have hsd:G16 cf xs=d'.toList:=by rw [G16,← hd']
  rw [← hd']
  have hH':=holdsK_sortWorldK enc k w b 0 n xs.toArray d' os hbs hH hds
  have hheap:(sortWorldK enc k w b 0 n d' os).heap[b]? = some (.cells (putCells id 0 (flatK enc k d') cur) E (0,0)):=by
   unfold sortWorldK grow putRowK putRow mapBlock
   simp only [Sort.ahead]
   rw [Array.getElem?_append_left (by simpa using hbs),Array.getElem?_modify,if_pos rfl,q3]
   rfl
  have hcs:(putCells id 0 (flatK enc k d') cur).size=cur.size:=by simp [putCells]
  have hcv0:∀ j,j < xs.length*k→(sortWorldK enc k w b 0 n d' os).cell? ⟨b,j,none⟩=some (flatK enc k d')[j]! := by
   intro j hj
   have hj':j < (flatK enc k d').size:=by rw [size_flatK,hds]; simpa using hj
   have:=(hH' j hj').1
   rw [Nat.zero_add] at this
   exact this
  have f1:(sortWorldK enc k w b 0 n d' os).os=w.os:=rfl
  have f2:(sortWorldK enc k w b 0 n d' os).tape=w.tape:=rfl
  have f3:(sortWorldK enc k w b 0 n d' os).output=w.output∧w.drawn≤(sortWorldK enc k w b 0 n d' os).drawn:=⟨rfl,Nat.le_add_right _ _⟩
  have f4:w.heap.size≤(sortWorldK enc k w b 0 n d' os).heap.size:=by
   unfold sortWorldK
   rw [size_grow]
   simp only [putRowK,putRow,mapBlock,Array.size_modify,Sort.ahead]; omega
  have f5:∀ b',b' < w.heap.size→b≠b'→(sortWorldK enc k w b 0 n d' os).heap[b']? = w.heap[b']? := by
   intro b' hb' hne'
   unfold sortWorldK grow putRowK putRow mapBlock
   simp only [Sort.ahead]
   rw [Array.getElem?_append_left (by simpa using hb'),Array.getElem?_modify,if_neg hne']
  clear hH' hH hC hcmp
  generalize sortWorldK enc k w b 0 n d' os=W at hheap hcv0 f1 f2 f3 f4 f5
  obtain⟨st,sat⟩:=Ru (w':=W) (t:=E) (k:=k) (ver1:=ver) (xs':=(G16 cf xs).map f) (ob':=β.at_ i) hsat
   (.inr ⟨ver,_,hi,Nat.le_refl _,fun _=>⟨by rw [List.length_map,List.length_map,hlz],rfl,fun b' hb'=>by
    rw [hb] at hb'; cases hb'
    rw [World.shape?,hheap,World.shape?,q3]; simp only [hcs]⟩⟩) f1 f2 f3 f4
   (fun b' hb' hne=>f5 b' hb' (fun e=>hne (by rw [inL,hi]; rfl) (by rw [hb,e])))
   (.inr (.inl ⟨by rw [inL,hi]; rfl,rfl⟩))
  have hcv':∀ j,j < xs.length*k→(putCells id 0 (flatK enc k d') cur)[j]? = some (flatK enc k d')[j]! := by
   intro j hj
   have:=hcv0 j hj
   simp only [World.cell?,hheap] at this
   simpa using this
  have s2:=sat ⟨hxk',.inr ⟨b,hb,_,hheap,by rw [hcs,q4,List.length_map,hlz]; exact Nat.mul_le_mul_right _ q1,fun j u v hu hv'=>by
   have hj:=(List.getElem?_eq_some_iff.1 hu).1
   rw [J1 hxk',List.length_map,hlz] at hj
   rw [hcv' j hj] at hv'
   have hv2:=Option.some.inj hv'
   subst hv2
   have hj':j < (flatK enc k d').size:=by rw [size_flatK,hds]; simpa using hj
   rw [Q8e hf hk,hsd] at hu
   rw [List.getElem?_map,Array.getElem?_toList,Array.toArray_toList,Array.getElem?_eq_getElem hj',Option.map_some] at hu
   have hu2:=Option.some.inj hu
   subst hu2
   rw [getElem!_pos _ j hj']
   exact .sc⟩⟩
  exact⟨_,_,_,_,rfl,s2.locEq (hnil _ rfl),st.locEq (hnil _ rfl),.tup rfl (fun j u v hu=>by simp at hu),rfl,rfl⟩
end Go.Proofs.YtidpfkmbfgihlaaGreat
set_option maxRecDepth 100000
namespace Go.Proofs.YtidpfkmbfgihlaaGreat
open Go.RowKit Go.Shelf Go.Sort

open Classical in
noncomputable def Q07 {α:Type} [Inhabited α] (cmp:α→α→Option Int) (xs:List α):Option (List α):=
 if h:∃ cf:α→α→Int,(∀ x y,cmp x y=some (cf x y))∧SWO (ltOf cf)∧xs.length < 4611686018427387904 then some (G16 h.choose xs) else none
theorem Y44 {α:Type} [Inhabited α] {cmp:α→α→Option Int} {xs r:List α} (h:Q07 cmp xs=some r):∃ cf:α→α→Int,(∀ x y,cmp x y=some (cf x y))∧SWO (ltOf cf)∧xs.length < 4611686018427387904∧r=G16 cf xs:=by
 unfold Q07 at h
 split at h
 ·next hh=>exact⟨hh.choose,hh.choose_spec.1,hh.choose_spec.2.1,hh.choose_spec.2.2,(Option.some.inj h).symm⟩
 ·cases h
theorem Y7a {α:Type} [Inhabited α] {cmp:α→α→Option Int} (cf:α→α→Int) (hc:∀ x y,cmp x y=some (cf x y)) (hO:SWO (ltOf cf)) {xs:List α} (hl:xs.length < 4611686018427387904):Q07 cmp xs=some (G16 cf xs):=by
 have hh:∃ cf:α→α→Int,(∀ x y,cmp x y=some (cf x y))∧SWO (ltOf cf)∧xs.length < 4611686018427387904:=⟨cf,hc,hO,hl⟩
 unfold Q07
 rw [dif_pos hh]
 have:hh.choose=cf:=by
  funext x y
  have h1:=hh.choose_spec.1 x y
  rw [hc x y] at h1
  exact(Option.some.inj h1).symm
 rw [this]

theorem Y97 {vs:List Value} (h:vs.all Value.oneCell'=true):∀ v∈vs,v.oneCell'=true:=List.all_eq_true.1 h

section ops
variable {P:Program} {o:Oper} {l:Fr} {L L'':Loc}
theorem Y38 {F:FuncId} {x y:Operand} {ts:Array TypeId} {k i ver E n:Nat} {g:FuncId} {caps:List AV} {α:Type} [Inhabited α] {f:α→AV} {cmp:α→α→Option Int} {xs r:List α} (enc:α→List Value) (ho:o.op=.call { callee:=.value (.func F),args:=#[x,y],argTypes:=ts })
  (hs:R35 P F k) (h0:SortNone P F) (hf:Flat f enc) (hk:∀ x,(enc x).length=k) (h1:∀ x,∀ v∈enc x,v.oneCell'=true) (hB:H7 P F=true) (hgB:H7 P g=true)
  (hx:ev l x=.vec i ver k n) (hy:ev l y=.fn g caps) (hi:lk L i=some (.vec E k ver (xs.map f))) (hn:n=xs.length) (hcd:Qy (fun _=>false) caps=true) (h:Q07 cmp xs=some r)
  (hcmp:∀ x y q,cmp x y=some q→Pure P g ([f x,f y]++caps) (·=I64 q)) (hL:(i,.vec E k ver (r.map f))::Hb2 L [(i,.vec E k ver (xs.map f))]=L''):H0 P o l L (Is (.tup []) L''):=by
 obtain⟨cf,hc,hO,hl,rfl⟩:=Y44 h
 subst hn
 have hcall:=Rdf (P:=P) (F:=F) (k:=k) hs h0 enc hf hk h1 cf hO g hgB caps hcd (fun a b=>hcmp a b _ (hc a b)) i ver E xs hl
 refine Rs (xs:=[x,y]) ho hcall hB ⟨.inl hx,?_,.inl hy,?_,trivial⟩ ⟨hi,trivial⟩ ?_ ?_ hL
 ·simp [AV.refs,inL,lk]
 ·exact Jq _ _ hcd
 ·simp [closedIn,Jh.refs]
 ·simp [H45,inL,lk]
end ops
end Go.Proofs.YtidpfkmbfgihlaaGreat
set_option linter.unusedVariables false
set_option maxRecDepth 100000
namespace Go.Proofs.YtidpfkmbfgihlaaGreat
open Go.RowKit Go.Sort Go.Shelf

def Rf3 (x:Int):List Int→List Int
 | []=>[x]
 | y::r=>bif decide (x≤y) then x::y::r else y::Rf3 x r
def Gfd:List Int→List Int
 | []=>[]
 | x::r=>Rf3 x (Gfd r)
theorem Jd8 (x:Int):∀ l,(Rf3 x l).Perm (x::l)
 | []=>List.Perm.refl _
 | y::r=>by
  rw [Rf3]
  cases decide (x≤y) with
  | true=>exact List.Perm.refl _
  | false=>exact(List.Perm.cons y (Jd8 x r)).trans (List.Perm.swap x y r)
theorem H09:∀ l,(Gfd l).Perm l
 | []=>List.Perm.refl _
 | x::r=>(Jd8 x _).trans ((H09 r).cons x)
theorem Q15 {x:Int}:∀ {l:List Int},l.Pairwise (·≤·)→(Rf3 x l).Pairwise (·≤·)
 | [],_=>by simp [Rf3]
 | y::r,h=>by
  rw [Rf3]
  rw [List.pairwise_cons] at h
  cases hb:decide (x≤y) with
  | true=>
   have hxy:=of_decide_eq_true hb
   rw [cond_true,List.pairwise_cons]
   refine⟨fun z hz=>?_,List.pairwise_cons.2 h⟩
   rcases List.mem_cons.1 hz with rfl | hz
   ·exact hxy
   ·have:=h.1 z hz; omega
  | false=>
   have hxy:=of_decide_eq_false hb
   rw [cond_false,List.pairwise_cons]
   refine⟨fun z hz=>?_,Q15 h.2⟩
   rcases List.mem_cons.1 ((Jd8 x r).mem_iff.1 hz) with rfl | hz
   ·omega
   ·exact h.1 z hz
theorem Gee:∀ l,(Gfd l).Pairwise (·≤·)
 | []=>List.Pairwise.nil
 | x::r=>Q15 (Gee r)
theorem R6a (xs:List Int):(xs.mergeSort fun x y=>decide (x≤y))=Gfd xs:=by
 have h1:=List.mergeSort_perm xs (fun x y=>decide (x≤y))
 have h2:(xs.mergeSort fun x y=>decide (x≤y)).Pairwise (fun a b:Int=>decide (a≤b)=true):=List.pairwise_mergeSort (le:=fun x y:Int=>decide (x≤y)) (fun a b c h g=>by simp at *; omega) (fun a b=>by simp; omega) xs
 refine List.Perm.eq_of_pairwise (le:=fun a b:Int=>decide (a≤b)=true) (fun a b _ _ hab hba=>by simp at *; omega) h2 ((Gee xs).imp fun h=>decide_eq_true h) (h1.trans (H09 xs).symm)
theorem Qe7 (xs:List Int):(Gfd xs).length=xs.length:=(H09 xs).length_eq
def H6a (xs:List Int):Option (List Int):=bif decide (xs.length < 4611686018427387904) then some (Gfd xs) else none
theorem Re0 {xs r:List Int} (h:H6a xs=some r):xs.length < 4611686018427387904∧r=Gfd xs:=by
 unfold H6a at h
 cases hb:decide (xs.length < 4611686018427387904) with
 | true=>rw [hb] at h; exact⟨of_decide_eq_true hb,(Option.some.inj h).symm⟩
 | false=>rw [hb] at h; cases h

def Qa3 (P:Program) (F:FuncId):Prop:=
 ∀ (blk off cap:Nat) (zs:List Int) (w:World),Holds (Value.int .i64) w blk off zs.toArray→blk < w.heap.size→zs.length < 4611686018427387904 →
  Calls P F #[.slice (some ⟨blk,off,none⟩) zs.length cap] w fun e w'=>e=.returned (.tuple #[])∧∃ n os,w'=grow (putRow (Value.int .i64) (Sort.ahead w n) blk off (zs.mergeSort fun x y=>decide (x≤y)).toArray) os
def Jdc (P:Program) (F:FuncId):Prop:=
 ∀ (p:Option Addr) (cap:Nat) (w:World),Calls P F #[.slice p 0 cap] w fun e w'=>e=.returned (.tuple #[])∧w'=w

theorem Qfb (xs:List Int):flat (xs.map I64)=xs.map I64:=by
 induction xs with
 | nil=>rfl
 | cons x r ih=>rw [List.map_cons,flat,ih]; rfl

theorem R6b {P:Program} {F:FuncId} (hs:Qa3 P F) (h0:Jdc P F) (i ver E:Nat) (xs:List Int) (hlen:xs.length < 4611686018427387904) :
  Jg P F [.vec i ver 1 xs.length] [(i,.vec E 1 ver (xs.map I64))] (fun r L'=>r=.tup []∧L'=[(i,.vec E 1 ver ((Gfd xs).map I64))]):=by
 intro w β vs hsat hl hv
 have hi:lk [(i,Jh.vec E 1 ver (xs.map I64))] i=some (.vec E 1 ver (xs.map I64)):=by simp [lk]
 have hsz:vs.size=1:=hl
 obtain⟨v0,rfl⟩:∃ v0,vs=#[v0]:=by
  refine⟨vs[0],?_⟩
  apply Array.ext
  ·simp [hsz]
  ·intro j hj1 hj2
   have:j=0:=by omega
   subst this; rfl
 have hv0:=hv 0 _ v0 rfl rfl
 obtain⟨-,hxk,hst⟩:=G5b hsat hi hv0
 have hlz:=Qe7 xs
 have hxk':∀ y∈(Gfd xs).map I64,y.cells.length=1:=fun y hy=>by
  obtain⟨z,_,rfl⟩:=List.mem_map.1 hy
  rfl
 have hnil:∀ L:Loc,L=[(i,Jh.vec E 1 ver ((Gfd xs).map I64))]→H9d ((i,Jh.vec E 1 ver ((Gfd xs).map I64))::[(i,Jh.vec E 1 ver (xs.map I64))]) L:=fun L hL id=>by
  subst hL
  rw [Gh,Gh,Gh]
  by_cases e:i=id
  ·rw [if_pos e,if_pos e]
  ·rw [if_neg e,if_neg e,if_neg e]
 rcases hst with ⟨rfl,hx0,hb0⟩ | ⟨b,cap,cur,rfl,hb,q1,q2,q3,q4,q5⟩
 ·refine(h0 none 0 w).mono fun e w' h=>?_
  obtain⟨rfl,rfl⟩:=h
  have hx:xs=[]:=by simpa using hx0
  subst hx
  have hsb:Gfd ([]:List Int)=[]:=List.eq_nil_of_length_eq_zero (by simpa using hlz)
  obtain⟨st,sat⟩:=Ru (w':=w') (t:=E) (k:=1) (ver1:=ver) (xs':=(Gfd ([]:List Int)).map I64) (ob':=none) hsat (.inr ⟨ver,_,hi,Nat.le_refl _,fun _=>⟨by simp [hsb],hb0.symm,fun _ _=>rfl⟩⟩)
   rfl rfl ⟨rfl,Nat.le_refl _⟩ (Nat.le_refl _) (fun b hb _=>rfl) (.inl rfl)
  have s2:=sat ⟨hxk',.inl ⟨rfl,by simp [hsb]⟩⟩
  exact⟨_,_,_,_,rfl,s2.locEq (hnil _ rfl),st.locEq (hnil _ rfl),.tup rfl (fun j u v hu=>by simp at hu),rfl,rfl⟩
 ·have hbs:b < w.heap.size:=(Array.getElem?_eq_some_iff.1 q3).1
  have hxl:(xs.map I64).length=xs.length:=by simp
  rw [hxl] at q1
  have hH:Holds (Value.int .i64) w b 0 xs.toArray:=by
   intro j hj
   have hj2:j < xs.length:=by simpa using hj
   have hjc:j < cur.size:=by rw [q4]; omega
   have hu:(flat (xs.map I64))[j]? = some (.sc (Value.int .i64 xs[j])):=by
    rw [Qfb,List.getElem?_map,List.getElem?_eq_getElem hj2]; rfl
   have hd:=q5 j _ cur[j] hu (by simp [hjc])
   have he:cur[j]=Value.int .i64 xs[j]:=hd.inv_sc
   constructor
   ·simp [World.cell?,q3,hjc,he,hj2]
   ·simp [World.frozen?,q3]
  have hcall:=hs b 0 cap xs w hH hbs hlen
  rw [hxl]
  refine hcall.mono fun e w' h=>?_
  obtain⟨rfl,n,os,rfl⟩:=h
  rw [R6a]
  obtain⟨d',hd'⟩:∃ d':Array Int,d'=(Gfd xs).toArray:=⟨_,rfl⟩
  have hds:d'.size=xs.length:=by rw [hd']; simp [Qe7]
  have hsd:Gfd xs=d'.toList:=by rw [hd']
  rw [← hd']
  have hheap:(grow (putRow (Value.int .i64) (Sort.ahead w n) b 0 d') os).heap[b]? = some (.cells (putCells (Value.int .i64) 0 d' cur) E (0,0)):=by
   unfold grow putRow mapBlock
   simp only [Sort.ahead]
   rw [Array.getElem?_append_left (by simpa using hbs),Array.getElem?_modify,if_pos rfl,q3]
   rfl
  have hcs:(putCells (Value.int .i64) 0 d' cur).size=cur.size:=by simp [putCells]
  have hcv':∀ j,j < xs.length→(putCells (Value.int .i64) 0 d' cur)[j]? = some (Value.int .i64 d'[j]!):=by
   intro j hj
   have hjc:j < cur.size:=by rw [q4]; omega
   simp [putCells,hjc,hds,hj]
  have f1:(grow (putRow (Value.int .i64) (Sort.ahead w n) b 0 d') os).os=w.os:=rfl
  have f2:(grow (putRow (Value.int .i64) (Sort.ahead w n) b 0 d') os).tape=w.tape:=rfl
  have f3:(grow (putRow (Value.int .i64) (Sort.ahead w n) b 0 d') os).output=w.output∧w.drawn≤(grow (putRow (Value.int .i64) (Sort.ahead w n) b 0 d') os).drawn:=⟨rfl,Nat.le_add_right _ _⟩
  have f4:w.heap.size≤(grow (putRow (Value.int .i64) (Sort.ahead w n) b 0 d') os).heap.size:=by
   rw [size_grow]
   simp only [putRow,mapBlock,Array.size_modify,Sort.ahead]; omega
  have f5:∀ b',b' < w.heap.size→b≠b'→(grow (putRow (Value.int .i64) (Sort.ahead w n) b 0 d') os).heap[b']? = w.heap[b']? := by
   intro b' hb' hne'
   unfold grow putRow mapBlock
   simp only [Sort.ahead]
   rw [Array.getElem?_append_left (by simpa using hb'),Array.getElem?_modify,if_neg hne']
  clear hH
  generalize grow (putRow (Value.int .i64) (Sort.ahead w n) b 0 d') os=W at hheap f1 f2 f3 f4 f5
  obtain⟨st,sat⟩:=Ru (w':=W) (t:=E) (k:=1) (ver1:=ver) (xs':=(Gfd xs).map I64) (ob':=β.at_ i) hsat
   (.inr ⟨ver,_,hi,Nat.le_refl _,fun _=>⟨by rw [List.length_map,List.length_map,hlz],rfl,fun b' hb'=>by
    rw [hb] at hb'; cases hb'
    rw [World.shape?,hheap,World.shape?,q3]; simp only [hcs]⟩⟩) f1 f2 f3 f4
   (fun b' hb' hne=>f5 b' hb' (fun e=>hne (by rw [inL,hi]; rfl) (by rw [hb,e])))
   (.inr (.inl ⟨by rw [inL,hi]; rfl,rfl⟩))
  have s2:=sat ⟨hxk',.inr ⟨b,hb,_,hheap,by rw [hcs,q4,List.length_map,hlz]; omega,fun j u v hu hv'=>by
   rw [Qfb] at hu
   have hj:=(List.getElem?_eq_some_iff.1 hu).1
   rw [List.length_map,hlz] at hj
   rw [hcv' j hj] at hv'
   have hv2:=Option.some.inj hv'
   subst hv2
   rw [hsd,List.getElem?_map,Array.getElem?_toList,Array.getElem?_eq_getElem (by omega),Option.map_some] at hu
   have hu2:=Option.some.inj hu
   subst hu2
   rw [getElem!_pos _ j (by omega)]
   exact .sc⟩⟩
  exact⟨_,_,_,_,rfl,s2.locEq (hnil _ rfl),st.locEq (hnil _ rfl),.tup rfl (fun j u v hu=>by simp at hu),rfl,rfl⟩

section ops
variable {P:Program} {o:Oper} {l:Fr} {L L'':Loc}
theorem Y39 {F:FuncId} {x:Operand} {ts:Array TypeId} {i ver E n:Nat} {xs r:List Int} (ho:o.op=.call { callee:=.value (.func F),args:=#[x],argTypes:=ts })
  (hs:Qa3 P F) (h0:Jdc P F) (hB:H7 P F=true)
  (hx:ev l x=.vec i ver 1 n) (hi:lk L i=some (.vec E 1 ver (xs.map I64))) (hn:n=xs.length) (h:H6a xs=some r)
  (hL:(i,.vec E 1 ver (r.map I64))::Hb2 L [(i,.vec E 1 ver (xs.map I64))]=L''):H0 P o l L (Is (.tup []) L''):=by
 obtain⟨hl,rfl⟩:=Re0 h
 subst hn
 have hcall:=R6b (P:=P) (F:=F) hs h0 i ver E xs hl
 refine Rs (xs:=[x]) ho hcall hB ⟨.inl hx,?_,trivial⟩ ⟨hi,trivial⟩ ?_ ?_ hL
 ·simp [AV.refs,inL,lk]
 ·simp [closedIn,Jh.refs]
 ·simp [H45,inL,lk]
end ops
end Go.Proofs.YtidpfkmbfgihlaaGreat
