/-
 Slices of the call's own,sorted in place by the library.
-/
import Derived.Test.YteogacmpgdpjlaaGreatDraw2
import Derived.Shelf.SlSortCmp.WholeK
namespace Go.Proofs.YteogacmpgdpjlaaGreat
open Go.RowKit Go.Sort

def G2f {α:Type} [Inhabited α] (cf:α→α→Int) (xs:List α):List α:=(pdq (ltOf cf) xs.toArray 0 xs.length (Lib.bitLen xs.length) true true).toList
theorem Jd0 {α:Type} [Inhabited α] (cf:α→α→Int) (hO:SWO (ltOf cf)) (xs:List α):(G2f cf xs).Perm xs∧(G2f cf xs).length=xs.length∧∀ i j (hi:i < j) (hj:j < (G2f cf xs).length),ltOf cf (G2f cf xs)[j] (G2f cf xs)[i]=false:=by
 have h:=pdq_sorts (ltOf cf) hO xs.toArray 0 xs.length (Lib.bitLen xs.length) true true (Nat.zero_le _) (by simp) (Or.inl rfl)
 obtain⟨⟨h1,h2,h3⟩,h4⟩:=h
 have hl:(G2f cf xs).length=xs.length:=by simp [G2f,h1]
 refine⟨?_,hl,fun i j hi hj=>?_⟩
 ·have e1:(pdq (ltOf cf) xs.toArray 0 xs.length (Lib.bitLen xs.length) true true).extract 0 xs.length=pdq (ltOf cf) xs.toArray 0 xs.length (Lib.bitLen xs.length) true true:=by
   have:xs.length=(pdq (ltOf cf) xs.toArray 0 xs.length (Lib.bitLen xs.length) true true).size:=by rw [h1]; simp
   rw [Array.extract_eq_self_of_le (by omega)]
  have e2:xs.toArray.extract 0 xs.length=xs.toArray:=by rw [Array.extract_eq_self_of_le (by simp)]
  rw [e1,e2] at h3
  exact h3
 ·have hj':j < xs.length:=by omega
  have:=h4 i j (Nat.zero_le _) hi hj'
  have g:∀ q (hq:q < (G2f cf xs).length),(pdq (ltOf cf) xs.toArray 0 xs.length (Lib.bitLen xs.length) true true)[q]! = (G2f cf xs)[q]:=fun q hq=>by
   have hq':q < (pdq (ltOf cf) xs.toArray 0 xs.length (Lib.bitLen xs.length) true true).size:=by rw [h1]; simpa using (hl ▸ hq)
   rw [getElem!_pos _ q hq']; simp [G2f]
  rw [g j hj,g i (by omega)] at this
  exact this

def Q03 (P:Program) (F:FuncId) (k:Nat):Prop:=
 ∀ {α:Type} [Inhabited α] (enc:α→List Value),(∀ x,(enc x).length=k)→(∀ x,∀ v∈enc x,v.oneCell'=true)→∀ (cf:α→α→Int),SWO (ltOf cf)→∀ (g:Nat) (cb:Array Value) (blk off cap:Nat) (d:Array α) (w:World),
  (∀ args w,(callFunc g args).run P w=.ok (.enter g args) w)→CmpLays P g cb enc k cf blk off d.size w→HoldsK enc k w blk off d→blk < w.heap.size→d.size < 4611686018427387904 →
  Calls P F #[.slice (some ⟨blk,off,none⟩) d.size cap,.func (.func g) #[] cb] w fun e w'=>e=.returned (.tuple #[])∧∃ n os,w'=sortWorldK enc k w blk off n (pdq (ltOf cf) d 0 d.size (Lib.bitLen d.size) true true) os
def SortNone (P:Program) (F:FuncId):Prop:=
 ∀ (g:Nat) (cb:Array Value) (w:World),Calls P F #[.slice none 0 0,.func (.func g) #[] cb] w fun e w'=>e=.returned (.tuple #[])∧∃ n os,w'=grow (w.drewN n) os

theorem world_ext {w w':World} (h1:w'.os=w.os) (h2:w'.tape=w.tape) (h3:w'.output=w.output∧w.drawn≤w'.drawn) (h4:w.heap.size≤w'.heap.size) (h5:∀ b,b < w.heap.size→w'.heap[b]? = w.heap[b]?):∃ q os,w'=grow (w.drewN q) os:=by
 refine⟨w'.drawn - w.drawn,w'.heap.extract w.heap.size w'.heap.size,?_⟩
 obtain⟨hp,tp,dr,os_,out⟩:=w'
 simp only at h1 h2 h3 h4 h5
 subst h1 h2
 obtain⟨rfl,h3⟩:=h3
 unfold grow World.drewN
 simp only [World.mk.injEq,true_and,and_true]
 refine⟨?_,by omega⟩
 apply Array.ext_getElem?
 intro k
 rw [Array.getElem?_append]
 split
 ·rename_i hk; exact h5 k hk
 ·rename_i hk
  rw [Array.getElem?_extract]
  have e:w.heap.size+(k - w.heap.size)=k:=by omega
  split
  ·rw [e]
  ·rename_i hk2
   exact Array.getElem?_eq_none (by omega)

theorem pure_grows {P:Program} {f:FuncId} {args:List AV} {u:AV} (hc:Pure P f args (·=u)) {w:World} {vs:Array Value} (hl:vs.size=args.length) (hv:∀ (j:Nat) a v,args[j]? = some a→vs[j]? = some v→D w (fun b _=>b < w.heap.size) a v) :
  Calls P f vs w fun e w'=>∃ v,e=.returned v∧D w' (fun b _=>b < w'.heap.size) u v∧∃ q os,w'=grow (w.drewN q) os:=by
 have hmono:∀ b i:Nat,b < w.heap.size→Qb w ⟨fun _=>none,fun _ _=>False⟩ [] b i:=fun b i hs=>⟨hs,fun h=>h,fun id o h=>by simp [lk] at h⟩
 refine(hc w ⟨fun _=>none,fun _ _=>False⟩ vs ⟨fun b i h=>h.elim,fun id b h=>by simp [lk] at h,fun id b j h=>by simp [lk] at h,fun id id' b h=>by simp [lk] at h,fun id o h=>by simp [lk] at h⟩ hl
  (fun j u v hu hv'=>.data ((hv j u v hu hv').mono fun b i hs=>⟨hmono b i hs,rfl⟩))).mono fun e w' h=>?_
 obtain⟨v,r,β',L',he,hsat',hst,hvr,rfl,rfl⟩:=h
 exact⟨v,he,hvr.data_of_nil.mono fun b i hs=>⟨hs.lt,rfl⟩,world_ext hst.os hst.tape hst.output hst.size (fun b hb=>(hst.far b hb (fun id h=>by simp [lk] at h)).1)⟩

def Flat {α:Type} (f:α→AV) (enc:α→List Value):Prop:=∀ x,f x=.agg ((enc x).map .sc)

theorem D.inv_sc {w:World} {S:Nat→Nat→Prop} {v x:Value} (h:D w S (.sc v) x):x=v:=by cases h; rfl
theorem D_scs {w:World} {S:Nat→Nat→Prop} {vs:List Value}:D w S (.agg (vs.map .sc)) (.agg vs.toArray):=
 .agg (by simp) fun j u v hu hv=>by
  simp only [List.getElem?_map] at hu
  simp only [List.getElem?_toArray] at hv
  rw [hv] at hu; cases hu; exact .sc

theorem Q3f {α:Type} [Inhabited α] {f:α→AV} {enc:α→List Value} {k:Nat} (hf:Flat f enc) (hk:∀ x,(enc x).length=k) (xs:List α):flat (xs.map f)=(flatK enc k xs.toArray).toList.map .sc:=by
 apply List.ext_getElem?
 intro j
 have hkl:∀ x∈xs.map f,x.cells.length=k:=fun x hx=>by
  obtain⟨y,_,rfl⟩:=List.mem_map.1 hx
  rw [hf y]; simp [AV.cells,hk]
 have hsz:(flatK enc k xs.toArray).size=xs.length*k:=by rw [size_flatK]; simp
 rcases Nat.lt_or_ge j (xs.length*k) with hj | hj
 ·have k0:0 < k:=by
   rcases Nat.eq_zero_or_pos k with h | h
   ·subst h; simp at hj
   ·exact h
  have hdm:j=j / k*k+j % k:=by rw [Nat.mul_comm]; exact(Nat.div_add_mod j k).symm
  have hq:j / k < xs.length:=Nat.div_lt_of_lt_mul (by rw [Nat.mul_comm]; exact hj)
  have h1:(xs.map f)[j / k]? = some (f xs[j / k]):=by simp [hq]
  have hl:(flat (xs.map f))[j]? = (f xs[j / k]).cells[j % k]? := by
   have:=Gf8 hkl h1 (Nat.mod_lt j k0)
   rwa [← hdm] at this
  have hg:=get_flatK enc k xs.toArray j (by rw [List.size_toArray]; exact hj)
  have hjm:j % k < (enc xs[j / k]).length:=by rw [hk]; exact Nat.mod_lt _ k0
  rw [hl,hf,List.getElem?_map]
  simp only [AV.cells,List.getElem?_map,List.getElem?_eq_getElem hjm,Option.map_some,Array.getElem?_toList]
  have hjs:j < (flatK enc k xs.toArray).size:=by omega
  rw [Array.getElem?_eq_getElem hjs,Option.map_some]
  rw [getElem!_pos _ j hjs] at hg
  rw [hg]
  have:xs.toArray[j / k]! = xs[j / k]:=by rw [getElem!_pos _ (j / k) (by simpa using hq)]; simp
  rw [this,getElem!_pos _ (j % k) hjm]
 ·rw [List.getElem?_eq_none (by rw [Q6 hkl]; simpa using hj),List.getElem?_eq_none (by simp [hsz]; exact hj)]

set_option maxHeartbeats 1000000 in
theorem sort_calls {P:Program} {F:FuncId} {k:Nat} (hs:Q03 P F k) (h0:SortNone P F) {α:Type} [Inhabited α] {f:α→AV} (enc:α→List Value) (hf:Flat f enc) (hk:∀ x,(enc x).length=k) (h1:∀ x,∀ v∈enc x,v.oneCell'=true)
  (cf:α→α→Int) (hO:SWO (ltOf cf)) (g:FuncId) (hB:Hb P g=true) (caps:List AV) (hcd:Zt (fun _=>false) caps=true) (hcmp:∀ x y,Pure P g ([f x,f y]++caps) (·=G0 (cf x y)))
  (i ver E:Nat) (xs:List α) (hlen:xs.length < 4611686018427387904) :
  Rn P F [.vec i ver k xs.length,.fn g caps] [(i,.vec E k ver (xs.map f))] (fun r L'=>r=.tup []∧L'=[(i,.vec E k ver ((G2f cf xs).map f))]):=by
 intro w β vs hsat hl hv
 have hi:lk [(i,Jx.vec E k ver (xs.map f))] i=some (.vec E k ver (xs.map f)):=by simp [lk]
 have hsz:vs.size=2:=hl
 obtain⟨v0,v1,rfl⟩:∃ v0 v1,vs=#[v0,v1]:=by
  refine⟨vs[0],vs[1],?_⟩
  apply Array.ext
  ·simp [hsz]
  ·intro j hj1 hj2
   have:j=0∨j=1:=by omega
   rcases this with rfl | rfl <;> rfl
 have hv0:=hv 0 _ v0 rfl rfl
 have hv1:=hv 1 _ v1 rfl rfl
 obtain⟨cb,rfl,hcl,hcv⟩:=hv1.inv_fn
 have hcd':∀ (j:Nat) u v,caps[j]? = some u→cb[j]? = some v→D w (Qb w β [(i,Jx.vec E k ver (xs.map f))]) u v:=fun j u v hu hv'=>(hcv j u v hu hv').toD (G39 hcd u (List.mem_of_getElem? hu))
 obtain⟨-,hxk,hst⟩:=H2f hsat hi hv0
 have hlz:(G2f cf xs).length=xs.length:=(Jd0 cf hO xs).2.1
 have hxk':∀ y∈(G2f cf xs).map f,y.cells.length=k:=fun y hy=>by
  obtain⟨z,_,rfl⟩:=List.mem_map.1 hy
  rw [hf z]; simp [AV.cells,hk]
 have hnil:∀ L:Loc,L=[(i,Jx.vec E k ver ((G2f cf xs).map f))]→H94 ((i,Jx.vec E k ver ((G2f cf xs).map f))::[(i,Jx.vec E k ver (xs.map f))]) L:=fun L hL id=>by
  subst hL
  rw [Gu,Gu,Gu]
  by_cases e:i=id
  ·rw [if_pos e,if_pos e]
  ·rw [if_neg e,if_neg e,if_neg e]
 rcases hst with ⟨rfl,hx0,hb0⟩ | ⟨b,cap,cur,rfl,hb,q1,q2,q3,q4,q5⟩
 ·-- no element
  refine(h0 g cb w).mono fun e w' h=>?_
  obtain⟨rfl,n,os,rfl⟩:=h
  have hx:xs=[]:=by simpa using hx0
  subst hx
  have hsb:G2f cf ([]:List α)=[]:=List.eq_nil_of_length_eq_zero (by simpa using hlz)
  obtain⟨st,sat⟩:=G5d (w':=grow (w.drewN n) os) (t:=E) (k:=k) (ver1:=ver) (xs':=(G2f cf ([]:List α)).map f) (ob':=none) hsat (.inr ⟨ver,_,hi,Nat.le_refl _,fun _=>⟨by simp [hsb],hb0.symm,fun b hb=>by rw [hb0] at hb; cases hb⟩⟩)
   rfl rfl ⟨rfl,by simp [grow,World.drewN]⟩ (by simp [grow,World.drewN]) (fun b hb _=>by simp [grow,World.drewN,Array.getElem?_append_left hb]) (.inl rfl)
  have s2:=sat ⟨hxk',.inl ⟨rfl,by simp [hsb]⟩⟩
  exact⟨_,_,_,_,rfl,s2.locEq (hnil _ rfl),st.locEq (hnil _ rfl),.tup rfl (fun j u v hu=>by simp at hu),rfl,rfl⟩
 ·have hbs:b < w.heap.size:=(Array.getElem?_eq_some_iff.1 q3).1
  have hfl:(flatK enc k xs.toArray).size=xs.length*k:=by rw [size_flatK]; simp
  have hxl:(xs.map f).length=xs.length:=by simp
  rw [hxl] at q1
  have hH:HoldsK enc k w b 0 xs.toArray:=by
   intro j hj
   have hj2:j < xs.length*k:=by rw [← hfl]; exact hj
   have hjc:j < cur.size:=by rw [q4]; have:=Nat.mul_le_mul_right k q1; omega
   have hu:(flat (xs.map f))[j]? = some (.sc (flatK enc k xs.toArray)[j]!):=by
    rw [Q3f hf hk,List.getElem?_map,Array.getElem?_toList,Array.getElem?_eq_getElem hj,getElem!_pos _ j hj]; rfl
   have hd:=q5 j _ cur[j] hu (by simp [hjc])
   have he:cur[j]=(flatK enc k xs.toArray)[j]! := hd.inv_sc
   constructor
   ·simp [World.cell?,q3,hjc,he]
   ·simp [World.frozen?,q3]
  have eg:∀ args w,(callFunc g args).run P w=.ok (.enter g args) w:=fun args w=>Hb.out hB args w
  have hC:CmpLays P g cb enc k cf b 0 xs.toArray.size w:=by
   intro m os dk hdk x y
   have hother:∀ b' j,Qb w β [(i,Jx.vec E k ver (xs.map f))] b' j→(sortWorldK enc k w b 0 m dk os).cell? ⟨b',j,none⟩=w.cell? ⟨b',j,none⟩∧b' < (sortWorldK enc k w b 0 m dk os).heap.size:=by
    intro b' j hs
    have hne:b'≠b:=fun e=>by
     have:=hs.kept i _ hi (by rw [e]; exact hb)
     exact this
    constructor
    ·unfold sortWorldK
     rw [show (grow (putRowK enc k (Sort.ahead w m) b 0 dk) os).cell? ⟨b',j,none⟩=(putRowK enc k (Sort.ahead w m) b 0 dk).cell? ⟨b',j,none⟩ from by
      apply World.cell?_of_block
      simp only [grow]
      rw [Array.getElem?_append_left]
      simp only [putRowK,putRow,mapBlock,Array.size_modify,Sort.ahead]; exact hs.lt]
     rw [cell?_putRowK_other enc k _ b 0 dk _ hne]
     rfl
    ·unfold sortWorldK
     simp only [size_grow,putRowK,putRow,mapBlock,Array.size_modify,Sort.ahead]
     have:=hs.lt; omega
   generalize sortWorldK enc k w b 0 m dk os=W at hother ⊢
   have hsz2:(#[Value.agg (enc x).toArray,Value.agg (enc y).toArray]++cb).size=([f x,f y]++caps).length:=by rw [Array.size_append,List.length_append,hcl]; rfl
   have hpg:=pure_grows (w:=W) (hcmp x y) hsz2
   clear hcmp hs hsz2 hH hfl q5 hcl
   refine(hpg (fun j a v ha hv'=>?_)).mono fun e w' h=>?_
   ·rcases Nat.lt_or_ge j 2 with hj | hj
    ·rw [List.getElem?_append_left (by simpa using hj)] at ha
     rw [Array.getElem?_append_left (by simpa using hj)] at hv'
     have:j=0∨j=1:=by omega
     rcases this with rfl | rfl
     ·simp at ha hv'; subst ha hv'; rw [hf x]; exact D_scs
     ·simp at ha hv'; subst ha hv'; rw [hf y]; exact D_scs
    ·rw [List.getElem?_append_right (by simpa using hj)] at ha
     rw [Array.getElem?_append_right (by simpa using hj)] at hv'
     exact(hcd' (j - 2) a v (by simpa using ha) (by simpa using hv')).mono fun b' j' hs=>⟨(hother b' j' hs).2,(hother b' j' hs).1⟩
   ·obtain⟨v,rfl,hd,q,os',rfl⟩:=h
    have hvv:=hd.inv_sc
    subst hvv
    exact⟨rfl,q,os',rfl⟩
  have hcall:=hs enc hk h1 cf hO g cb b 0 cap xs.toArray w eg hC hH hbs (by simpa using hlen)
  rw [List.size_toArray] at hcall
  rw [hxl]
  refine hcall.mono fun e w' h=>?_
  obtain⟨rfl,n,os,rfl⟩:=h
  -- what lies there now
  obtain⟨d',hd'⟩:∃ d',d'=pdq (ltOf cf) xs.toArray 0 xs.length (Lib.bitLen xs.length) true true:=⟨_,rfl⟩
  have hds:d'.size=xs.toArray.size:=by
   have:=hlz
   rw [G2f,← hd'] at this
   simpa using this
  have hsd:G2f cf xs=d'.toList:=by rw [G2f,← hd']
  rw [← hd']
  have hH':=holdsK_sortWorldK enc k w b 0 n xs.toArray d' os hbs hH hds
  have hheap:(sortWorldK enc k w b 0 n d' os).heap[b]? = some (.cells (putCells id 0 (flatK enc k d') cur) E (0,0)):=by
   unfold sortWorldK grow putRowK putRow mapBlock
   simp only [Sort.ahead]
   rw [Array.getElem?_append_left (by simpa using hbs),Array.getElem?_modify,if_pos rfl,q3]
   rfl
  have hcs:(putCells id 0 (flatK enc k d') cur).size=cur.size:=by simp [putCells]
  have hcv0:∀ j,j < xs.length*k→(sortWorldK enc k w b 0 n d' os).cell? ⟨b,j,none⟩=some (flatK enc k d')[j]! := by
   intro j hj
   have hj':j < (flatK enc k d').size:=by rw [size_flatK,hds]; simpa using hj
   have:=(hH' j hj').1
   rw [Nat.zero_add] at this
   exact this
  have f1:(sortWorldK enc k w b 0 n d' os).os=w.os:=rfl
  have f2:(sortWorldK enc k w b 0 n d' os).tape=w.tape:=rfl
  have f3:(sortWorldK enc k w b 0 n d' os).output=w.output∧w.drawn≤(sortWorldK enc k w b 0 n d' os).drawn:=⟨rfl,Nat.le_add_right _ _⟩
  have f4:w.heap.size≤(sortWorldK enc k w b 0 n d' os).heap.size:=by
   unfold sortWorldK
   rw [size_grow]
   simp only [putRowK,putRow,mapBlock,Array.size_modify,Sort.ahead]; omega
  have f5:∀ b',b' < w.heap.size→b≠b'→(sortWorldK enc k w b 0 n d' os).heap[b']? = w.heap[b']? := by
   intro b' hb' hne'
   unfold sortWorldK grow putRowK putRow mapBlock
   simp only [Sort.ahead]
   rw [Array.getElem?_append_left (by simpa using hb'),Array.getElem?_modify,if_neg hne']
  clear hH' hH hC hcmp
  generalize sortWorldK enc k w b 0 n d' os=W at hheap hcv0 f1 f2 f3 f4 f5
  obtain⟨st,sat⟩:=G5d (w':=W) (t:=E) (k:=k) (ver1:=ver) (xs':=(G2f cf xs).map f) (ob':=β.at_ i) hsat
   (.inr ⟨ver,_,hi,Nat.le_refl _,fun _=>⟨by rw [List.length_map,List.length_map,hlz],rfl,fun b' hb'=>by
    rw [hb] at hb'; cases hb'
    rw [World.shape?,hheap,World.shape?,q3]; simp only [hcs]⟩⟩) f1 f2 f3 f4
   (fun b' hb' hne=>f5 b' hb' (fun e=>hne (by rw [G36,hi]; rfl) (by rw [hb,e])))
   (.inr (.inl ⟨by rw [G36,hi]; rfl,rfl⟩))
  have hcv':∀ j,j < xs.length*k→(putCells id 0 (flatK enc k d') cur)[j]? = some (flatK enc k d')[j]! := by
   intro j hj
   have:=hcv0 j hj
   simp only [World.cell?,hheap] at this
   simpa using this
  have s2:=sat ⟨hxk',.inr ⟨b,hb,_,hheap,by rw [hcs,q4,List.length_map,hlz]; exact Nat.mul_le_mul_right _ q1,fun j u v hu hv'=>by
   have hj:=(List.getElem?_eq_some_iff.1 hu).1
   rw [Q6 hxk',List.length_map,hlz] at hj
   rw [hcv' j hj] at hv'
   have hv2:=Option.some.inj hv'
   subst hv2
   have hj':j < (flatK enc k d').size:=by rw [size_flatK,hds]; simpa using hj
   rw [Q3f hf hk,hsd] at hu
   rw [List.getElem?_map,Array.getElem?_toList,Array.toArray_toList,Array.getElem?_eq_getElem hj',Option.map_some] at hu
   have hu2:=Option.some.inj hu
   subst hu2
   rw [getElem!_pos _ j hj']
   exact .sc⟩⟩
  exact⟨_,_,_,_,rfl,s2.locEq (hnil _ rfl),st.locEq (hnil _ rfl),.tup rfl (fun j u v hu=>by simp at hu),rfl,rfl⟩
end Go.Proofs.YteogacmpgdpjlaaGreat
