/-
 A statement whose order is open,in which more than one opera Slices of the call's own,sorted in place by the library. slices.SortFunc in a model. Slices of whole numbers of the call's own,sorted in place by slices.SortFunc of slices (or other cells that refer to memo
-/
import Derived.Test.YtibhpogonkdiaaaGreatMapM
import Derived.Shelf.SlSortCmp.WholeK
import Derived.Shelf.SlSortCmp.Kit1
set_option linter.unusedVariables false
set_option linter.unusedSimpArgs false
set_option linter.unnecessarySimpa false
namespace Go.Proofs.YtibhpogonkdiaaaGreat
open Go.RowKit

def G98 (L L':Loc):Prop:=∀ id,lk L id=lk L' id
theorem Sat.locEq {w:World} {β:Gu} {L L':Loc} (h:Sat w β L) (e:G98 L L'):Sat w β L':=by
 have hS:∀ b i,Hv w β L b i→Hv w β L' b i:=fun b i hs=>⟨hs.lt,hs.seen,fun id o ho=>hs.kept id o (by rw [e]; exact ho)⟩
 exact⟨h.hid,fun id b h1=>h.bnd id b (by rw [e]; exact h1),fun id b j h1=>h.apart id b j (by rw [e]; exact h1),fun id id' b h1 h2=>h.inj id id' b (by rw [e]; exact h1) (by rw [e]; exact h2),
  fun id o ho=>(h.obj id o (by rw [e]; exact ho)).up hS (fun id o ho=>⟨by rw [← e]; exact ho,rfl⟩)⟩
theorem Step.locEq {w w':World} {β β':Gu} {L L1 L':Loc} (h:Step w β L w' β' L1) (e:G98 L1 L'):Step w β L w' β' L' where
 os:=h.os
 tape:=h.tape
 output:=h.output
 size:=h.size
 hid:=h.hid
 stab:=fun b i hs=>by
  obtain⟨h1,h2⟩:=h.stab b i hs
  exact⟨⟨h1.lt,h1.seen,fun id o ho=>h1.kept id o (by rw [e]; exact ho)⟩,h2⟩
 far:=fun b hb hf=>by
  obtain⟨h1,h2⟩:=h.far b hb hf
  exact⟨h1,fun id hid=>h2 id (by rw [e]; exact hid)⟩
 box:=fun id t cs hi=>by obtain⟨h1,cs',h2⟩:=h.box id t cs hi; exact⟨h1,cs',by rw [← e]; exact h2⟩
 map:=fun id t cs hi=>by obtain⟨h1,cs',h2⟩:=h.map id t cs hi; exact⟨h1,cs',by rw [← e]; exact h2⟩
 iter:=fun id m n cs hi=>by obtain⟨h1,n',cs',h2⟩:=h.iter id m n cs hi; exact⟨h1,n',cs',by rw [← e]; exact h2⟩
 vec:=fun id t k ver xs hi=>by obtain⟨v,xs',h1,h2,h3⟩:=h.vec id t k ver xs hi; exact⟨v,xs',by rw [← e]; exact h1,h2,h3⟩
 spare:=fun id t k ver xs hi=>by obtain⟨v,xs',h1,h2,h3⟩:=h.spare id t k ver xs hi; exact⟨v,xs',by rw [← e]; exact h1,h2,h3⟩
theorem V.locEq {w:World} {β:Gu} {L L':Loc} {u:AV} {v:Value} (h:V w β L u v) (e:G98 L L'):V w β L' u v:=
 h.up (fun b i hs=>⟨hs.lt,hs.seen,fun id o ho=>hs.kept id o (by rw [e]; exact ho)⟩) (fun id o ho=>⟨by rw [← e]; exact ho,rfl⟩)
theorem G04.locEq {P:Program} {N:Cfg} {ops:Array Oper} {o:Oper} {l:Fr} {L L1 L':Loc} {u:AV} (h:G04 P N ops o l L u L1) (e:G98 L1 L'):G04 P N ops o l L u L':=
 fun a w β K Q h1 h2 h3 h4=>h a w β K Q h1 h2 h3 (fun v w' β' k1 k2 k3=>h4 v w' β' (k1.locEq e) (k2.locEq e) (k3.locEq e))
def He6 (ks:List Nat):Loc→Bool
 | []=>true
 | (i,_)::r=>ks.contains i&&He6 ks r
def Y5d (L L':Loc):List Nat→Prop
 | []=>True
 | k::r=>lk L k=lk L' k∧Y5d L L' r
theorem He5 {ks:List Nat} {id:Nat} (h:id ∉ ks):∀ {L:Loc},He6 ks L=true→lk L id=none
 | [],_=>rfl
 | (i,o)::r,hk=>by
  simp only [He6,Ma] at hk
  rw [Gd,if_neg (fun e=>h (by subst e; simpa using hk.1))]
  exact He5 h hk.2
theorem G98.of {L L':Loc} (ks:List Nat) (h1:He6 ks L=true) (h2:He6 ks L'=true) (h3:Y5d L L' ks):G98 L L':=fun id=>by
 by_cases h:id∈ks
 ·clear h1 h2
  induction ks with
  | nil=>cases h
  | cons k r ih=>
   rcases Mg.1 h with e | h
   ·rw [e]; exact h3.1
   ·exact ih h3.2 h
 ·rw [He5 h h1,He5 h h2]

/-! ### The stages: which of the turning operations are done -/
def J86 (ws:List Nat) (s:List Bool) (i:Nat):List Bool:=(ws.zip s).map fun p=>p.2||p.1==i
def Hbd (tb:List (List Bool×Loc)) (s:List Bool):Option Loc:=(tb.find? fun p=>p.1==s).map (·.2)
def Gac (P:Program) (N:Cfg) (ops:Array Oper) (ws:List Nat) (tb:List (List Bool×Loc)) (i:Nat) (o:Oper) (l:Fr) (u:AV) (s:List Bool):Prop:=
 ∃ L L1 L',Hbd tb s=some L∧Hbd tb (J86 ws s i)=some L'∧G04 P N ops o l L u L1∧G98 L1 L'
theorem Gac.ro {P:Program} {N:Cfg} {ops:Array Oper} {ws:List Nat} {tb:List (List Bool×Loc)} {i:Nat} {o:Oper} {l:Fr} {u:AV} {s:List Bool} {L:Loc} (h1:Hbd tb s=some L) (h2:Hbd tb (J86 ws s i)=some L) (h:G04 P N ops o l L u L):Gac P N ops ws tb i o l u s:=⟨L,L,L,h1,h2,h,fun _=>rfl⟩
theorem Gac.w {P:Program} {N:Cfg} {ops:Array Oper} {ws:List Nat} {tb:List (List Bool×Loc)} {i:Nat} {o:Oper} {l:Fr} {u:AV} {s:List Bool} {L L1 L':Loc} (ks:List Nat) (h1:Hbd tb s=some L) (h2:Hbd tb (J86 ws s i)=some L') (h:G04 P N ops o l L u L1) (k1:He6 ks L1=true) (k2:He6 ks L'=true) (k3:Y5d L1 L' ks):Gac P N ops ws tb i o l u s:=⟨L,L1,L',h1,h2,h,G98.of ks k1 k2 k3⟩

section pre
variable {P:Program} {N:Cfg} {ops:Array Oper} {ws:List Nat} {sts:List (List (List Bool))} {tb:List (List Bool×Loc)} {i:Nat} {o:Oper} {r:List Oper} {l:Fr} {K:Fr→Prop} {u:AV}
end pre

open Go.RowKit Go.Sort

def Z2 {α:Type} [Inhabited α] (cf:α→α→Int) (xs:List α):List α:=(pdq (ltOf cf) xs.toArray 0 xs.length (Lib.bitLen xs.length) true true).toList
theorem H88 {α:Type} [Inhabited α] (cf:α→α→Int) (hO:SWO (ltOf cf)) (xs:List α):(Z2 cf xs).Perm xs∧(Z2 cf xs).length=xs.length∧∀ i j (hi:i < j) (hj:j < (Z2 cf xs).length),ltOf cf (Z2 cf xs)[j] (Z2 cf xs)[i]=false:=by
 have h:=pdq_sorts (ltOf cf) hO xs.toArray 0 xs.length (Lib.bitLen xs.length) true true (Nat.zero_le _) (by simp) (Or.inl rfl)
 obtain⟨⟨h1,h2,h3⟩,h4⟩:=h
 have hl:(Z2 cf xs).length=xs.length:=by simp [Z2,h1]
 refine⟨?_,hl,fun i j hi hj=>?_⟩
 ·have e1:(pdq (ltOf cf) xs.toArray 0 xs.length (Lib.bitLen xs.length) true true).extract 0 xs.length=pdq (ltOf cf) xs.toArray 0 xs.length (Lib.bitLen xs.length) true true:=by
   have:xs.length=(pdq (ltOf cf) xs.toArray 0 xs.length (Lib.bitLen xs.length) true true).size:=by rw [h1]; simp
   rw [Array.extract_eq_self_of_le (by omega)]
  have e2:xs.toArray.extract 0 xs.length=xs.toArray:=by rw [Array.extract_eq_self_of_le (by simp)]
  rw [e1,e2] at h3
  exact h3
 ·have h0:j < xs.length:=by omega
  have:=h4 i j (Nat.zero_le _) hi h0
  have g:∀ q (hq:q < (Z2 cf xs).length),(pdq (ltOf cf) xs.toArray 0 xs.length (Lib.bitLen xs.length) true true)[q]! = (Z2 cf xs)[q]:=fun q hq=>by
   have h5:q < (pdq (ltOf cf) xs.toArray 0 xs.length (Lib.bitLen xs.length) true true).size:=by rw [h1]; simpa using (hl ▸ hq)
   rw [getElem!_pos _ q h5]; simp [Z2]
  rw [g j hj,g i (by omega)] at this
  exact this

def J8d (P:Program) (F:FuncId) (k:Nat):Prop:=
 ∀ {α:Type} [Inhabited α] (enc:α→List Value),(∀ x,(enc x).length=k)→(∀ x,∀ v∈enc x,v.oneCell'=true)→∀ (cf:α→α→Int),SWO (ltOf cf)→∀ (g:Nat) (cb:Array Value) (blk off cap:Nat) (d:Array α) (w:World),
  (∀ args w,(callFunc g args).run P w=.ok (.enter g args) w)→CmpLays P g cb enc k cf blk off d.size w→HoldsK enc k w blk off d→blk < w.heap.size→d.size < 4611686018427387904 →
  Calls P F #[.slice (some ⟨blk,off,none⟩) d.size cap,.func (.func g) #[] cb] w fun e w'=>e=.returned (.tuple #[])∧∃ n os,w'=sortWorldK enc k w blk off n (pdq (ltOf cf) d 0 d.size (Lib.bitLen d.size) true true) os
def SortNone (P:Program) (F:FuncId):Prop:=
 ∀ (g:Nat) (cb:Array Value) (w:World),Calls P F #[.slice none 0 0,.func (.func g) #[] cb] w fun e w'=>e=.returned (.tuple #[])∧∃ n os,w'=grow (w.drewN n) os

theorem R77 {w w':World} (h1:w'.os=w.os) (h2:w'.tape=w.tape) (h3:w'.output=w.output∧w.drawn≤w'.drawn) (h4:w.heap.size≤w'.heap.size) (h5:∀ b,b < w.heap.size→w'.heap[b]? = w.heap[b]?):∃ q os,w'=grow (w.drewN q) os:=by
 refine⟨w'.drawn - w.drawn,w'.heap.extract w.heap.size w'.heap.size,?_⟩
 obtain⟨hp,tp,dr,os_,out⟩:=w'
 simp only at h1 h2 h3 h4 h5
 subst h1 h2
 obtain⟨rfl,h3⟩:=h3
 unfold grow World.drewN
 simp only [World.mk.injEq,true_and,and_true]
 refine⟨?_,by omega⟩
 apply Array.ext_getElem?
 intro k
 rw [Array.getElem?_append]
 split
 ·rename_i hk; exact h5 k hk
 ·rename_i hk
  rw [Array.getElem?_extract]
  have e:w.heap.size+(k - w.heap.size)=k:=by omega
  split
  ·rw [e]
  ·rename_i h0
   exact Array.getElem?_eq_none (by omega)

theorem Jbc {P:Program} {f:FuncId} {args:List AV} {u:AV} (hc:Pure P f args (·=u)) {w:World} {vs:Array Value} (hl:vs.size=args.length) (hv:∀ (j:Nat) a v,args[j]? = some a→vs[j]? = some v→D w (fun b _=>b < w.heap.size) a v) :
  Calls P f vs w fun e w'=>∃ v,e=.returned v∧D w' (fun b _=>b < w'.heap.size) u v∧∃ q os,w'=grow (w.drewN q) os:=by
 have h1:∀ b i:Nat,b < w.heap.size→Hv w ⟨fun _=>none,fun _ _=>False⟩ [] b i:=fun b i hs=>⟨hs,fun h=>h,fun id o h=>by simp [lk] at h⟩
 refine(hc w ⟨fun _=>none,fun _ _=>False⟩ vs ⟨fun b i h=>h.elim,fun id b h=>by simp [lk] at h,fun id b j h=>by simp [lk] at h,fun id id' b h=>by simp [lk] at h,fun id o h=>by simp [lk] at h⟩ hl
  (fun j u v hu h2=>.data ((hv j u v hu h2).mono fun b i hs=>⟨h1 b i hs,rfl⟩))).mono fun e w' h=>?_
 obtain⟨v,r,β',L',he,h4,h0,h3,rfl,rfl⟩:=h
 exact⟨v,he,h3.data_of_nil.mono fun b i hs=>⟨hs.lt,rfl⟩,R77 h0.os h0.tape h0.output h0.size (fun b hb=>(h0.far b hb (fun id h=>by simp [lk] at h)).1)⟩

def Flat {α:Type} (f:α→AV) (enc:α→List Value):Prop:=∀ x,f x=.agg ((enc x).map .sc)

theorem D.inv_sc {w:World} {S:Nat→Nat→Prop} {v x:Value} (h:D w S (.sc v) x):x=v:=by cases h; rfl
theorem Y49 {w:World} {S:Nat→Nat→Prop} {vs:List Value}:D w S (.agg (vs.map .sc)) (.agg vs.toArray):=
 .agg (by simp) fun j u v hu hv=>by
  simp only [M5] at hu
  simp only [List.getElem?_toArray] at hv
  rw [hv] at hu; cases hu; exact .sc

theorem Jd0 {α:Type} [Inhabited α] {f:α→AV} {enc:α→List Value} {k:Nat} (hf:Flat f enc) (hk:∀ x,(enc x).length=k) (xs:List α):flat (xs.map f)=(flatK enc k xs.toArray).toList.map .sc:=by
 apply List.ext_getElem?
 intro j
 have h0:∀ x∈xs.map f,x.cells.length=k:=fun x hx=>by
  obtain⟨y,_,rfl⟩:=Me.1 hx
  rw [hf y]; simp [AV.cells,hk]
 have h4:(flatK enc k xs.toArray).size=xs.length*k:=by rw [size_flatK]; simp
 rcases Kq j (xs.length*k) with hj | hj
 ·have k0:0 < k:=by
   rcases Nat.eq_zero_or_pos k with h | h
   ·subst h; simp at hj
   ·exact h
  have h5:j=j / k*k+j % k:=by rw [Nat.mul_comm]; exact(Nat.div_add_mod j k).symm
  have hq:j / k < xs.length:=Nat.div_lt_of_lt_mul (by rw [Nat.mul_comm]; exact hj)
  have h1:(xs.map f)[j / k]? = some (f xs[j / k]):=by simp [hq]
  have hl:(flat (xs.map f))[j]? = (f xs[j / k]).cells[j % k]? := by
   have:=G77 h0 h1 (Nat.mod_lt j k0)
   rwa [← h5] at this
  have hg:=get_flatK enc k xs.toArray j (by rw [List.size_toArray]; exact hj)
  have h2:j % k < (enc xs[j / k]).length:=by rw [hk]; exact Nat.mod_lt _ k0
  rw [hl,hf,M5]
  simp only [AV.cells,M5,Kx h2,Option.map_some,Array.getElem?_toList]
  have h3:j < (flatK enc k xs.toArray).size:=by omega
  rw [Array.getElem?_eq_getElem h3,Option.map_some]
  rw [getElem!_pos _ j h3] at hg
  rw [hg]
  have:xs.toArray[j / k]! = xs[j / k]:=by rw [getElem!_pos _ (j / k) (by simpa using hq)]; simp
  rw [this,getElem!_pos _ (j % k) h2]
 ·rw [List.getElem?_eq_none (by rw [J0 h0]; simpa using hj),List.getElem?_eq_none (by simp [h4]; exact hj)]

set_option maxHeartbeats 1000000 in
theorem R21 {P:Program} {F:FuncId} {k:Nat} (hs:J8d P F k) (h0:SortNone P F) {α:Type} [Inhabited α] {f:α→AV} (enc:α→List Value) (hf:Flat f enc) (hk:∀ x,(enc x).length=k) (h1:∀ x,∀ v∈enc x,v.oneCell'=true)
  (cf:α→α→Int) (hO:SWO (ltOf cf)) (g:FuncId) (hB:Hh P g=true) (caps:List AV) (c1:Qn (fun _=>false) caps=true) (h8:∀ x y,Pure P g ([f x,f y]++caps) (·=I64 (cf x y)))
  (i ver E:Nat) (xs:List α) (b7:xs.length < 4611686018427387904) :
  Q2 P F [.vec i ver k xs.length,.fn g caps] [(i,.vec E k ver (xs.map f))] (fun r L'=>r=.tup []∧L'=[(i,.vec E k ver ((Z2 cf xs).map f))]):=by
 intro w β vs h9 hl hv
 have hi:lk [(i,Je.vec E k ver (xs.map f))] i=some (.vec E k ver (xs.map f)):=by simp [lk]
 have c2:vs.size=2:=hl
 obtain⟨v0,v1,rfl⟩:∃ v0 v1,vs=#[v0,v1]:=by
  refine⟨vs[0],vs[1],?_⟩
  apply Array.ext
  ·simp [c2]
  ·intro j d4 c3
   have:j=0∨j=1:=by omega
   rcases this with rfl | rfl <;> rfl
 have c4:=hv 0 _ v0 rfl rfl
 have c5:=hv 1 _ v1 rfl rfl
 obtain⟨cb,rfl,a9,c6⟩:=c5.inv_fn
 have b8:∀ (j:Nat) u v,caps[j]? = some u→cb[j]? = some v→D w (Hv w β [(i,Je.vec E k ver (xs.map f))]) u v:=fun j u v hu h2=>(c6 j u v hu h2).toD (Yt c1 u (Kz hu))
 obtain⟨-,d5,c7⟩:=G37 h9 hi c4
 have h7:(Z2 cf xs).length=xs.length:=(H88 cf hO xs).2.1
 have a0:∀ y∈(Z2 cf xs).map f,y.cells.length=k:=fun y hy=>by
  obtain⟨z,_,rfl⟩:=Me.1 hy
  rw [hf z]; simp [AV.cells,hk]
 have h6:∀ L:Loc,L=[(i,Je.vec E k ver ((Z2 cf xs).map f))]→G98 ((i,Je.vec E k ver ((Z2 cf xs).map f))::[(i,Je.vec E k ver (xs.map f))]) L:=fun L hL id=>by
  subst hL
  rw [Gd,Gd,Gd]
  by_cases e:i=id
  ·rw [if_pos e,if_pos e]
  ·rw [if_neg e,if_neg e,if_neg e]
 rcases c7 with ⟨rfl,c8,b0⟩ | ⟨b,cap,cur,rfl,hb,q1,q2,q3,q4,q5⟩
 ·-- no element
  refine(h0 g cb w).mono fun e w' h=>?_
  obtain⟨rfl,n,os,rfl⟩:=h
  have hx:xs=[]:=by simpa using c8
  subst hx
  have b1:Z2 cf ([]:List α)=[]:=Kn (by simpa using h7)
  obtain⟨st,sat⟩:=Qu (w':=grow (w.drewN n) os) (t:=E) (k:=k) (ver1:=ver) (xs':=(Z2 cf ([]:List α)).map f) (ob':=none) h9 (.inr ⟨ver,_,hi,M1,fun _=>⟨by simp [b1],b0.symm,fun b hb=>by rw [b0] at hb; cases hb⟩⟩)
   rfl rfl ⟨rfl,by simp [grow,World.drewN]⟩ (by simp [grow,World.drewN]) (fun b hb _=>by simp [grow,World.drewN,Array.getElem?_append_left hb]) (.inl rfl)
  have s2:=sat ⟨a0,.inl ⟨rfl,by simp [b1]⟩⟩
  exact⟨_,_,_,_,rfl,s2.locEq (h6 _ rfl),st.locEq (h6 _ rfl),.tup rfl (fun j u v hu=>by simp at hu),rfl,rfl⟩
 ·have a3:b < w.heap.size:=(Kk q3).1
  have b2:(flatK enc k xs.toArray).size=xs.length*k:=by rw [size_flatK]; simp
  have b3:(xs.map f).length=xs.length:=by simp
  rw [b3] at q1
  have hH:HoldsK enc k w b 0 xs.toArray:=by
   intro j hj
   have c3:j < xs.length*k:=by rw [← b2]; exact hj
   have b4:j < cur.size:=by rw [q4]; have:=Nat.mul_le_mul_right k q1; omega
   have hu:(flat (xs.map f))[j]? = some (.sc (flatK enc k xs.toArray)[j]!):=by
    rw [Jd0 hf hk,M5,Array.getElem?_toList,Array.getElem?_eq_getElem hj,getElem!_pos _ j hj]; rfl
   have hd:=q5 j _ cur[j] hu (by simp [b4])
   have he:cur[j]=(flatK enc k xs.toArray)[j]! := hd.inv_sc
   constructor
   ·simp [World.cell?,q3,b4,he]
   ·simp [World.frozen?,q3]
  have eg:∀ args w,(callFunc g args).run P w=.ok (.enter g args) w:=fun args w=>Hh.out hB args w
  have hC:CmpLays P g cb enc k cf b 0 xs.toArray.size w:=by
   intro m os dk d6 x y
   have h4:∀ b' j,Hv w β [(i,Je.vec E k ver (xs.map f))] b' j→Qy (sortWorldK enc k w b 0 m dk os) b' j=Qy w b' j∧b' < (sortWorldK enc k w b 0 m dk os).heap.size:=by
    intro b' j hs
    have a4:b'≠b:=fun e=>by
     have:=hs.kept i _ hi (by rw [e]; exact hb)
     exact this
    constructor
    ·refine Jh (w:=w) ?_
     unfold sortWorldK
     simp only [grow]
     rw [Array.getElem?_append_left (by simp only [putRowK,putRow,mapBlock,Array.size_modify,Sort.ahead]; exact hs.lt)]
     simp only [putRowK,putRow,mapBlock,Sort.ahead,Array.getElem?_modify,if_neg (Ne.symm a4)]
    ·unfold sortWorldK
     simp only [size_grow,putRowK,putRow,mapBlock,Array.size_modify,Sort.ahead]
     have:=hs.lt; omega
   generalize sortWorldK enc k w b 0 m dk os=W at h4 ⊢
   have a5:(#[Value.agg (enc x).toArray,Value.agg (enc y).toArray]++cb).size=([f x,f y]++caps).length:=by rw [Array.size_append,M8,a9]; rfl
   have c9:=Jbc (w:=W) (h8 x y) a5
   clear h8 hs a5 hH b2 q5 a9
   refine(c9 (fun j a v ha h2=>?_)).mono fun e w' h=>?_
   ·rcases Kq j 2 with hj | hj
    ·rw [M3 (by simpa using hj)] at ha
     rw [Array.getElem?_append_left (by simpa using hj)] at h2
     have:j=0∨j=1:=by omega
     rcases this with rfl | rfl
     ·simp at ha h2; subst ha h2; rw [hf x]; exact Y49
     ·simp at ha h2; subst ha h2; rw [hf y]; exact Y49
    ·rw [M2 (by simpa using hj)] at ha
     rw [Array.getElem?_append_right (by simpa using hj)] at h2
     exact(b8 (j - 2) a v (by simpa using ha) (by simpa using h2)).mono fun b' j' hs=>⟨(h4 b' j' hs).2,(h4 b' j' hs).1⟩
   ·obtain⟨v,rfl,hd,q,os',rfl⟩:=h
    have d0:=hd.inv_sc
    subst d0
    exact⟨rfl,q,os',rfl⟩
  have a1:=hs enc hk h1 cf hO g cb b 0 cap xs.toArray w eg hC hH a3 (by simpa using b7)
  rw [List.size_toArray] at a1
  rw [b3]
  refine a1.mono fun e w' h=>?_
  obtain⟨rfl,n,os,rfl⟩:=h
  -- what lies there now
  obtain⟨d',a6⟩:∃ d',d'=pdq (ltOf cf) xs.toArray 0 xs.length (Lib.bitLen xs.length) true true:=⟨_,rfl⟩
  have a7:d'.size=xs.toArray.size:=by
   have:=h7
   rw [Z2,← a6] at this
   simpa using this
  have d1:Z2 cf xs=d'.toList:=by rw [Z2,← a6]
  rw [← a6]
  have b5:=holdsK_sortWorldK enc k w b 0 n xs.toArray d' os a3 hH a7
  have h3:(sortWorldK enc k w b 0 n d' os).heap[b]? = some (.cells (putCells id 0 (flatK enc k d') cur) E (0,0)):=by
   unfold sortWorldK grow putRowK putRow mapBlock
   simp only [Sort.ahead]
   rw [Array.getElem?_append_left (by simpa using a3),Array.getElem?_modify,if_pos rfl,q3]
   rfl
  have b6:(putCells id 0 (flatK enc k d') cur).size=cur.size:=by simp [putCells]
  have a8:∀ j,j < xs.length*k→(sortWorldK enc k w b 0 n d' os).cell? ⟨b,j,none⟩=some (flatK enc k d')[j]! := by
   intro j hj
   have a2:j < (flatK enc k d').size:=by rw [size_flatK,a7]; simpa using hj
   have:=(b5 j a2).1
   rw [Nat.zero_add] at this
   exact this
  have f1:(sortWorldK enc k w b 0 n d' os).os=w.os:=rfl
  have f2:(sortWorldK enc k w b 0 n d' os).tape=w.tape:=rfl
  have f3:(sortWorldK enc k w b 0 n d' os).output=w.output∧w.drawn≤(sortWorldK enc k w b 0 n d' os).drawn:=⟨rfl,Nat.le_add_right _ _⟩
  have f4:w.heap.size≤(sortWorldK enc k w b 0 n d' os).heap.size:=by
   unfold sortWorldK
   rw [size_grow]
   simp only [putRowK,putRow,mapBlock,Array.size_modify,Sort.ahead]; omega
  have f5:∀ b',b' < w.heap.size→b≠b'→(sortWorldK enc k w b 0 n d' os).heap[b']? = w.heap[b']? := by
   intro b' h5 b9
   unfold sortWorldK grow putRowK putRow mapBlock
   simp only [Sort.ahead]
   rw [Array.getElem?_append_left (by simpa using h5),Array.getElem?_modify,if_neg b9]
  clear b5 hH hC h8
  generalize sortWorldK enc k w b 0 n d' os=W at h3 a8 f1 f2 f3 f4 f5
  obtain⟨st,sat⟩:=Qu (w':=W) (t:=E) (k:=k) (ver1:=ver) (xs':=(Z2 cf xs).map f) (ob':=β.at_ i) h9
   (.inr ⟨ver,_,hi,M1,fun _=>⟨by rw [Mc,Mc,h7],rfl,fun b' h5=>by
    rw [hb] at h5; cases h5
    rw [World.shape?,h3,World.shape?,q3]; simp only [b6]⟩⟩) f1 f2 f3 f4
   (fun b' h5 a4=>f5 b' h5 (fun e=>a4 (by rw [inL,hi]; rfl) (by rw [hb,e])))
   (.inr (.inl ⟨by rw [inL,hi]; rfl,rfl⟩))
  have c0:∀ j,j < xs.length*k→(putCells id 0 (flatK enc k d') cur)[j]? = some (flatK enc k d')[j]! := by
   intro j hj
   have:=a8 j hj
   simp only [World.cell?,h3] at this
   simpa using this
  have s2:=sat ⟨a0,.inr ⟨b,hb,_,h3,by rw [b6,q4,Mc,h7]; exact Nat.mul_le_mul_right _ q1,fun j u v hu h2=>by
   have hj:=(Kw hu).1
   rw [J0 a0,Mc,h7] at hj
   rw [c0 j hj] at h2
   have d2:=Ky h2
   subst d2
   have a2:j < (flatK enc k d').size:=by rw [size_flatK,a7]; simpa using hj
   rw [Jd0 hf hk,d1] at hu
   rw [M5,Array.getElem?_toList,Array.toArray_toList,Array.getElem?_eq_getElem a2,Option.map_some] at hu
   have d3:=Ky hu
   subst d3
   rw [getElem!_pos _ j a2]
   exact .sc⟩⟩
  exact⟨_,_,_,_,rfl,s2.locEq (h6 _ rfl),st.locEq (h6 _ rfl),.tup rfl (fun j u v hu=>by simp at hu),rfl,rfl⟩
set_option maxRecDepth 100000
open Go.RowKit Go.Shelf Go.Sort

open Classical in
noncomputable def Hcc {α:Type} [Inhabited α] (cmp:α→α→Option Int) (xs:List α):Option (List α):=
 if h:∃ cf:α→α→Int,(∀ x y,cmp x y=some (cf x y))∧SWO (ltOf cf)∧xs.length < 4611686018427387904 then some (Z2 h.choose xs) else none
theorem R84 {α:Type} [Inhabited α] {cmp:α→α→Option Int} {xs r:List α} (h:Hcc cmp xs=some r):∃ cf:α→α→Int,(∀ x y,cmp x y=some (cf x y))∧SWO (ltOf cf)∧xs.length < 4611686018427387904∧r=Z2 cf xs:=by
 unfold Hcc at h
 split at h
 ·next hh=>exact⟨hh.choose,hh.choose_spec.1,hh.choose_spec.2.1,hh.choose_spec.2.2,(Ky h).symm⟩
 ·cases h
theorem Qa5 {α:Type} [Inhabited α] {cmp:α→α→Option Int} (cf:α→α→Int) (hc:∀ x y,cmp x y=some (cf x y)) (hO:SWO (ltOf cf)) {xs:List α} (hl:xs.length < 4611686018427387904):Hcc cmp xs=some (Z2 cf xs):=by
 have hh:∃ cf:α→α→Int,(∀ x y,cmp x y=some (cf x y))∧SWO (ltOf cf)∧xs.length < 4611686018427387904:=⟨cf,hc,hO,hl⟩
 unfold Hcc
 rw [dif_pos hh]
 have:hh.choose=cf:=by
  funext x y
  have h1:=hh.choose_spec.1 x y
  rw [hc x y] at h1
  exact(Ky h1).symm
 rw [this]

theorem R3f {vs:List Value} (h:vs.all Value.oneCell'=true):∀ v∈vs,v.oneCell'=true:=List.all_eq_true.1 h

section ops
variable {P:Program} {o:Oper} {l:Fr} {L L'':Loc}
theorem Q78 {F:FuncId} {x y:Operand} {ts:Array TypeId} {k i ver E n:Nat} {g:FuncId} {caps:List AV} {α:Type} [Inhabited α] {f:α→AV} {cmp:α→α→Option Int} {xs r:List α} (enc:α→List Value) (ho:o.op=.call { callee:=.value (.func F),args:=#[x,y],argTypes:=ts })
  (hs:J8d P F k) (h0:SortNone P F) (hf:Flat f enc) (hk:∀ x,(enc x).length=k) (h1:∀ x,∀ v∈enc x,v.oneCell'=true) (hB:Hh P F=true) (h5:Hh P g=true)
  (hx:ev l x=.vec i ver k n) (hy:ev l y=.fn g caps) (hi:lk L i=some (.vec E k ver (xs.map f))) (hn:n=xs.length) (h3:Qn (fun _=>false) caps=true) (h:Hcc cmp xs=some r)
  (h4:∀ x y q,cmp x y=some q→Pure P g ([f x,f y]++caps) (·=I64 q)) (hL:(i,.vec E k ver (r.map f))::H47 L [(i,.vec E k ver (xs.map f))]=L''):Gz P o l L (Is (.tup []) L''):=by
 obtain⟨cf,hc,hO,hl,rfl⟩:=R84 h
 subst hn
 have h2:=R21 (P:=P) (F:=F) (k:=k) hs h0 enc hf hk h1 cf hO g h5 caps h3 (fun a b=>h4 a b _ (hc a b)) i ver E xs hl
 refine H37 (xs:=[x,y]) ho h2 hB ⟨.inl hx,?_,.inl hy,?_,trivial⟩ ⟨hi,trivial⟩ ?_ ?_ hL
 ·simp [AV.refs,inL,lk]
 ·exact Jx _ _ h3
 ·simp [closedIn,Je.refs]
 ·simp [Gee,inL,lk]
end ops
open Go.RowKit Go.Sort Go.Shelf

def R35 (x:Int):List Int→List Int
 | []=>[x]
 | y::r=>bif decide (x≤y) then x::y::r else y::R35 x r
def Ga4:List Int→List Int
 | []=>[]
 | x::r=>R35 x (Ga4 r)
theorem J37 (x:Int):∀ l,(R35 x l).Perm (x::l)
 | []=>List.Perm.refl _
 | y::r=>by
  rw [R35]
  cases decide (x≤y) with
  | true=>exact List.Perm.refl _
  | false=>exact(List.Perm.cons y (J37 x r)).trans (List.Perm.swap x y r)
theorem H0f:∀ l,(Ga4 l).Perm l
 | []=>List.Perm.refl _
 | x::r=>(J37 x _).trans ((H0f r).cons x)
theorem J6b {x:Int}:∀ {l:List Int},l.Pairwise (·≤·)→(R35 x l).Pairwise (·≤·)
 | [],_=>by simp [R35]
 | y::r,h=>by
  rw [R35]
  rw [List.pairwise_cons] at h
  cases hb:decide (x≤y) with
  | true=>
   have h0:=Ks hb
   rw [cond_true,List.pairwise_cons]
   refine⟨fun z hz=>?_,List.pairwise_cons.2 h⟩
   rcases Mg.1 hz with rfl | hz
   ·exact h0
   ·have:=h.1 z hz; omega
  | false=>
   have h0:=Kt hb
   rw [cond_false,List.pairwise_cons]
   refine⟨fun z hz=>?_,J6b h.2⟩
   rcases Mg.1 ((J37 x r).mem_iff.1 hz) with rfl | hz
   ·omega
   ·exact h.1 z hz
theorem H5f:∀ l,(Ga4 l).Pairwise (·≤·)
 | []=>List.Pairwise.nil
 | x::r=>J6b (H5f r)
theorem Qa6 (xs:List Int):(xs.mergeSort fun x y=>decide (x≤y))=Ga4 xs:=by
 have h1:=List.mergeSort_perm xs (fun x y=>decide (x≤y))
 have h2:(xs.mergeSort fun x y=>decide (x≤y)).Pairwise (fun a b:Int=>decide (a≤b)=true):=List.pairwise_mergeSort (le:=fun x y:Int=>decide (x≤y)) (fun a b c h g=>by simp at *; omega) (fun a b=>by simp; omega) xs
 refine List.Perm.eq_of_pairwise (le:=fun a b:Int=>decide (a≤b)=true) (fun a b _ _ h0 h3=>by simp at *; omega) h2 ((H5f xs).imp fun h=>Ku h) (h1.trans (H0f xs).symm)
theorem Q20 (xs:List Int):(Ga4 xs).length=xs.length:=(H0f xs).length_eq
def H86 (xs:List Int):Option (List Int):=bif decide (xs.length < 4611686018427387904) then some (Ga4 xs) else none
theorem R24 {xs r:List Int} (h:H86 xs=some r):xs.length < 4611686018427387904∧r=Ga4 xs:=by
 unfold H86 at h
 cases hb:decide (xs.length < 4611686018427387904) with
 | true=>rw [hb] at h; exact⟨Ks hb,(Ky h).symm⟩
 | false=>rw [hb] at h; cases h

def Je2 (P:Program) (F:FuncId):Prop:=
 ∀ (blk off cap:Nat) (zs:List Int) (w:World),Holds (Value.int .i64) w blk off zs.toArray→blk < w.heap.size→zs.length < 4611686018427387904 →
  Calls P F #[.slice (some ⟨blk,off,none⟩) zs.length cap] w fun e w'=>e=.returned (.tuple #[])∧∃ n os,w'=grow (putRow (Value.int .i64) (Sort.ahead w n) blk off (zs.mergeSort fun x y=>decide (x≤y)).toArray) os
def J41 (P:Program) (F:FuncId):Prop:=
 ∀ (p:Option Addr) (cap:Nat) (w:World),Calls P F #[.slice p 0 cap] w fun e w'=>e=.returned (.tuple #[])∧w'=w

theorem Q35 (xs:List Int):flat (xs.map I64)=xs.map I64:=by
 induction xs with
 | nil=>rfl
 | cons x r ih=>rw [List.map_cons,flat,ih]; rfl

theorem Qa7 {P:Program} {F:FuncId} (hs:Je2 P F) (h0:J41 P F) (i ver E:Nat) (xs:List Int) (a6:xs.length < 4611686018427387904) :
  Q2 P F [.vec i ver 1 xs.length] [(i,.vec E 1 ver (xs.map I64))] (fun r L'=>r=.tup []∧L'=[(i,.vec E 1 ver ((Ga4 xs).map I64))]):=by
 intro w β vs h4 hl hv
 have hi:lk [(i,Je.vec E 1 ver (xs.map I64))] i=some (.vec E 1 ver (xs.map I64)):=by simp [lk]
 have a9:vs.size=1:=hl
 obtain⟨v0,rfl⟩:∃ v0,vs=#[v0]:=by
  refine⟨vs[0],?_⟩
  apply Array.ext
  ·simp [a9]
  ·intro j b9 h7
   have:j=0:=by omega
   subst this; rfl
 have b0:=hv 0 _ v0 rfl rfl
 obtain⟨-,c0,b1⟩:=G37 h4 hi b0
 have h5:=Q20 xs
 have h8:∀ y∈(Ga4 xs).map I64,y.cells.length=1:=fun y hy=>by
  obtain⟨z,_,rfl⟩:=Me.1 hy
  rfl
 have h2:∀ L:Loc,L=[(i,Je.vec E 1 ver ((Ga4 xs).map I64))]→G98 ((i,Je.vec E 1 ver ((Ga4 xs).map I64))::[(i,Je.vec E 1 ver (xs.map I64))]) L:=fun L hL id=>by
  subst hL
  rw [Gd,Gd,Gd]
  by_cases e:i=id
  ·rw [if_pos e,if_pos e]
  ·rw [if_neg e,if_neg e,if_neg e]
 rcases b1 with ⟨rfl,b2,b3⟩ | ⟨b,cap,cur,rfl,hb,q1,q2,q3,q4,q5⟩
 ·refine(h0 none 0 w).mono fun e w' h=>?_
  obtain⟨rfl,rfl⟩:=h
  have hx:xs=[]:=by simpa using b2
  subst hx
  have a1:Ga4 ([]:List Int)=[]:=Kn (by simpa using h5)
  obtain⟨st,sat⟩:=Qu (w':=w') (t:=E) (k:=1) (ver1:=ver) (xs':=(Ga4 ([]:List Int)).map I64) (ob':=none) h4 (.inr ⟨ver,_,hi,M1,fun _=>⟨by simp [a1],b3.symm,fun _ _=>rfl⟩⟩)
   rfl rfl ⟨rfl,M1⟩ (M1) (fun b hb _=>rfl) (.inl rfl)
  have s2:=sat ⟨h8,.inl ⟨rfl,by simp [a1]⟩⟩
  exact⟨_,_,_,_,rfl,s2.locEq (h2 _ rfl),st.locEq (h2 _ rfl),.tup rfl (fun j u v hu=>by simp at hu),rfl,rfl⟩
 ·have a2:b < w.heap.size:=(Kk q3).1
  have a3:(xs.map I64).length=xs.length:=by simp
  rw [a3] at q1
  have hH:Holds (Value.int .i64) w b 0 xs.toArray:=by
   intro j hj
   have h7:j < xs.length:=by simpa using hj
   have h6:j < cur.size:=by rw [q4]; omega
   have hu:(flat (xs.map I64))[j]? = some (.sc (Value.int .i64 xs[j])):=by
    rw [Q35,M5,Kx h7]; rfl
   have hd:=q5 j _ cur[j] hu (by simp [h6])
   have he:cur[j]=Value.int .i64 xs[j]:=hd.inv_sc
   constructor
   ·simp [World.cell?,q3,h6,he,h7]
   ·simp [World.frozen?,q3]
  have a0:=hs b 0 cap xs w hH a2 a6
  rw [a3]
  refine a0.mono fun e w' h=>?_
  obtain⟨rfl,n,os,rfl⟩:=h
  rw [Qa6]
  obtain⟨d',h9⟩:∃ d':Array Int,d'=(Ga4 xs).toArray:=⟨_,rfl⟩
  have b4:d'.size=xs.length:=by rw [h9]; simp [Q20]
  have b5:Ga4 xs=d'.toList:=by rw [h9]
  rw [← h9]
  have h3:(grow (putRow (Value.int .i64) (Sort.ahead w n) b 0 d') os).heap[b]? = some (.cells (putCells (Value.int .i64) 0 d' cur) E (0,0)):=by
   unfold grow putRow mapBlock
   simp only [Sort.ahead]
   rw [Array.getElem?_append_left (by simpa using a2),Array.getElem?_modify,if_pos rfl,q3]
   rfl
  have a4:(putCells (Value.int .i64) 0 d' cur).size=cur.size:=by simp [putCells]
  have a7:∀ j,j < xs.length→(putCells (Value.int .i64) 0 d' cur)[j]? = some (Value.int .i64 d'[j]!):=by
   intro j hj
   have h6:j < cur.size:=by rw [q4]; omega
   simp [putCells,h6,b4,hj]
  have f1:(grow (putRow (Value.int .i64) (Sort.ahead w n) b 0 d') os).os=w.os:=rfl
  have f2:(grow (putRow (Value.int .i64) (Sort.ahead w n) b 0 d') os).tape=w.tape:=rfl
  have f3:(grow (putRow (Value.int .i64) (Sort.ahead w n) b 0 d') os).output=w.output∧w.drawn≤(grow (putRow (Value.int .i64) (Sort.ahead w n) b 0 d') os).drawn:=⟨rfl,Nat.le_add_right _ _⟩
  have f4:w.heap.size≤(grow (putRow (Value.int .i64) (Sort.ahead w n) b 0 d') os).heap.size:=by
   rw [size_grow]
   simp only [putRow,mapBlock,Array.size_modify,Sort.ahead]; omega
  have f5:∀ b',b' < w.heap.size→b≠b'→(grow (putRow (Value.int .i64) (Sort.ahead w n) b 0 d') os).heap[b']? = w.heap[b']? := by
   intro b' h1 a8
   unfold grow putRow mapBlock
   simp only [Sort.ahead]
   rw [Array.getElem?_append_left (by simpa using h1),Array.getElem?_modify,if_neg a8]
  clear hH
  generalize grow (putRow (Value.int .i64) (Sort.ahead w n) b 0 d') os=W at h3 f1 f2 f3 f4 f5
  obtain⟨st,sat⟩:=Qu (w':=W) (t:=E) (k:=1) (ver1:=ver) (xs':=(Ga4 xs).map I64) (ob':=β.at_ i) h4
   (.inr ⟨ver,_,hi,M1,fun _=>⟨by rw [Mc,Mc,h5],rfl,fun b' h1=>by
    rw [hb] at h1; cases h1
    rw [World.shape?,h3,World.shape?,q3]; simp only [a4]⟩⟩) f1 f2 f3 f4
   (fun b' h1 b6=>f5 b' h1 (fun e=>b6 (by rw [inL,hi]; rfl) (by rw [hb,e])))
   (.inr (.inl ⟨by rw [inL,hi]; rfl,rfl⟩))
  have s2:=sat ⟨h8,.inr ⟨b,hb,_,h3,by rw [a4,q4,Mc,h5]; omega,fun j u v hu a5=>by
   rw [Q35] at hu
   have hj:=(Kw hu).1
   rw [Mc,h5] at hj
   rw [a7 j hj] at a5
   have b7:=Ky a5
   subst b7
   rw [b5,M5,Array.getElem?_toList,Array.getElem?_eq_getElem (by omega),Option.map_some] at hu
   have b8:=Ky hu
   subst b8
   rw [getElem!_pos _ j (by omega)]
   exact .sc⟩⟩
  exact⟨_,_,_,_,rfl,s2.locEq (h2 _ rfl),st.locEq (h2 _ rfl),.tup rfl (fun j u v hu=>by simp at hu),rfl,rfl⟩

section ops
variable {P:Program} {o:Oper} {l:Fr} {L L'':Loc}
theorem Y2d {F:FuncId} {x:Operand} {ts:Array TypeId} {i ver E n:Nat} {xs r:List Int} (ho:o.op=.call { callee:=.value (.func F),args:=#[x],argTypes:=ts })
  (hs:Je2 P F) (h0:J41 P F) (hB:Hh P F=true)
  (hx:ev l x=.vec i ver 1 n) (hi:lk L i=some (.vec E 1 ver (xs.map I64))) (hn:n=xs.length) (h:H86 xs=some r)
  (hL:(i,.vec E 1 ver (r.map I64))::H47 L [(i,.vec E 1 ver (xs.map I64))]=L''):Gz P o l L (Is (.tup []) L''):=by
 obtain⟨hl,rfl⟩:=R24 h
 subst hn
 have h1:=Qa7 (P:=P) (F:=F) hs h0 i ver E xs hl
 refine H37 (xs:=[x]) ho h1 hB ⟨.inl hx,?_,trivial⟩ ⟨hi,trivial⟩ ?_ ?_ hL
 ·simp [AV.refs,inL,lk]
 ·simp [closedIn,Je.refs]
 ·simp [Gee,inL,lk]
end ops
open Go.RowKit Go.Sort Go.Shelf

def G69 {α:Type} (cf:α→α→Int) (xs:List α):Prop:=xs.Pairwise fun x y=>ltOf cf y x=false
open Classical in
noncomputable def H87 {α:Type} (cmp:α→α→Option Int) (xs:List α):Option (List α):=
 if h:∃ r,∃ cf:α→α→Int,(∀ x y,cmp x y=some (cf x y))∧SWO (ltOf cf)∧xs.length < 4611686018427387904∧r.Perm xs∧G69 cf r∧∀ r',r'.Perm xs→G69 cf r'→r'=r then some h.choose else none
theorem R25 {α:Type} {cmp:α→α→Option Int} {xs r:List α} (h:H87 cmp xs=some r):∃ cf:α→α→Int,(∀ x y,cmp x y=some (cf x y))∧SWO (ltOf cf)∧xs.length < 4611686018427387904∧r.Perm xs∧G69 cf r∧∀ r',r'.Perm xs→G69 cf r'→r'=r:=by
 unfold H87 at h
 split at h
 ·next hh=>cases h; exact hh.choose_spec
 ·cases h
theorem Q21 {α:Type} {cmp:α→α→Option Int} {xs r:List α} (cf:α→α→Int) (hc:∀ x y,cmp x y=some (cf x y)) (hO:SWO (ltOf cf)) (hl:xs.length < 4611686018427387904) (hp:r.Perm xs) (hs:G69 cf r) (hu:∀ r',r'.Perm xs→G69 cf r'→r'=r):H87 cmp xs=some r:=by
 have hh:∃ r,∃ cf:α→α→Int,(∀ x y,cmp x y=some (cf x y))∧SWO (ltOf cf)∧xs.length < 4611686018427387904∧r.Perm xs∧G69 cf r∧∀ r',r'.Perm xs→G69 cf r'→r'=r:=⟨r,cf,hc,hO,hl,hp,hs,hu⟩
 unfold H87
 rw [dif_pos hh]
 obtain⟨cf',h1,h2,h3,h4,h5,h6⟩:=hh.choose_spec
 have:cf'=cf:=by
  funext x y
  have:=h1 x y
  rw [hc x y] at this
  exact(Ky this).symm
 subst this
 rw [hu _ h4 h5]

def Je3 (P:Program) (F:FuncId):Prop:=
 ∀ {α:Type} [Inhabited α] (enc:α→Value),OneCell enc→∀ (cf:α→α→Int),SWO (ltOf cf)→∀ (g:Nat) (cb:Array Value) (blk off cap:Nat) (d:Array α) (w:World),
  (∀ args w,(callFunc g args).run P w=.ok (.enter g args) w)→CmpLays1 P g cb enc cf blk off d.size w→Holds enc w blk off d→blk < w.heap.size→d.size < 4611686018427387904 →
  Calls P F #[.slice (some ⟨blk,off,none⟩) d.size cap,.func (.func g) #[] cb] w fun e w'=>e=.returned (.tuple #[])∧∃ d' n os,PermIn 0 d.size d d'∧SortedIn (ltOf cf) 0 d.size d'∧w'=sortWorld enc w blk off n d' os

theorem Rd1 {α:Type} [Inhabited α] {d d':Array α} (h:PermIn 0 d.size d d'):d'.toList.Perm d.toList∧d'.size=d.size:=by
 obtain⟨h1,h2,h3⟩:=h
 have e1:d'.extract 0 d.size=d':=by rw [Array.extract_eq_self_of_le (by omega)]
 have e2:d.extract 0 d.size=d:=by rw [Array.extract_eq_self_of_le (by omega)]
 rw [e1,e2] at h3
 exact⟨h3,h1⟩
theorem R20 {α:Type} [Inhabited α] {cf:α→α→Int} {d:Array α} (h:SortedIn (ltOf cf) 0 d.size d):G69 cf d.toList:=by
 refine List.pairwise_iff_getElem.2 fun i j hi hj h0=>?_
 have:=h i j (Nat.zero_le _) h0 (by simpa using hj)
 rw [getElem!_pos d j (by simpa using hj),getElem!_pos d i (by simpa using hi)] at this
 simpa using this

theorem Hea {α:Type} {f:α→AV} (hf:∀ x,(f x).cells=[f x]):∀ xs:List α,flat (xs.map f)=xs.map f
 | []=>rfl
 | x::r=>by rw [List.map_cons,flat,hf,Hea hf r]; rfl

set_option maxHeartbeats 1000000 in
theorem Qa8 {P:Program} {F:FuncId} (hs:Je3 P F) (h0:SortNone P F) {α:Type} {f:α→AV} (hf:∀ x,(f x).cells=[f x]) (c0:∀ x,(f x).isCell=true) (c1:∃ x0 v0,v0.oneCell'=true∧∀ (w:World) (S:Nat→Nat→Prop),D w S (f x0) v0) (cf:α→α→Int) (hO:SWO (ltOf cf)) (g:FuncId) (hB:Hh P g=true) (caps:List AV) (c2:Qn (fun _=>false) caps=true)
  (b3:∀ x y,Pure P g ([f x,f y]++caps) (·=I64 (cf x y))) (i ver E:Nat) (xs r:List α) (b4:xs.length < 4611686018427387904) (hu:∀ r',r'.Perm xs→G69 cf r'→r'=r) :
  Q2 P F [.vec i ver 1 xs.length,.fn g caps] [(i,.vec E 1 ver (xs.map f))] (fun q L'=>q=.tup []∧L'=[(i,.vec E 1 ver (r.map f))]):=by
 intro w β vs a0 hl hv
 have hi:lk [(i,Je.vec E 1 ver (xs.map f))] i=some (.vec E 1 ver (xs.map f)):=by simp [lk]
 have c3:vs.size=2:=hl
 obtain⟨v0,v1,rfl⟩:∃ v0 v1,vs=#[v0,v1]:=by
  refine⟨vs[0],vs[1],?_⟩
  apply Array.ext
  ·simp [c3]
  ·intro j e0 a3
   have:j=0∨j=1:=by omega
   rcases this with rfl | rfl <;> rfl
 have a4:=hv 0 _ v0 rfl rfl
 have c4:=hv 1 _ v1 rfl rfl
 obtain⟨cb,rfl,c5,c6⟩:=c4.inv_fn
 have b5:∀ (j:Nat) u v,caps[j]? = some u→cb[j]? = some v→D w (Hv w β [(i,Je.vec E 1 ver (xs.map f))]) u v:=fun j u v hu h4=>(c6 j u v hu h4).toD (Yt c2 u (Kz hu))
 obtain⟨-,e2,c7⟩:=G37 a0 hi a4
 have a5:∀ y∈r.map f,y.cells.length=1:=fun y hy=>by
  obtain⟨z,_,rfl⟩:=Me.1 hy
  rw [hf]; rfl
 have h8:∀ L:Loc,L=[(i,Je.vec E 1 ver (r.map f))]→G98 ((i,Je.vec E 1 ver (r.map f))::[(i,Je.vec E 1 ver (xs.map f))]) L:=fun L hL id=>by
  subst hL
  rw [Gd,Gd,Gd]
  by_cases e:i=id
  ·rw [if_pos e,if_pos e]
  ·rw [if_neg e,if_neg e,if_neg e]
 rcases c7 with ⟨rfl,c8,a8⟩ | ⟨b,cap,cur,rfl,hb,q1,q2,q3,q4,q5⟩
 ·refine(h0 g cb w).mono fun e w' h=>?_
  obtain⟨rfl,n,os,rfl⟩:=h
  have hx:xs=[]:=by simpa using c8
  subst hx
  have hr:r=[]:=(hu [] (List.Perm.refl _) List.Pairwise.nil).symm
  subst hr
  obtain⟨st,sat⟩:=Qu (w':=grow (w.drewN n) os) (t:=E) (k:=1) (ver1:=ver) (xs':=([]:List α).map f) (ob':=none) a0 (.inr ⟨ver,_,hi,M1,fun _=>⟨rfl,a8.symm,fun b hb=>by rw [a8] at hb; cases hb⟩⟩)
   rfl rfl ⟨rfl,by simp [grow,World.drewN]⟩ (by simp [grow,World.drewN]) (fun b hb _=>by simp [grow,World.drewN,Array.getElem?_append_left hb]) (.inl rfl)
  have s2:=sat ⟨a5,.inl ⟨rfl,rfl⟩⟩
  exact⟨_,_,_,_,rfl,s2.locEq (h8 _ rfl),st.locEq (h8 _ rfl),.tup rfl (fun j u v hu=>by simp at hu),rfl,rfl⟩
 ·have a9:b < w.heap.size:=(Kk q3).1
  have b0:(xs.map f).length=xs.length:=by simp
  rw [b0] at q1
  rw [Hea hf] at q5
  have h5:∀ j,j < xs.length→j < cur.size:=fun j hj=>by rw [q4]; omega
  have hD:∀ (j:Nat) (hj:j < xs.length),D w (Hv w β [(i,Je.vec E 1 ver (xs.map f))]) (f xs[j]) (cur[j]'(h5 j hj)):=fun j hj=>q5 j _ _ (by simp [hj]) (by simp [h5 j hj])
  -- the values, with what they are
  let A:Type:={ p:Value×α // p.1.oneCell'=true∧D w (Hv w β [(i,Je.vec E 1 ver (xs.map f))]) (f p.2) p.1 }
  have mk:∀ (j:Nat) (hj:j < xs.length),(cur[j]'(h5 j hj)).oneCell'=true:=fun j hj=>V.cell (w:=w) (β:=β) (L:=[(i,Je.vec E 1 ver (xs.map f))]) (.data (hD j hj)) (c0 _)
  obtain⟨d,hd⟩:∃ d:Array A,d=Array.ofFn (n:=xs.length) fun j=>⟨(cur[j.1]'(h5 j.1 j.2),xs[j.1]),mk j.1 j.2,hD j.1 j.2⟩:=⟨_,rfl⟩
  have h6:d.size=xs.length:=by rw [hd]; simp
  have c9:d.toList.map (fun p:A=>p.1.2)=xs:=by
   apply List.ext_getElem
   ·simp [h6]
   ·intro j h1 h2
    simp [hd]
  obtain⟨x0,v0,a4,d0⟩:=c1
  have:Inhabited A:=⟨⟨(v0,x0),a4,d0 _ _⟩⟩
  let enc:A→Value:=fun p=>p.1.1
  have b6:OneCell enc:=fun p=>p.2.1
  let cfA:A→A→Int:=fun p q=>cf p.1.2 q.1.2
  have d1:SWO (ltOf cfA):=⟨fun x=>hO.irrefl x.1.2,fun x y z=>hO.trans x.1.2 y.1.2 z.1.2,fun x y z=>hO.ntrans x.1.2 y.1.2 z.1.2⟩
  have hH:Holds enc w b 0 d:=by
   intro j hj
   have a3:j < xs.length:=by rw [← h6]; exact hj
   have e1:enc d[j]! = cur[j]'(h5 j a3):=by rw [getElem!_pos d j hj]; simp [hd,enc]
   constructor
   ·rw [e1]; simp [World.cell?,q3,h5 j a3]
   ·simp [World.frozen?,q3]
  have eg:∀ args w,(callFunc g args).run P w=.ok (.enter g args) w:=fun args w=>Hh.out hB args w
  have hC:CmpLays1 P g cb enc cfA b 0 d.size w:=by
   intro m os dk e3 x y
   have h3:∀ b' j,Hv w β [(i,Je.vec E 1 ver (xs.map f))] b' j→Qy (sortWorld enc w b 0 m dk os) b' j=Qy w b' j∧b' < (sortWorld enc w b 0 m dk os).heap.size:=by
    intro b' j hs
    have a6:b'≠b:=fun e=>by
     have:=hs.kept i _ hi (by rw [e]; exact hb)
     exact this
    constructor
    ·refine Jh (w:=w) ?_
     unfold sortWorld
     simp only [grow]
     rw [Array.getElem?_append_left (by simp only [putRow,mapBlock,Array.size_modify,Sort.ahead]; exact hs.lt)]
     simp only [putRow,mapBlock,Sort.ahead,Array.getElem?_modify,if_neg (Ne.symm a6)]
    ·unfold sortWorld
     simp only [size_grow,putRow,mapBlock,Array.size_modify,Sort.ahead]
     have:=hs.lt; omega
   generalize sortWorld enc w b 0 m dk os=W at h3 ⊢
   have b7:(#[enc x,enc y]++cb).size=([f x.1.2,f y.1.2]++caps).length:=by rw [Array.size_append,M8,c5]; rfl
   have d2:=Jbc (w:=W) (b3 x.1.2 y.1.2) b7
   refine(d2 (fun j a v ha h4=>?_)).mono fun e w' h=>?_
   ·rcases Kq j 2 with hj | hj
    ·rw [M3 (by simpa using hj)] at ha
     rw [Array.getElem?_append_left (by simpa using hj)] at h4
     have:j=0∨j=1:=by omega
     rcases this with rfl | rfl
     ·simp at ha h4; subst ha h4; exact x.2.2.mono fun b' j' hs=>⟨(h3 b' j' hs).2,(h3 b' j' hs).1⟩
     ·simp at ha h4; subst ha h4; exact y.2.2.mono fun b' j' hs=>⟨(h3 b' j' hs).2,(h3 b' j' hs).1⟩
    ·rw [M2 (by simpa using hj)] at ha
     rw [Array.getElem?_append_right (by simpa using hj)] at h4
     exact(b5 (j - 2) a v (by simpa using ha) (by simpa using h4)).mono fun b' j' hs=>⟨(h3 b' j' hs).2,(h3 b' j' hs).1⟩
   ·obtain⟨v,rfl,hd,q,os',rfl⟩:=h
    have d3:=hd.inv_sc
    subst d3
    exact⟨rfl,q,os',rfl⟩
  have a2:=hs enc b6 cfA d1 g cb b 0 cap d w eg hC hH a9 (by rw [h6]; exact b4)
  rw [h6] at a2
  rw [b0]
  refine a2.mono fun e w' h=>?_
  obtain⟨rfl,d',n,os,hp,d4,rfl⟩:=h
  have d5:PermIn 0 d.size d d':=by rw [h6]; exact hp
  obtain⟨d6,d7⟩:=Rd1 d5
  have a1:d'.size=xs.length:=by rw [d7,h6]
  have hr:d'.toList.map (fun p:A=>p.1.2)=r:=by
   refine hu _ ?_ ?_
   ·have:=d6.map (fun p:A=>p.1.2)
    rwa [c9] at this
   ·have:=R20 (cf:=cfA) (d:=d') (by rw [a1]; exact d4)
    unfold G69 at this ⊢
    exact List.pairwise_map.2 this
  have a7:r.length=xs.length:=by rw [← hr]; simp [a1]
  have h9:(sortWorld enc w b 0 n d' os).heap[b]? = some (.cells (putCells enc 0 d' cur) E (0,0)):=by
   unfold sortWorld grow putRow mapBlock
   simp only [Sort.ahead]
   rw [Array.getElem?_append_left (by simpa using a9),Array.getElem?_modify,if_pos rfl,q3]
   rfl
  have b1:(putCells enc 0 d' cur).size=cur.size:=by simp [putCells]
  have b8:∀ j,j < xs.length→(putCells enc 0 d' cur)[j]? = some (enc d'[j]!):=by
   intro j hj
   have:=h5 j hj
   simp [putCells,this,a1,hj]
  have f1:(sortWorld enc w b 0 n d' os).os=w.os:=rfl
  have f2:(sortWorld enc w b 0 n d' os).tape=w.tape:=rfl
  have f3:(sortWorld enc w b 0 n d' os).output=w.output∧w.drawn≤(sortWorld enc w b 0 n d' os).drawn:=⟨rfl,Nat.le_add_right _ _⟩
  have f4:w.heap.size≤(sortWorld enc w b 0 n d' os).heap.size:=by
   unfold sortWorld
   rw [size_grow]
   simp only [putRow,mapBlock,Array.size_modify,Sort.ahead]; omega
  have f5:∀ b',b' < w.heap.size→b≠b'→(sortWorld enc w b 0 n d' os).heap[b']? = w.heap[b']? := by
   intro b' h7 b9
   unfold sortWorld grow putRow mapBlock
   simp only [Sort.ahead]
   rw [Array.getElem?_append_left (by simpa using h7),Array.getElem?_modify,if_neg b9]
  generalize sortWorld enc w b 0 n d' os=W at h9 f1 f2 f3 f4 f5
  obtain⟨st,sat⟩:=Qu (w':=W) (t:=E) (k:=1) (ver1:=ver) (xs':=r.map f) (ob':=β.at_ i) a0
   (.inr ⟨ver,_,hi,M1,fun _=>⟨by rw [Mc,Mc,a7],rfl,fun b' h7=>by
    rw [hb] at h7; cases h7
    rw [World.shape?,h9,World.shape?,q3]; simp only [b1]⟩⟩) f1 f2 f3 f4
   (fun b' h7 a6=>f5 b' h7 (fun e=>a6 (by rw [inL,hi]; rfl) (by rw [hb,e])))
   (.inr (.inl ⟨by rw [inL,hi]; rfl,rfl⟩))
  have s2:=sat ⟨a5,.inr ⟨b,hb,_,h9,by rw [b1,q4,Mc,a7]; omega,fun j u v hu h4=>by
   rw [Hea hf] at hu
   have hj:=(Kw hu).1
   rw [Mc,a7] at hj
   rw [b8 j hj] at h4
   have d8:=Ky h4
   subst d8
   have b2:j < d'.size:=by omega
   rw [← hr,M5,M5,Array.getElem?_toList,Array.getElem?_eq_getElem b2,Option.map_some,Option.map_some] at hu
   have d9:=Ky hu
   subst d9
   rw [getElem!_pos d' j b2]
   exact(d'[j]).2.2.mono fun b' j' hs=>st.stab b' j' hs⟩⟩
  exact⟨_,_,_,_,rfl,s2.locEq (h8 _ rfl),st.locEq (h8 _ rfl),.tup rfl (fun j u v hu=>by simp at hu),rfl,rfl⟩

section ops
variable {P:Program} {o:Oper} {l:Fr} {L L'':Loc}
theorem Y2e {F:FuncId} {x y:Operand} {ts:Array TypeId} {i ver E n:Nat} {g:FuncId} {caps:List AV} {α:Type} {f:α→AV} {cmp:α→α→Option Int} {xs r:List α} (ho:o.op=.call { callee:=.value (.func F),args:=#[x,y],argTypes:=ts })
  (hs:Je3 P F) (h0:SortNone P F) (hf:∀ x,(f x).cells=[f x]) (h4:∀ x,(f x).isCell=true) (h5:∃ x0 v0,v0.oneCell'=true∧∀ (w:World) (S:Nat→Nat→Prop),D w S (f x0) v0) (hB:Hh P F=true) (h6:Hh P g=true)
  (hx:ev l x=.vec i ver 1 n) (hy:ev l y=.fn g caps) (hi:lk L i=some (.vec E 1 ver (xs.map f))) (hn:n=xs.length) (h2:Qn (fun _=>false) caps=true) (h:H87 cmp xs=some r)
  (h3:∀ x y q,cmp x y=some q→Pure P g ([f x,f y]++caps) (·=I64 q)) (hL:(i,.vec E 1 ver (r.map f))::H47 L [(i,.vec E 1 ver (xs.map f))]=L''):Gz P o l L (Is (.tup []) L''):=by
 obtain⟨cf,hc,hO,hl,hp,h7,hu⟩:=R25 h
 subst hn
 have h1:=Qa8 (P:=P) (F:=F) hs h0 hf h4 h5 cf hO g h6 caps h2 (fun a b=>h3 a b _ (hc a b)) i ver E xs r hl hu
 refine H37 (xs:=[x,y]) ho h1 hB ⟨.inl hx,?_,.inl hy,?_,trivial⟩ ⟨hi,trivial⟩ ?_ ?_ hL
 ·simp [AV.refs,inL,lk]
 ·exact Jx _ _ h2
 ·simp [closedIn,Je.refs]
 ·simp [Gee,inL,lk]
theorem Rd7 {α:Type} (k:Nat) (g:α→AV):∃ (x0:List α) (v0:Value),v0.oneCell'=true∧∀ (w:World) (S:Nat→Nat→Prop),D w S (AV.list k (x0.map g)) v0:=⟨[],.slice none 0 0,rfl,fun _ _=>.nil (Nat.zero_le _)⟩
end ops
end Go.Proofs.YtibhpogonkdiaaaGreat
