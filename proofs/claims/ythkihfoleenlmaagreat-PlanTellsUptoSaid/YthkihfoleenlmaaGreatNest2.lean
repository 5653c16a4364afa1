/-
 More steps: Slices that begin as an empty literal and are appended to; Is a slice nil: Appending to a part from the front of a slice of the call's A slice of slices of the call's own,whose last slice still g Drawn orders whose last operation,behind all the others,is g The typed steps of slices of slices whose last slice grows.
-/
import Derived.Test.YthkihfoleenlmaaGreatRangeF
set_option linter.unusedSimpArgs false
namespace Go.Proofs.YthkihfoleenlmaaGreat
open Go.RowKit

theorem Ry.vecCell {N:Cfg} {w0 w:World} {β0 β:H4} {L0 L:Loc} {a:Act} {l:Fr} (hs:Ry N w0 β0 L0 a w β l L) (i j id E k:Nat) {t:TypeId} {cs cs':List AV} (hi:lk L i=some (.box t cs)) (hid:lk L id=none) (hj:cs[j]? = some (.sc (.slice none 0 0)))
  (h2:cs.set j (.vec id 0 k 0)=cs'):∃ J',Ry N w0 β0 L0 a w J' l ((i,.box t cs')::(id,.vec E k 0 [])::L):=by
 obtain⟨st,sat⟩:=aK (w':=w) (t:=E) (k:=k) (ver1:=0) (xs':=[]) (ob':=none) hs.sat (.inl hid) rfl rfl ⟨rfl,Pf⟩ (Pf) (fun _ _ _=>rfl) (.inl rfl)
 have h1:Ry N w0 β0 L0 a w (upP β id none) l ((id,.vec E k 0 [])::L):=⟨sat ⟨by simp,.inl ⟨rfl,rfl⟩⟩,hs.step.trans st,hs.frame.step st,hs.size,hs.base,hs.defers.step st⟩
 have h3:id≠i:=fun e=>by subst e; rw [hi] at hid; cases hid
 refine⟨_,h1.redescribe (i:=i) (t:=t) (cs:=cs) (by rw [Gm,if_neg h3]; exact hi) (by rw [← h2]; simp) fun vs q u v h0 h5 hu hv=>?_⟩
 rw [← h2] at hu
 by_cases e:j=q
 .subst e
  have h4:j < cs.length:=(Pa hj).1
  simp [List.getElem?_set,h4] at hu
  subst hu
  have:=h0 j _ v hj hv
  rw [this.inv_sc]
  exact .vec ⟨E,0,[],(by rw [Gm,if_pos rfl]:lk ((id,Jn.vec E k 0 [])::L) id=_),Pf,fun _=>⟨rfl,.inl ⟨rfl,rfl,by rw [show (upP β id none).at_ id=none by simp [upP]]⟩⟩⟩ rfl
 .rw [List.getElem?_set_ne e] at hu
  exact h0 q u v hu hv
theorem G39 {P:Program} {N:Cfg} {ops:Array Oper} {rest:List Oper} {Q:Post} {l:Fr} {L:Loc} (i j id E k:Nat) {t:TypeId} {cs cs':List AV} (hi:lk L i=some (.box t cs)) (hid:lk L id=none) (hj:cs[j]? = some (.sc (.slice none 0 0)))
  (h0:cs.set j (.vec id 0 k 0)=cs') (hk:JL P N ops rest Q l ((i,.box t cs')::(id,.vec E k 0 [])::L)):JL P N ops rest Q l L:=
 fun n w0 β0 L0 a w β hs=>by
  obtain⟨J',h⟩:=hs.vecCell i j id E k hi hid hj h0
  exact hk n w0 β0 L0 a w J' h

theorem J55 {P:Program} {o:Oper} {l:Fr} {L:Loc} {u:AV} {x y:Operand} {T i:Nat} {t:TypeId} (hT:Rc P T 0=true) (ho:o.op=.store T x y) (hu:ev l y=u) (hx:ev l x=.ptr i 0) (hi:lk L i=some (.box t []))
  (hc:u.flatOk=true) (hk:u.cells=[]):H2 P o l L (Is .junk ((i,.box t [])::L)):=by
 subst hu
 intro a w β K Q h0 hf hK
 have h1:=hf.ev x
 rw [hx] at h1
 obtain⟨b,hb,h4⟩:=h1.inv_ptr
 obtain⟨old,h2,h5,h8⟩:=wU h0 hi hb
 obtain⟨c1,c2,c3⟩:=(hf.ev y).cells hc
 rw [hk] at c1
 have hr:=mH (P:=P) (off:=0) hT c1 c3 h2 (by omega)
 unfold Oper.wp
 have h6:(execOp a.eval o).run P w=.ok .skip (w.setRow b (old.toList.take 0++(a.eval y).cells.toList++old.toList.drop (0+0)).toArray):=by
  simp [execOp,ho,h4,hr]
 rw [h6]
 have h3:old.size=0:=by simpa using h5
 have h7:(a.eval y).cells.size=0:=by simpa using c1
 refine hK _ _ _ _ β ⟨rfl,rfl⟩ (h0.set hi hb h2 _ ?_ ?_) (Step.set h0 hi hb _) .junk
 .simp [h7,h3]
 .intro j u v hu hv
  simp at hu

theorem Rb.ver {P:Program} {f:FuncId} {args:List AV} {i t k n:Nat} {xs:List AV} (h:Rb P f args [] (fun u L'=>∃ p:Nat,u=.vec i p k n/\L'=[(i,.vec t k p xs)])) (q:Nat):Rb P f args [] (fun u L'=>u=.vec i q k n/\L'=[(i,.vec t k q xs)]):=by
 intro w β vs h6 hl hv
 refine(h w β vs h6 hl hv).mono fun e w' hr=>?_
 obtain⟨v,r,J',L',rfl,hs,st,h8,p,rfl,rfl⟩:=hr
 have h4:∀ id,(lk [(i,Jn.vec t k p xs)] id).isSome=(lk [(i,Jn.vec t k q xs)] id).isSome:=fun id=>by
  rw [Gm,Gm]; split <;> rfl
 have h5:∀ b j,Ji w' J' [(i,Jn.vec t k p xs)] b j→Ji w' J' [(i,Jn.vec t k q xs)] b j:=fun b j h=>⟨h.lt,h.seen,fun id o ho hb=>by
  rw [Gm] at ho
  by_cases e:i=id
  .subst e
   rw [if_pos rfl] at ho; cases ho
   exact(show False from h.kept i (.vec t k p xs) (by rw [Gm,if_pos rfl]) hb).elim
  .rw [if_neg e] at ho; cases ho⟩
 refine⟨v,_,J',_,rfl,⟨hs.hid,fun id b h1=>hs.bnd id b (by rw [h4]; exact h1),fun id b j h1=>hs.apart id b j (by rw [h4]; exact h1),fun id id' b h1 h2=>hs.inj id id' b (by rw [h4]; exact h1) (by rw [h4]; exact h2),fun id o ho=>?_⟩,
  ⟨st.os,st.tape,st.output,st.size,st.hid,fun b j h=>⟨h5 b j (st.stab b j h).1,(st.stab b j h).2⟩,fun b hb hf=>⟨(st.far b hb hf).1,fun id hid=>(st.far b hb hf).2 id (by rw [h4]; exact hid)⟩,fun id t cs h=>by simp [lk] at h,fun id t cs h=>by simp [lk] at h,fun id t n cs h=>by simp [lk] at h,fun id t k ver xs h=>by simp [lk] at h,fun id t k ver xs h=>by simp [lk] at h⟩,?_,rfl,rfl⟩
 .rw [Gm] at ho
  by_cases e:i=id
  .subst e
   rw [if_pos rfl] at ho; cases ho
   have h0:=hs.obj i _ (by rw [Gm,if_pos rfl])
   refine⟨h0.1,h0.2.imp_right ?_⟩
   rintro⟨b,hb,vs,a1,a2,a3⟩
   exact⟨b,hb,vs,a1,a2,fun j u v hu hv=>(a3 j u v hu hv).mono fun b i hs=>⟨h5 b i hs,rfl⟩⟩
  .rw [if_neg e] at ho; cases ho
 .cases h8 with
  | data h=>cases h
  | vec hp h7=>
   obtain⟨t',ver',xs',h1,_,h3⟩:=hp
   rw [Gm,if_pos rfl] at h1; cases h1
   exact .vec ⟨t,q,xs,by rw [Gm,if_pos rfl],Pf,fun _=>h3 rfl⟩ h7
theorem Rb.fresh0 {P:Program} {f:FuncId} {args:List AV} {i E k n:Nat} {xs:List AV} (h:Rb P f args [] (fun av L'=>∃ p,av=.vec i p k n/\L'=[(i,.vec E k p xs)])):Rb P f args [] (fun av L'=>av=.vec i 0 k n/\L'=[(i,.vec E k 0 xs)]):=h.ver 0

def jE (l:Fr):List Operand→List AV→Prop
 | [],[]=>True
 | x::r,u::s=>((ev l x).plain=u\/∃ k,u=.list k []/\ev l x=.sc (.slice none 0 0))/\u.isData=true/\jE l r s
 | _,_=>False
theorem jE.length {l:Fr}:∀ {xs:List Operand} {us:List AV},jE l xs us→xs.length=us.length
 | [],[],_=>rfl
 | _::_,_::_,h=>by simp [jE.length h.2.2]
 | [],_::_,h=>h.elim
 | _::_,[],h=>h.elim
theorem jE.get {l:Fr}:∀ {xs:List Operand} {us:List AV},jE l xs us→∀ {j:Nat} {x:Operand} {u:AV},xs[j]? = some x→us[j]? = some u→((ev l x).plain=u\/∃ k,u=.list k []/\ev l x=.sc (.slice none 0 0))/\u.isData=true
 | x::r,u::s,h,j,x',u',hx,hu=>by
  cases j with
  | zero=>simp at hx hu; subst hx; subst hu; exact⟨h.1,h.2.1⟩
  | succ j=>simp at hx hu; exact h.2.2.get hx hu
 | [],[],_,j,_,_,hx,_=>by simp at hx
 | [],_::_,h,_,_,_,_,_=>h.elim
 | _::_,[],h,_,_,_,_,_=>h.elim
theorem G6f {P:Program} {o:Oper} {l:Fr} {L:Loc} {T E k n:Nat} {parts:List (Nat×Operand)} {xs:List AV} (ho:o.op=.buildSlice T n parts.toArray) (hd:jE l (parts.map (·.2)) xs) (hT:sliceB P T E k=true) (hz:Yf P E k=true)
  (h5:parts.map (·.1)=List.range n) (hc:uQ k xs=true) (hn:Nat.ble (n*k) 16777216=true) (a4:Nat.blt 0 k=true):H2 P o l L (Is (.list k xs) L):=by
 intro a w β K Q h3 hf hK
 have a3:=hd.length
 have a5:n=xs.length:=by
  have:=congrArg List.length h5
  simp only [Pr,List.length_range] at this a3
  omega
 subst a5
 have a0:=rG hc
 have a6:∀ x∈xs,x.cells.length=k:=fun x hx=>(a0 x hx).1
 have h7:∀ x∈xs,x.isData=true:=by
  intro x hx
  obtain⟨j,hj,e⟩:=List.mem_iff_getElem.1 hx
  have a7:j < (parts.map (·.2)).length:=by omega
  exact e ▸ (hd.get (j:=j) (x:=(parts.map (·.2))[j]) (u:=xs[j]) (Pb a7) (Pb hj)).2
 have h8:=wS (k:=k) xs 0 (List.replicate (xs.length*k) .junk) (by simp) a0
 obtain⟨inf,z,hi,a8,b2⟩:=Yf.out hz
 let zs:Array Value:=if xs.length*k=0 then #[] else z.cells
 obtain⟨vs',e1,e2,e3⟩:=rF (w:=w) (β:=β) (L:=L) (qs:=parts.map fun p=>(p.1,a.eval p.2)) (vs:=(Array.range (xs.length*k)).map (zs[· % zs.size]!)) h8 (by
   have:=congrArg List.length h5
   simp only [Pr,List.length_range] at this
   simp [this]) (fun j p q hp hq=>by
   simp only [Pj,Option.map_eq_some_iff] at hq
   obtain⟨y,hy,rfl⟩:=hq
   rw [List.getElem?_zip_eq_some] at hp
   obtain⟨a9,b0⟩:=hp
   have h4:(parts.map (·.1))[j]? = (List.range xs.length)[j]? := by rw [h5]
   simp only [Pj,hy,Option.map_some] at h4
   rw [List.range_eq_range',a9] at h4
   have:=(hd.get (j:=j) (x:=y.2) (u:=p.2) (by rw [Pj,hy]; rfl) b0)
   refine⟨(Pc h4).symm,?_⟩
   rcases this.1 with h1 | ⟨k0,h1,h2⟩
   .have hv:=(hf.ev y.2).plain
    rw [h1] at hv
    exact hv
   .have hv:=hf.ev y.2
    rw [h2] at hv
    rw [h1,hv.inv_sc]
    exact .data (.nil (Nat.zero_le _))) (by simp) (fun j u v hu _=>by
   have:=List.eq_of_mem_replicate (Pd hu)
   subst this; exact .junk)
 have h9:(List.take (0*k) (List.replicate (xs.length*k) AV.junk))++flat xs=flat xs:=by simp
 rw [h9] at e2 e3
 have hr:(execOp a.eval o).run P w=.ok (.value (.slice (some ⟨w.heap.size,0,none⟩) xs.length xs.length)) (w.alloc (.cells vs' E)):=by
  have a1:=Qn (sliceB.out hT).2 w
  have b1:xs.length*k≤16777216:=by simpa using hn
  have a2:¬ (xs.length*k > 2 ^ 24):=by
   have:(2:Nat) ^ 24=16777216:=by decide
   omega
  have hp:(parts.toArray.map fun(x:Nat×Operand)=>(x.1,a.eval x.2)).toList=parts.map fun p=>(p.1,a.eval p.2):=by simp
  by_cases h0:xs.length*k=0
  .have h6:zs=#[]:=by simp only [zs,if_pos h0]
   rw [h6] at e1
   simp only [execOp,ho,Instr.buildSlice,underlying,(sliceB.out hT).1,run_program,Sem.run_bind,Result.andThen_ok,a1,a2,if_false,Sem.run_pure,if_pos h0,hp,e1,newRow,run_newObj]
   rfl
  .have h6:zs=z.cells:=by simp only [zs,if_neg h0]
   rw [h6] at e1
   simp only [execOp,ho,Instr.buildSlice,underlying,(sliceB.out hT).1,run_program,Sem.run_bind,Result.andThen_ok,a1,a2,if_false,Sem.run_pure,if_neg h0,zeroValue,typeInfo,hi,a8,hp,e1,newRow,run_newObj]
   rfl
 unfold Oper.wp
 rw [hr]
 exact hK _ _ _ _ β ⟨rfl,rfl⟩ (h3.new _) (Step.new h3 _) (.data (D.newRow h3 a6 (by
  have h1:xs.length*k≤16777216:=by simpa using hn
  have h2:0 < k:=by simpa [Nat.blt_eq] using a4
  have:xs.length*1≤xs.length*k:=Nat.mul_le_mul_left _ h2
  simp only [maxLen]; omega) e2 (fun j u v hu hv=>(e3 j u v hu hv).toD (xH h7 u (Pd hu)))))

/-! ### A variable of a map's type is set anew: the new map takes the old one's name -/
theorem iP.conv {w:World} {β:H4} {L L':Loc} {ob:Option Nat} {o o':Jn} (hd:sH L L') (hc:jD (fun i=>(lk L' i).isSome) o o') (h0:iP w β L ob o):iP w β L' ob o':=by
 cases hc with
 | same=>exact h0
 | map=>
  obtain⟨b,h1,h2⟩:=h0
  exact⟨b,h1,h2.mono rfl fun h=>h.mono fun b i hs=>⟨hd.stab hs,rfl⟩⟩
 | vec=>
  obtain⟨h6,h0⟩:=h0
  refine⟨h6,?_⟩
  rcases h0 with h0 | ⟨b,h1,vs,h2,h3,h4⟩
  .exact .inl h0
  .exact .inr ⟨b,h1,vs,h2,h3,fun j u v hu hv=>(h4 j u v hu hv).mono fun b i hs=>⟨hd.stab hs,rfl⟩⟩
 | pin=>
  obtain⟨h1,vs,h2,h3,h4⟩:=h0
  exact⟨h1,vs,h2,h3,fun j u v hu hv=>(h4 j u v hu hv).mono fun b i hs=>⟨hd.stab hs,rfl⟩⟩
 | iter hm=>
  obtain⟨b,h1,bm,h2,h4⟩:=h0
  exact⟨b,h1,bm,h2.drop hd hm,h4⟩
 | box hl hc=>
  obtain⟨b,h1,vs,h2,h3,h4⟩:=h0
  refine⟨b,h1,vs,h2,h3.trans hl,fun j u' v h5 hv=>?_⟩
  rename_i cs cs'
  have hj:j < cs.length:=by
   rcases P4 j cs'.length with h | h
   .omega
   .simp [List.getElem?_eq_none h] at h5
  exact(h4 j cs[j] v (by simp [hj]) hv).conv hd (hc j _ _ (by simp [hj]) h5)


theorem Hb7 {w:World} {β:H4} {L:Loc} {i:Nat} (E k:Nat) (vs:Array Value) (cap:Nat) (h7:cap≤maxLen) (h8:(w.alloc (.cells vs E)).ownsRow 0 E k (.slice (some ⟨w.heap.size,0,none⟩) 0 cap) 0 []) (h0:Sat w β L) (hi:lk L i=none) :
  Step w β L (w.alloc (.cells vs E)) (upP β i (some w.heap.size)) ((i,.spare E k 0 0)::L)/\Sat (w.alloc (.cells vs E)) (upP β i (some w.heap.size)) ((i,.spare E k 0 0)::L) /\
  V (w.alloc (.cells vs E)) (upP β i (some w.heap.size)) ((i,.spare E k 0 0)::L) (.own i 0 k []) (.slice (some ⟨w.heap.size,0,none⟩) 0 cap):=by
 have a0:∀ id,(lk L id).isSome=true→i≠id:=fun id h e=>by subst e; rw [hi] at h; cases h
 have h5:∀ b,b < w.heap.size→(w.alloc (.cells vs E)).heap[b]? = w.heap[b]? := fun b hb=>Qs w _ hb
 have h6:w.heap.size < (w.alloc (.cells vs E)).heap.size:=by simp
 have st:Step w β L (w.alloc (.cells vs E)) (upP β i (some w.heap.size)) ((i,.spare E k 0 0)::L):=by
  refine⟨rfl,rfl,⟨rfl,Pf⟩,Nat.le_of_lt h6,fun _ _ _=>Iff.rfl,fun b j hs=>⟨⟨Nat.lt_trans hs.lt h6,hs.seen,fun id ob hid hb=>?_⟩,Q1 (w:=w) (h5 b hs.lt)⟩,fun b hb h9=>⟨h5 b hb,fun id hid e=>?_⟩,fun id t cs hid=>?_,fun id t cs hid=>?_,fun id t n cs hid=>?_,fun id t k' ver xs hid=>?_,fun id t k' ver hw hid=>?_⟩
  .rw [Gm] at hid
   by_cases e:i=id
   .subst e; simp only [upP,if_true] at hb; cases hb; exact absurd hs.lt (Nat.lt_irrefl _)
   .rw [if_neg e] at hid; simp only [upP,if_neg (Ne.symm e)] at hb; exact hs.kept id ob hid hb
  .rw [Gm] at hid
   by_cases e':i=id
   .subst e'; simp only [upP,if_true] at e; cases e; exact absurd hb (Nat.lt_irrefl _)
   .rw [if_neg e'] at hid; simp only [upP,if_neg (Ne.symm e')] at e; exact h9 id hid e
  all_goals
   have e:=a0 id (by rw [hid]; rfl)
  .exact⟨by simp [upP,Ne.symm e],cs,by rw [Gm,if_neg e]; exact hid⟩
  .exact⟨by simp [upP,Ne.symm e],cs,by rw [Gm,if_neg e]; exact hid⟩
  .exact⟨by simp [upP,Ne.symm e],n,cs,by rw [Gm,if_neg e]; exact hid⟩
  .exact⟨ver,xs,by rw [Gm,if_neg e]; exact hid,Pf,fun _=>⟨rfl,by simp [upP,Ne.symm e],fun b hb=>cN (h5 b (h0.bnd id b (by rw [hid]; rfl) hb))⟩⟩
  .exact⟨ver,hw,by rw [Gm,if_neg e]; exact hid,Pf,fun _=>⟨rfl,by simp [upP,Ne.symm e],fun b hb=>h5 b (h0.bnd id b (by rw [hid]; rfl) hb)⟩⟩
 refine⟨st,⟨fun b j h=>Nat.lt_trans (h0.hid b j h) h6,fun id b hid hb=>?_,fun id b j hid hb hh=>?_,fun id id' b h1 h2 h3 h4=>?_,fun id ob hid=>?_⟩,?_⟩
 .rw [Gm] at hid
  by_cases e:i=id
  .subst e; simp only [upP,if_true] at hb; cases hb; exact h6
  .rw [if_neg e] at hid; simp only [upP,if_neg (Ne.symm e)] at hb; exact Nat.lt_trans (h0.bnd id b hid hb) h6
 .rw [Gm] at hid
  by_cases e:i=id
  .subst e; simp only [upP,if_true] at hb; cases hb; exact absurd (h0.hid _ _ hh) (Nat.lt_irrefl _)
  .rw [if_neg e] at hid; simp only [upP,if_neg (Ne.symm e)] at hb; exact h0.apart id b j hid hb hh
 .by_cases e:i=id
  .by_cases e':i=id'
   .rw [← e,e']
   .subst e
    rw [Gm,if_neg e'] at h2
    simp only [upP,if_true] at h3
    simp only [upP,if_neg (Ne.symm e')] at h4
    cases h3
    exact absurd (h0.bnd id' _ h2 h4) (Nat.lt_irrefl _)
  .by_cases e':i=id'
   .subst e'
    rw [Gm,if_neg e] at h1
    simp only [upP,if_true] at h4
    simp only [upP,if_neg (Ne.symm e)] at h3
    cases h4
    exact absurd (h0.bnd id _ h1 h3) (Nat.lt_irrefl _)
   .rw [Gm,if_neg e] at h1
    rw [Gm,if_neg e'] at h2
    simp only [upP,if_neg (Ne.symm e)] at h3
    simp only [upP,if_neg (Ne.symm e')] at h4
    exact h0.inj id id' b h1 h2 h3 h4
 .rw [Gm] at hid
  by_cases e:i=id
  .subst e; simp at hid; subst hid
   exact .inr ⟨w.heap.size,by simp [upP],vs,heap_alloc_new w _,by simp⟩
  .rw [if_neg e] at hid
   simp only [upP,if_neg (Ne.symm e)]
   exact(h0.obj id ob hid).step st (fun b hb=>h5 b (h0.bnd id b (by rw [hid]; rfl) hb))
 .exact .own (.nil h7) ⟨E,0,0,by rw [Gm,if_pos rfl],Pf,fun _=>⟨rfl,by simp [Value.ownBlock,upP],[],h8,fun j u hu=>by simp [flat] at hu⟩⟩

def GZ (P:Program) (T f off:Nat):Bool:=
 match P.underlying T with
 | some (.struct fs)=>match fs[f]? with
  | some fld=>fld.offset==off&&Jc P fld.type
  | none=>false
 | _=>false
theorem GZ.out {P:Program} {T f off:Nat} (h:GZ P T f off=true):∃ fs fld,P.underlying T=some (.struct fs)/\fs[f]? = some fld/\fld.offset=off/\Jc P fld.type=true:=by
 unfold GZ at h
 split at h
 .rename_i fs h1
  split at h
  .rename_i fld h2
   simp only [Pp,beq_iff_eq] at h
   exact⟨fs,fld,h1,h2,h.1,h.2⟩
  .cases h
 .cases h

def G92 (P:Program) (T n k:Nat):Bool:=
 match P.underlying T with
 | some (.array m e)=>m==n&&Rc P e k
 | _=>false
theorem G92.out {P:Program} {T n k:Nat} (h:G92 P T n k=true):∃ e,P.underlying T=some (.array n e)/\Rc P e k=true:=by
 unfold G92 at h
 split at h
 .rename_i m e h1
  simp only [Pp,beq_iff_eq] at h
  obtain⟨rfl,h2⟩:=h
  exact⟨_,h1,h2⟩
 .cases h
section ops
variable {P:Program} {N:Cfg} {o:Oper} {l:Fr} {L L':Loc} {u:AV} {J:Type}

theorem YA (w:World) (base:Nat) (t ty e:TypeId) (i:TypeInfo) (size:Nat) (ht:P.underlying t=some (.slice e)) (hi:P.info? e=some i)
  (v:Value) (n:Nat) (xs:List Value) (h0:w.ownsRow base e size v n xs) (ao:Option Addr) (c:Nat) :
  (Builtin.append_ #[t,t] ty #[v,.slice ao 0 c]).run P w=.ok v w:=by
 rcases h0.2 with ⟨rfl,rfl⟩ | ⟨g,cap,cur,rfl,_,_,h1,_⟩
 .cases ao <;> simp [Builtin.append_,run_underlying ht,sizeOf,typeInfo,hi,Builtin.lenOf,Builtin.firstCells,loadCells,loadCellsFrom]
 .cases ao <;> simp [Builtin.append_,run_underlying ht,sizeOf,typeInfo,hi,Builtin.lenOf,Builtin.firstCells,h1,storeCells,loadCells,loadCellsFrom]

theorem J16 {s x:Operand} {T E k by_ i ver n:Nat} {kx:Nat} {xs:List AV} (ho:o.op=.call { callee:=.builtin .append,args:=#[s,x],argTypes:=#[T,T] }) (hs:ev l s=.own i ver k xs) (hi:lk L i=some (.spare E k ver n)) (hx:Jz (ev l x)=some (kx,[]))
  (hT:sliceB P T E k=true) (hE:Qo P E k by_=true):H2 P o l L (Is (.own i ver k xs) L):=
 Hm fun a w β h7 hf=>by
  have hv:=hf.ev s
  rw [hs] at hv
  have h4:=(hf.ev x).Jz hx
  obtain⟨ao,cap,h5,_⟩:=h4.len
  obtain⟨inf,z,e1,e2,e3,e4,e5,e6⟩:=Qo.out hE
  have h6:=hv
  cases hv with
  | data h=>cases h
  | own hd hp=>
   obtain⟨t,ver',hw,h1,h2,h3⟩:=hp
   rw [hi] at h1
   cases h1
   obtain⟨rfl,h8,vals,h0,h9⟩:=h3 rfl
   have hr:=YA (P:=P) w 0 T o.type E inf k (sliceB.out hT).1 e1 (a.eval s) _ _ h0 ao cap
   exact⟨a.eval s,by simp [execOp,ho,resolve,invoke,builtin,h5,hr],h6⟩

theorem oO {L:Loc} {s x:Operand} {T E k by_ i kx:Nat} {f:J→AV} {xs ys:List J} (ho:o.op=.call { callee:=.builtin .append,args:=#[s,x],argTypes:=#[T,T] }) (hs:ev l s=OW i k f xs) (hi:lk L i=some (.spare E k xs.length xs.length)) (hx:Jz (ev l x)=some (kx,ys.map f))
  (hT:sliceB P T E k=true) (hE:Qo P E k by_=true) (hb:decide ((xs.length+ys.length)*by_≤140737488355328/\xs.length+ys.length≤maxLen)=true) (h2:∀ y,(f y).flatOk=true) (hk:kx=k\/ys=[]) :
  H2 P o l L (Is (OW i k f (xs++ys)) ((i,.spare E k (xs++ys).length (xs++ys).length)::L)):=by
 have h3:=P6 hb
 by_cases h0:ys=[]
 .subst h0
  have h:=J16 (P:=P) (o:=o) (by_:=by_) ho hs hi (by simpa using hx) hT hE
  rw [List.append_nil]
  intro a w β K Q h4 hf hK
  refine h a w β K Q h4 hf (fun u L1 v w1 J1 hu h5 st1 h6=>?_)
  obtain⟨rfl,rfl⟩:=hu
  have h1:kH L1 ((i,.spare E k xs.length xs.length)::L1):=fun j=>by
   rw [Gm]
   by_cases e:i=j
   .subst e; rw [if_pos rfl,hi]
   .rw [if_neg e]
  exact hK _ _ v w1 J1 ⟨rfl,rfl⟩ (h5.locEq h1) (st1.locEq h1) (h6.locEq h1)
 .have h:=JW (ver1:=(xs++ys).length) (xs:=xs.map f) (ys:=ys.map f) ho hs hi hx hT hE (by simpa using h3.1) (by simpa using h3.2) (fun y hy=>by
   obtain⟨z,_,rfl⟩:=Pt.1 hy
   exact h2 z) (hk.imp id (fun e=>by rw [e]; rfl)) (by
   have:=List.length_pos_iff.2 h0
   rw [Pn]; omega)
  simpa only [OW,List.map_append,Pn,Pr] using h
def H30 (P:Program) (T n:Nat):Bool:=
 match P.underlying T with
 | some (.array m e)=>m==n&&(Jc P e&&Rc P e 1)
 | _=>false
theorem H30.out {P:Program} {T n:Nat} (h:H30 P T n=true):∃ e,P.underlying T=some (.array n e)/\Jc P e=true/\Rc P e 1=true:=by
 unfold H30 at h
 split at h
 .rename_i m e h1
  simp only [Pp,beq_iff_eq] at h
  obtain⟨rfl,h2,h3⟩:=h
  exact⟨_,h1,h2,h3⟩
 .cases h
theorem J0f {x y:Operand} {T i ver m t k kk fo:Nat} {f:J→AV} {xs:List J} {e z:J} {u:AV} (hT:Rc P T kk=true) (ho:o.op=.store T x y) (hu:ev l y=u) (hx:ev l x=.vptr i ver m fo) (hi:lk L i=some (.vec t k ver (xs.map f))) (he:xs[m]? = some e)
  (hc:u.flatOk=true) (hd:u.isData=true) (h1:xT fo u.cells (f e).cells=some (f z).cells) (hk:u.cells.length=kk) (h0:Nat.blt 0 kk=true) :
  H2 P o l L (Is .junk ((i,.vec t k ver ((xs.set m z).map f))::L)):=by
 have h:=H41 (P:=P) (e:=f e) (z:=f z) (ds:=(f z).cells) hT ho hu hx hi (J97 he) hc hd h1 rfl hk h0
 rw [← List.map_set] at h
 exact h
end ops

section
variable {P:Program} {o:Oper} {l:Fr} {L:Loc}
end

section
variable {P:Program} {o:Oper} {l:Fr} {L:Loc}
end
set_option linter.unusedVariables false

section moves
variable {w w':World} {β:H4} {L:Loc} {i t k ver1 hw1:Nat}
end moves

section ops
variable {P:Program} {N:Cfg} {Q:Post} {o:Oper} {ops:Array Oper} {rest:List Oper} {l:Fr} {L:Loc}

end ops

section freeze
variable {P:Program} {N:Cfg} {Q:Post} {l l':Fr} {L L':Loc}

end freeze

/-! ### Typed -/
section typed
variable {J:Type}
end typed
set_option linter.unusedVariables false

section sound
variable {P:Program} {N:Cfg} {ops:List Oper} {ws los his:List Nat} {Ls:List Loc} {l0:Fr} {val:Nat→AV}

theorem J4c {id:Nat} {Q:Post} {l:Fr} {L L':Loc} (r:List Oper) (last:Oper) (ws los his:List Nat) (Ls:List Loc) (hm:P.follows .mixedOrders=true) (chk:nP ops ws los his=true) (h0:Ls[0]? = some L) (h1:Ls[ws.length]? = some L')
  (hr:ops=r++[last]) (h3:(List.range r.length).all (fun j=>((cS ops).getD r.length []).contains j)=true) (h5:ws.contains r.length=false) (h6:last.dst=none) (h:dQ P N ops.toArray ws los his Ls 0 r l (fun l'=>JL P N ops.toArray [last] Q l' L')) (h7:ops.all dR=true:=by rfl):JC P N (.region id ops.toArray true) Q l L:=by
 have h4:ops.length=r.length+1:=by rw [hr]; simp
 have h2:ops[r.length]? = some last:=by rw [hr]; simp
 obtain⟨val,pc,hK⟩:=HV ops ws los his Ls l _ r.length (by omega) (fun j o d hj ho hd=>by
  have h9:=(Pa ho).1
  have e:j=r.length:=by omega
  rw [e,h2] at ho
  cases ho
  rw [h6] at hd; cases hd) r 0 (fun _=>.junk) (fun j hj=>by rw [hr]; simp [Ph hj]) (by simp) (fun j o hj=>by omega) h
 intro n w0 β0 L0 a w β hs
 refine wpIn_region_any hm ?_
 rw [List.size_toArray]
 refine G8d (ro:=N.ro) (n:=n) (fun i o hi=>List.all_eq_true.1 h7 o (Pd hi)) chk pc (.inr ⟨h4,last,h2,h3,h5,fun a w β L'' hL'' h8=>by rw [h1] at hL''; cases hL''; exact hK n w0 β0 L0 a w β h8⟩) ops.length (Array.replicate ops.length false) a _ ?_ (by simp only [Array.getD_eq_getD_getElem?,Array.getElem?_replicate]; split <;> rfl) ⟨by simp,⟨fun i o e hi=>?_⟩,β,L,?_,?_⟩
 .exact Nat.le_trans (P3 _ _) (by simp)
 .simp only [Array.getD_eq_getD_getElem?,Array.getElem?_replicate] at hi
  split at hi <;> simp at hi
 .have:cnt (fun i=>(Array.replicate ops.length false).getD i false) ws=0:=by
   unfold cnt
   have hf:∀ i,(Array.replicate ops.length false).getD i false=false:=fun i=>by
    simp only [Array.getD_eq_getD_getElem?,Array.getElem?_replicate]; split <;> rfl
   simp [hf]
  rw [this]; exact h0
 .have this:Y9 ops l val (fun i=>(Array.replicate ops.length false).getD i false) ops.length=l:=by
   have hf:(fun i=>(Array.replicate ops.length false).getD i false)=fun _=>false:=by
    funext i
    simp only [Array.getD_eq_getD_getElem?,Array.getElem?_replicate]; split <;> rfl
   rw [hf]
   have:∀ n,Y9 ops l val (fun _=>false) n=l:=by
    intro n
    induction n with
    | zero=>rfl
    | succ n ih=>
     cases hd:(ops[n]?).bind (·.dst) with
     | none=>simp only [Y9,hd]; exact ih
     | some d=>simp only [Y9,hd,Bool.false_eq_true,if_false]; exact ih
   exact this _
  rw [this]; exact hs.drew
theorem J4b {id:Nat} {Q:Post} {l:Fr} {L L':Loc} (q:Nat) (last:Oper) (ws los his:List Nat) (Ls:List Loc) (hm:P.follows .mixedOrders=true) (chk:nP ops ws los his=true) (h0:Ls[0]? = some L) (h1:Ls[ws.length]? = some L') (hq:ops.drop q=[last]) (h3:(List.range q).all (fun j=>((cS ops).getD q []).contains j)=true) (h4:ws.contains q=false) (h5:last.dst=none)
  (h:dQ P N ops.toArray ws los his Ls 0 (ops.take q) l (fun l'=>JL P N ops.toArray [last] Q l' L')) (h6:ops.all dR=true:=by rfl):JC P N (.region id ops.toArray true) Q l L:=by
 have h2:(ops.take q).length=q:=by
  have:=congrArg List.length hq
  rw [List.length_drop] at this
  rw [List.length_take]
  simp at this; omega
 have hr:ops=ops.take q++[last]:=by rw [← hq,List.take_append_drop]
 exact J4c (ops.take q) last ws los his Ls hm chk h0 h1 hr (by rw [h2]; exact h3) (by rw [h2]; exact h4) h5 h h6
end sound
set_option linter.unusedVariables false

section typed
variable {P:Program} {N:Cfg} {Q:Post} {o:Oper} {ops:Array Oper} {rest:List Oper} {l:Fr} {L:Loc} {J:Type}

end typed
end Go.Proofs.YthkihfoleenlmaaGreat
