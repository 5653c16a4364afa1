/-
 Slices that are lent as local objects,with what lies behind them: made,cut,read,lent to calls,written; results of calls that nobody else can write; a new slice put in another's place.
-/
import Derived.Test.YtecjdioomlhhiaaGreatIns
namespace Go.Proofs.YtecjdioomlhhiaaGreat
open Go.RowKit
set_option linter.unusedVariables false

mutual
theorem J8f:∀ {u:AV},u.noRef=true→u.isData=true
 | .junk,_=>rfl
 | .sc _,_=>rfl
 | .agg cs,h=>by
  show G06 (fun _=>false) cs=true
  exact Hb0 (by simpa [AV.noRef] using h)
 | .tup cs,h=>by
  show G06 (fun _=>false) cs=true
  exact Hb0 (by simpa [AV.noRef] using h)
 | .list _ _,_=>rfl
 | .lst _ _ _,_=>rfl
 | .dptr _,_=>rfl
theorem Hb0:∀ {cs:List AV},AV.noRef.noRefL cs=true→G06 (fun _=>false) cs=true
 | [],_=>rfl
 | x::r,h=>by
  simp only [AV.noRef.noRefL,Bool.and_eq_true] at h
  simp only [G06,Bool.and_eq_true]
  exact⟨J8f h.1,Hb0 h.2⟩
end

section vals
variable {w:World} {β:H5} {L:Loc}
theorem V.vsl_lst {α:Type} {f:α→AV} {i ver k t:Nat} {e:Ln α} {v:Value} (hsat:Sat w β L) (hi:lk L i=some (.vec t k ver ((e.1++e.2).map f))) (hpos:Nat.blt 0 k=true) (hv:V w β L (.vsl i ver k 0 e.1.length) v):D w (fun b _=>b < w.heap.size) (LT k f e) v:=by
 have hk0:0 < k:=by simpa [Nat.blt_eq] using hpos
 obtain⟨_,hn,_⟩:=hv.inv_vsl hi
 obtain⟨o1,o2⟩:=hsat.obj i _ hi
 rcases hv.inv_vsl0 hi with ⟨rfl,e2,e3⟩ | ⟨b,cap,rfl,e2,e3,e4,e5⟩
 ·have hxs:(e.1++e.2).map f=[]:=by
   rcases o2 with ⟨_,o2⟩ | ⟨b',o2,_⟩
   ·exact o2
   ·rw [show β i=β.at_ i from rfl,e3] at o2; cases o2
  have h2:=List.map_eq_nil_iff.1 hxs
  obtain⟨h3,h4⟩:=List.append_eq_nil_iff.1 h2
  show D w _ (.lst k (e.1.map f) (e.2.map f)) _
  rw [h3,h4]
  exact .lnil (Nat.zero_le _)
 ·rcases o2 with ⟨o2,_⟩ | ⟨b',o2,vs,o3,o4,o5⟩
  ·rw [show β i=β.at_ i from rfl,e2] at o2; cases o2
  ·rw [show β i=β.at_ i from rfl,e2] at o2; cases o2
   have hs:vs.size=cap*k:=by simpa [World.shape?,o3] using e5
   have hcap:((e.1++e.2).map f).length≤cap:=by
    rw [hs] at o4
    exact Nat.le_of_mul_le_mul_right o4 hk0
   have hma:e.1.map f++e.2.map f=(e.1++e.2).map f:=List.map_append.symm
   have hl1:(e.1.map f).length=e.1.length:=List.length_map ..
   show D w _ (.lst k (e.1.map f) (e.2.map f)) _
   rw [← hl1]
   have hlt:∀ j,j < (flat ((e.1++e.2).map f)).length→j < vs.size:=fun j hj=>by
    rw [Jd o1] at hj
    omega
   refine .lst (fun j=>vs.getD j undef) ?_ e4 ?_ (fun j hj=>⟨(Array.getElem?_eq_some_iff.1 o3).1,?_⟩) (fun j u hu=>?_)
   ·rw [← List.length_append,hma]; exact hcap
   ·rw [hma]; exact o1
   ·rw [hma] at hj
    have:=hlt j hj
    simp [World.cell?,o3,this]
   ·rw [hma] at hu
    have hj:=(List.getElem?_eq_some_iff.1 hu).1
    have:=hlt j hj
    exact(o5 j u _ hu (by simp [this])).mono fun b i hs=>⟨hs.lt,rfl⟩
theorem V.vsl_list {α:Type} {f:α→AV} {i ver k t:Nat} {e:Ln α} {v:Value} (hsat:Sat w β L) (hi:lk L i=some (.vec t k ver ((e.1++e.2).map f))) (hpos:Nat.blt 0 k=true) (hv:V w β L (.vsl i ver k 0 e.1.length) v):D w (fun b _=>b < w.heap.size) (LS k f e.1) v:=
 (hv.vsl_lst hsat hi hpos).lst_list
theorem V.vsl_vec {i ver k t:Nat} {xs:List AV} {v:Value} (hi:lk L i=some (.vec t k ver xs)) (hv:V w β L (.vsl i ver k 0 xs.length) v):V w β L (.vec i ver k xs.length) v:=by
 have hc:=hv.inv_vsl0 hi
 refine .vec ⟨t,ver,xs,hi,Nat.le_refl _,fun _=>⟨rfl,hc⟩⟩ ?_
 rcases hc with ⟨e,_⟩ | ⟨b,cap,e,_⟩ <;> rw [e] <;> rfl
end vals

section calls
variable {P:Program} {o:Oper} {l:Fr} {L:Loc} {u:AV}
inductive Q1b (L:Loc):AV→AV→Prop
 | data {u u':AV} (h:u.plain=u') (hd:u'.isData=true):Q1b L u u'
 | vsl {α:Type} {f:α→AV} {i ver k t:Nat} {e:Ln α} (hi:lk L i=some (.vec t k ver ((e.1++e.2).map f))) (hpos:Nat.blt 0 k=true):Q1b L (.vsl i ver k 0 e.1.length) (LS k f e.1)
 | vlt {α:Type} {f:α→AV} {i ver k t:Nat} {e:Ln α} (hi:lk L i=some (.vec t k ver ((e.1++e.2).map f))) (hpos:Nat.blt 0 k=true):Q1b L (.vsl i ver k 0 e.1.length) (LT k f e)
theorem Q1b.D {w:World} {β:H5} {u u':AV} (hsat:Sat w β L) (h:Q1b L u u') {v:Value} (hv:V w β L u v):D w (fun b _=>b < w.heap.size) u' v:=by
 cases h with
 | data h hd=>
  subst h
  exact(hv.plain.toD hd).mono fun b i hs=>⟨hs.lt,rfl⟩
 | vsl hi hpos=>exact hv.vsl_list hsat hi hpos
 | vlt hi hpos=>exact hv.vsl_lst hsat hi hpos
def Ge0 (l:Fr) (L:Loc):List Operand→List AV→Prop
 | [],[]=>True
 | x::r,u::s=>Q1b L (ev l x) u∧Ge0 l L r s
 | _,_=>False
theorem Ge0.length {l:Fr} {L:Loc}:∀ {xs:List Operand} {us:List AV},Ge0 l L xs us→xs.length=us.length
 | [],[],_=>rfl
 | _::r,_::s,h=>by simp [Ge0.length h.2]
theorem Ge0.get {l:Fr} {L:Loc}:∀ {xs:List Operand} {us:List AV},Ge0 l L xs us→∀ {j:Nat} {x:Operand} {u:AV},xs[j]? = some x→us[j]? = some u→Q1b L (ev l x) u
 | [],[],_,j,x,u,h,_=>by simp at h
 | x::r,u::s,h,0,_,_,hx,hu=>by simp at hx hu; subst hx hu; exact h.1
 | x::r,u::s,h,j+1,_,_,hx,hu=>by simp at hx hu; exact Ge0.get h.2 hx hu
theorem Hf2 {f:FuncId} {xs:List Operand} {args:List AV} {ts:Array TypeId} (ho:o.op=.call { callee:=.value (.func f),args:=xs.toArray,argTypes:=ts }) (hc:Pure P f args (·=u)) (hB:H7 P f=true) (ha:Ge0 l L xs args) (hu:u.noRef=true):H1 P o l L (Is u L):=by
 intro a w β K Q hsat hf hK
 have hr:(execOp a.eval o).run P w=.ok (.enter f (xs.toArray.map a.eval)) w:=by
  simp [execOp,ho,resolve,Act.eval,Deferred.ofValue,invoke,H7.out hB]
 unfold Oper.wp
 rw [hr]
 show Calls P f _ w _
 refine(Q5b hc hsat (vs:=xs.toArray.map a.eval) (by simp [ha.length]) (fun j u v hu hv=>?_) (fun r hr=>by rw [hr]; exact hu)).mono fun e w' h=>?_
 ·simp only [Array.getElem?_map,List.getElem?_toArray,Option.map_eq_some_iff] at hv
  obtain⟨x,hx,rfl⟩:=hv
  exact(ha.get hx hu).D hsat (hf.ev x)
 ·obtain⟨v,r,rfl,h1,h2,h3,rfl⟩:=h
  exact hK _ L v w' β ⟨rfl,rfl⟩ h1 h2 h3

theorem R3d {f:FuncId} {args:List AV} {i E k n:Nat} {xs es:List AV} (hc:Qb P f args [] (fun av L'=>∃ p,av=.tup (.vec i p k n::es)∧L'=[(i,.vec E k p xs)])) {w:World} {β:H5} (hsat:Sat w β L) {vs:Array Value} (hl:vs.size=args.length)
  (hv:∀ (j:Nat) u v,args[j]? = some u→vs[j]? = some v→D w (fun b _=>b < w.heap.size) u v) (hx:∀ u∈flat xs,u.noRef=true) (he:AV.noRef.noRefL es=true) :
  Calls P f vs w fun e w'=>∃ v,e=.returned v∧Sat w' β L∧Step w β L w' β L∧V w' β L (.tup (.list k xs::es)) v:=by
 have hmono:∀ b i:Nat,b < w.heap.size→Jy w ⟨fun _=>none,fun _ _=>False⟩ [] b i:=fun b i hs=>⟨hs,fun h=>h,fun id o h=>by simp [lk] at h⟩
 refine(hc w ⟨fun _=>none,fun _ _=>False⟩ vs ⟨fun b i h=>h.elim,fun id b h=>by simp [lk] at h,fun id b j h=>by simp [lk] at h,fun id id' b h=>by simp [lk] at h,fun id o h=>by simp [lk] at h⟩ hl
  (fun j u v hu hv'=>.data ((hv j u v hu hv').mono fun b i hs=>⟨hmono b i hs,rfl⟩))).mono fun e w' h=>?_
 obtain⟨v,r,β',L',he',hsat',hst,hvr,p,rfl,rfl⟩:=h
 have far:∀ b,b < w.heap.size→w'.heap[b]? = w.heap[b]? := fun b hb=>(hst.far b hb (fun id h=>by simp [lk] at h)).1
 have stab:∀ b i,Jy w β L b i→Jy w' β L b i:=fun b i hs=>⟨Nat.lt_of_lt_of_le hs.lt hst.size,hs.seen,hs.kept⟩
 have step:Step w β L w' β L:=⟨hst.os,hst.tape,hst.output,hst.size,fun _ _ _=>Iff.rfl,fun b i hs=>⟨stab b i hs,World.cell?_of_block (w:=w) (far b hs.lt)⟩,fun b hb hf=>⟨far b hb,hf⟩,
  fun _ _ cs h=>⟨rfl,cs,h⟩,fun _ _ cs h=>⟨rfl,cs,h⟩,fun _ _ n cs h=>⟨rfl,n,cs,h⟩,fun id _ _ ver xs h=>⟨ver,xs,h,Nat.le_refl _,fun _=>⟨rfl,rfl,fun b hb=>G40 (far b (hsat.bnd id b (by rw [h]; rfl) hb))⟩⟩,fun id _ _ ver hw h=>⟨ver,hw,h,Nat.le_refl _,fun _=>⟨rfl,rfl,fun b hb=>far b (hsat.bnd id b (by rw [h]; rfl) hb)⟩⟩⟩
 have hi:lk [(i,Jg.vec E k p xs)] i=some (.vec E k p xs):=by rw [Gr,if_pos rfl]
 refine⟨v,he',⟨fun b i h=>Nat.lt_of_lt_of_le (hsat.hid b i h) hst.size,fun id b h1 h2=>Nat.lt_of_lt_of_le (hsat.bnd id b h1 h2) hst.size,hsat.apart,hsat.inj,fun id o h=>(hsat.obj id o h).step step (fun b hb=>far b (hsat.bnd id b (by rw [h]; rfl) hb))⟩,step,?_⟩
 obtain⟨us,rfl,hul,hall⟩:=hvr.inv_tup
 refine .tup (by simpa using hul) fun j u v hu hv=>?_
 cases j with
 | zero=>
  simp only [List.getElem?_cons_zero,Option.some.injEq] at hu
  subst hu
  obtain⟨_,hk,h⟩:=Gb8 hsat' hi (hall 0 (.vec i p k n) v rfl hv)
  rcases h with ⟨rfl,rfl,_⟩ | ⟨b,cap,cs,rfl,hb,h1,h2,h3,h4,h5⟩
  ·exact .data (.nil (Nat.zero_le _))
  ·have hnew:w.heap.size≤b:=Nat.le_of_not_lt fun hlt=>(hst.far b hlt (fun id h=>by simp [lk] at h)).2 i (by rw [hi]; rfl) hb
   have hlt:∀ j,j < (flat xs).length→j < cs.size:=fun j hj=>by
    rw [Jd hk] at hj
    have:=Nat.mul_le_mul_right k h1
    omega
   refine .data (.list (fun j=>cs.getD j undef) h1 h2 hk (fun j hj=>⟨⟨(Array.getElem?_eq_some_iff.1 h3).1,fun hh=>?_,fun id o ho hb'=>?_⟩,?_⟩) (fun j u hu=>?_))
   ·have:=hsat.hid _ _ hh; omega
   ·have:=hsat.bnd id b (by rw [ho]; rfl) hb'; omega
   ·have:=hlt j hj
    simp [World.cell?,h3,this]
   ·have hj:=(List.getElem?_eq_some_iff.1 hu).1
    have:=hlt j hj
    exact(h5 j u _ hu (by simp [this])).noRef (hx u (List.mem_of_getElem? hu))
 | succ j=>
  have hu':es[j]? = some u:=by simpa using hu
  have hn:=H31 he u (List.mem_of_getElem? hu')
  have hvv:=hall (j+1) u v (by simpa using hu') hv
  have hd:u.isData=true:=by
   clear hvv hv hu hall
   exact J8f hn
  exact .data ((hvv.toD hd).noRef hn)
theorem H71 {α:Type} {f:FuncId} {xs:List Operand} {args:List AV} {ts:Array TypeId} {i E k n:Nat} {g:α→AV} {r:List α} {es:List AV} (ho:o.op=.call { callee:=.value (.func f),args:=xs.toArray,argTypes:=ts })
  (hc:Qb P f args [] (fun av L'=>∃ p:Nat,av=.tup (.vec i p k n::es)∧L'=[(i,.vec E k p (r.map g))])) (hB:H7 P f=true) (ha:Ge0 l L xs args) (hg:∀ x,AV.noRef.noRefL (g x).cells=true) (he:AV.noRef.noRefL es=true):H1 P o l L (Is (.tup (LS k g r::es)) L):=by
 intro a w β K Q hsat hf hK
 have hr:(execOp a.eval o).run P w=.ok (.enter f (xs.toArray.map a.eval)) w:=by
  simp [execOp,ho,resolve,Act.eval,Deferred.ofValue,invoke,H7.out hB]
 unfold Oper.wp
 rw [hr]
 show Calls P f _ w _
 refine(R3d hc hsat (vs:=xs.toArray.map a.eval) (by simp [ha.length]) (fun j u v hu hv=>?_) (fun u hu=>?_) he).mono fun e w' h=>?_
 ·simp only [Array.getElem?_map,List.getElem?_toArray,Option.map_eq_some_iff] at hv
  obtain⟨x,hx,rfl⟩:=hv
  exact(ha.get hx hu).D hsat (hf.ev x)
 ·have key:∀ r:List α,∀ u∈flat (r.map g),u.noRef=true:=by
   intro r
   induction r with
   | nil=>intro u hu; simp [flat] at hu
   | cons x r ih=>
    intro u hu
    rw [List.map_cons,flat,List.mem_append] at hu
    rcases hu with hu | hu
    ·exact H31 (hg x) u hu
    ·exact ih u hu
  exact key r u hu
 ·obtain⟨v,rfl,h1,h2,h3⟩:=h
  exact hK _ L v w' β ⟨rfl,rfl⟩ h1 h2 h3
end calls

section ops
variable {P:Program} {N:Cfg} {o:Oper} {l:Fr} {L:Loc} {α:Type}
theorem Qf6 (i:Nat) {x y:Operand} {T E k by_ c:Nat} {kd kd':IntKind} {nx ny:Int} (ho:o.op=.makeSlice T x y) (hx:ev l x=.sc (.int kd nx)) (hy:ev l y=.sc (.int kd' ny)) (hi:lk L i=none)
  (hT:sliceB P T E k=true) (hE:Zi P E k by_=true) (h0:nx=0) (hm:ny=(c:Int)) (hb:decide (by_*c≤281474976710656∧c≤maxLen)=true):H1 P o l L (Is (.vec i 0 k 0) ((i,.vec E k 0 [])::L)):=by
 subst h0 hm
 intro a w β K Q hsat hf hK
 have hb':=of_decide_eq_true hb
 obtain⟨inf,zv,e1,e2,e3,e4,e5,e6⟩:=Zi.out hE
 have hvx:=hf.ev x
 rw [hx] at hvx
 have hvy:=hf.ev y
 rw [hy] at hvy
 have h63':(c:Int)≤9223372036854775807:=by
  have h:=hb'.2
  simp [maxLen] at h
  omega
 have hb2:(inf.bytes:Int)*(c:Int)≤281474976710656:=by
  have h:((inf.bytes*c:Nat):Int)≤281474976710656:=by rw [e3]; have:=hb'.1; omega
  rwa [Int.natCast_mul] at h
 have hr:=run_make (P:=P) w T E inf zv (sliceB.out hT).1 e1 e4 kd kd' 0 c (Int.le_refl _) (by omega) hb2 h63'
 simp only [Int.toNat_zero,Int.toNat_natCast] at hr
 have hrun:(execOp a.eval o).run P w=.ok (.value (.slice (some ⟨w.heap.size,0,none⟩) 0 c)) (w.alloc (.cells (madeCells zv.cells (c*inf.size)) E)):=by
  simp [execOp,ho,hvx.inv_sc,hvy.inv_sc,hr]
 unfold Oper.wp
 rw [hrun]
 have hheap:∀ b',b' < w.heap.size→(w.alloc (.cells (madeCells zv.cells (c*inf.size)) E)).heap[b']? = w.heap[b']? := fun b' hb'=>Q6 w _ hb'
 have hnew:(w.alloc (.cells (madeCells zv.cells (c*inf.size)) E)).heap[w.heap.size]? = some (.cells (madeCells zv.cells (c*inf.size)) E (0,0)):=by
  show (w.heap.push _)[w.heap.size]? = _
  simp
 have hhs:(w.alloc (.cells (madeCells zv.cells (c*inf.size)) E)).heap.size=w.heap.size+1:=by
  show (w.heap.push _).size=_
  simp
 obtain⟨st,sat⟩:=Z6 (w':=w.alloc (.cells (madeCells zv.cells (c*inf.size)) E)) (t:=E) (k:=k) (ver1:=0) (xs':=[]) (ob':=some w.heap.size) hsat (.inl hi) rfl rfl ⟨rfl,Nat.le_refl _⟩ (by rw [hhs]; omega) (fun b' hb' _=>hheap b' hb') (.inr (.inr ⟨_,rfl,Nat.le_refl _,by rw [hhs]; omega⟩))
 exact hK _ _ _ _ _ ⟨rfl,rfl⟩ (sat ⟨by simp,.inr ⟨_,rfl,_,hnew,by simp,fun j u v hu hv=>by simp [flat] at hu⟩⟩) st (.vec ⟨E,0,[],by rw [Gr,if_pos rfl],Nat.le_refl _,fun _=>⟨rfl,.inr ⟨w.heap.size,c,rfl,by simp [upP],Nat.zero_le _,hb'.2,by unfold World.shape?; rw [hnew]; simp only [size_madeCells,e2]⟩⟩⟩ rfl)
theorem Qf5 {x:Operand} {T E k i ver n:Nat} {xs:List AV} (hT:sliceB P T E k=true) (ho:o.op=.call { callee:=.builtin .cap,args:=#[x],argTypes:=#[T] }) (hx:ev l x=.vsl i ver k 0 n) (hL:lk L i=some (.vec E k ver xs)) (hpos:Nat.blt 0 k=true) :
  H1 P o l L (fun u L'=>∃ c:Nat,xs.length≤c∧u=I64 (c:Int)∧L'=L):=by
 intro a w β K Q hsat hf hK
 have hk0:0 < k:=by simpa [Nat.blt_eq] using hpos
 have hv:=hf.ev x
 rw [hx] at hv
 obtain⟨_,o2⟩:=hsat.obj i _ hL
 rcases hv.inv_vsl0 hL with ⟨e1,e2,e3⟩ | ⟨b,cap,e1,e2,e3,e4,e5⟩
 ·have hxs:xs=[]:=by
   rcases o2 with ⟨_,o2⟩ | ⟨b',o2,_⟩
   ·exact o2
   ·rw [show β i=β.at_ i from rfl,e3] at o2; cases o2
  have hr:(execOp a.eval o).run P w=.ok (.value (.int .i64 0)) w:=by
   simp [execOp,ho,resolve,invoke,builtin,Builtin.cap_,underlying,(sliceB.out hT).1,e1,goInt]
  unfold Oper.wp
  rw [hr]
  exact hK _ _ _ w β ⟨0,by rw [hxs]; exact Nat.le_refl _,rfl,rfl⟩ hsat (Step.refl w β L) .sc
 ·have hcap:xs.length≤cap:=by
   rcases o2 with ⟨_,o2⟩ | ⟨b',o2,vs,o3,o4,_⟩
   ·subst o2; simp
   ·rw [show β i=β.at_ i from rfl,e2] at o2; cases o2
    have hs:vs.size=cap*k:=by simpa [World.shape?,o3] using e5
    rw [hs] at o4
    exact Nat.le_of_mul_le_mul_right o4 hk0
  have hr:(execOp a.eval o).run P w=.ok (.value (.int .i64 cap)) w:=by
   simp [execOp,ho,resolve,invoke,builtin,Builtin.cap_,underlying,(sliceB.out hT).1,e1,goInt]
  unfold Oper.wp
  rw [hr]
  exact hK _ _ _ w β ⟨cap,hcap,rfl,rfl⟩ hsat (Step.refl w β L) .sc
theorem Reb {x y:Operand} {ts:Array TypeId} {k:IntKind} {m n:Int} (h:n≤m) (ho:o.op=.call { callee:=.builtin .min,args:=#[x,y],argTypes:=ts }) (hx:ev l x=.sc (.int k m)) (hy:ev l y=.sc (.int k n)):H1 P o l L (Is (.sc (.int k n)) L):=by
 have e:n=min m n:=(Int.min_eq_right h).symm
 have:=Y7e (P:=P) (L:=L) ho hx hy
 rw [← e] at this
 exact this
theorem R6e {z:Int} {n c:Nat} (h1:n≤c) (h2:decide (z≤(n:Int))=true):z≤(c:Int):=by
 have:=of_decide_eq_true h2
 omega
theorem Ja0 {x p:Operand} {T E k i ver n:Nat} {kd:IntKind} {z:Int} {f:α→AV} {xs:List α} (ho:o.op=.slice T x none (some p) none) (hx:ev l x=.vsl i ver k 0 n) (hp:ev l p=.sc (.int kd z)) (hL:lk L i=some (.vec E k ver (xs.map f))) (hT:sliceB P T E k=true) (hm:decide (z=(xs.length:Int))=true) (hpos:Nat.blt 0 k=true) :
  H1 P o l L (Is (.vec i ver k xs.length) L):=fun a w β K Q hsat hf hK=>by
 have hz:=of_decide_eq_true hm
 subst hz
 have h:=G8e (P:=P) (lo:=0) (hi:=xs.length) (lop:=none) (hip:=some p) ho hT hx hL (.inl ⟨rfl,rfl⟩) (.inr ⟨kd,p,rfl,hp⟩) (Nat.zero_le _) (by simp) hpos
 refine h a w β K Q hsat hf (fun u L' v w' β' hr hs' hst hv=>?_)
 obtain⟨rfl,rfl⟩:=hr
 refine hK _ _ _ _ _ ⟨rfl,rfl⟩ hs' hst ?_
 have e:xs.length=(xs.map f).length:=(List.length_map ..).symm
 rw [Nat.sub_zero,e] at hv
 rw [e]
 exact hv.vsl_vec hL
theorem R66 {α:Type} {xs:List α} {m:Nat} {z:Int} (h:z=(m:Int)∧m≤xs.length):m=(xs.take m).length:=by
 rw [List.length_take]; omega
end ops

section rename
variable {w:World} {β:H5} {L:Loc}
theorem Rbf {i j t k ver verj ver1:Nat} {ys xs:List AV} (hsat:Sat w β L) (hij:i≠j) (hi:lk L i=some (.vec t k ver ys)) (hj:lk L j=some (.vec t k verj xs)) (h1:ver < ver1) :
  Step w β L w (upP (upP β j none) i (β.at_ j)) ((i,.vec t k ver1 xs)::(j,.vec t k (verj+1) [])::L)∧Sat w (upP (upP β j none) i (β.at_ j)) ((i,.vec t k ver1 xs)::(j,.vec t k (verj+1) [])::L):=by
 have pi:(upP (upP β j none) i (β.at_ j)).at_ i=β.at_ j:=by simp [upP]
 have pj:(upP (upP β j none) i (β.at_ j)).at_ j=none:=by simp [upP,Ne.symm hij]
 have po:∀ id,i≠id→j≠id→(upP (upP β j none) i (β.at_ j)).at_ id=β.at_ id:=fun id h1 h2=>by simp [upP,Ne.symm h1,Ne.symm h2]
 have li:lk ((i,Jg.vec t k ver1 xs)::(j,.vec t k (verj+1) [])::L) i=some (.vec t k ver1 xs):=by rw [Gr,if_pos rfl]
 have lj:lk ((i,Jg.vec t k ver1 xs)::(j,.vec t k (verj+1) [])::L) j=some (.vec t k (verj+1) []):=by rw [Gr,if_neg hij,Gr,if_pos rfl]
 have lo:∀ id,i≠id→j≠id→lk ((i,Jg.vec t k ver1 xs)::(j,.vec t k (verj+1) [])::L) id=lk L id:=fun id h1 h2=>by rw [Gr,if_neg h1,Gr,if_neg h2]
 -- each object that lies somewhere lay there
 have old:∀ id b,(lk ((i,Jg.vec t k ver1 xs)::(j,.vec t k (verj+1) [])::L) id).isSome=true→(upP (upP β j none) i (β.at_ j)).at_ id=some b→∃ q,(lk L q).isSome=true∧β.at_ q=some b∧((id=i∧q=j)∨(i≠id∧j≠id∧q=id)):=fun id b h hb=>by
  by_cases e1:i=id
  ·subst e1; rw [pi] at hb; exact⟨j,by rw [hj]; rfl,hb,.inl ⟨rfl,rfl⟩⟩
  ·by_cases e2:j=id
   ·subst e2; rw [pj] at hb; cases hb
   ·rw [lo id e1 e2] at h; rw [po id e1 e2] at hb; exact⟨id,h,hb,.inr ⟨e1,e2,rfl⟩⟩
 have stabi:∀ b q,Jy w β L b q→β.at_ j≠some b:=fun b q hs hb=>hs.kept j _ hj hb
 have st:Step w β L w (upP (upP β j none) i (β.at_ j)) ((i,.vec t k ver1 xs)::(j,.vec t k (verj+1) [])::L):=by
  refine⟨rfl,rfl,⟨rfl,Nat.le_refl _⟩,Nat.le_refl _,fun _ _ _=>Iff.rfl,fun b q hs=>⟨⟨hs.lt,hs.seen,fun id o hid hb=>?_⟩,rfl⟩,fun b hb hf=>⟨rfl,fun id hid hbd=>?_⟩,fun id t' cs hid=>?_,fun id t' cs hid=>?_,fun id t' n cs hid=>?_,fun id t' k' vr zs hid=>?_,fun id t' k' vr hw hid=>?_⟩
  ·by_cases e1:i=id
   ·subst e1; exact(stabi b q hs (pi.symm.trans hb)).elim
   ·by_cases e2:j=id
    ·subst e2; have hb:(upP (upP β j none) i (β.at_ j)).at_ j=some b:=hb; rw [pj] at hb; cases hb
    ·rw [lo id e1 e2] at hid; exact hs.kept id o hid ((po id e1 e2).symm.trans hb)
  ·obtain⟨q,g1,g2,_⟩:=old id b hid hbd
   exact hf q g1 g2
  ·have e1:i≠id:=fun e=>by subst e; rw [hi] at hid; cases hid
   have e2:j≠id:=fun e=>by subst e; rw [hj] at hid; cases hid
   exact⟨po id e1 e2,cs,by rw [lo id e1 e2]; exact hid⟩
  ·have e1:i≠id:=fun e=>by subst e; rw [hi] at hid; cases hid
   have e2:j≠id:=fun e=>by subst e; rw [hj] at hid; cases hid
   exact⟨po id e1 e2,cs,by rw [lo id e1 e2]; exact hid⟩
  ·have e1:i≠id:=fun e=>by subst e; rw [hi] at hid; cases hid
   have e2:j≠id:=fun e=>by subst e; rw [hj] at hid; cases hid
   exact⟨po id e1 e2,n,cs,by rw [lo id e1 e2]; exact hid⟩
  ·by_cases e1:i=id
   ·subst e1; rw [hi] at hid; cases hid
    exact⟨ver1,xs,li,by omega,fun e=>by omega⟩
   ·by_cases e2:j=id
    ·subst e2; rw [hj] at hid; cases hid
     exact⟨verj+1,[],lj,by omega,fun e=>by omega⟩
    ·exact⟨vr,zs,by rw [lo id e1 e2]; exact hid,Nat.le_refl _,fun _=>⟨rfl,po id e1 e2,fun b hb=>rfl⟩⟩
  ·have e1:i≠id:=fun e=>by subst e; rw [hi] at hid; cases hid
   have e2:j≠id:=fun e=>by subst e; rw [hj] at hid; cases hid
   exact⟨vr,hw,by rw [lo id e1 e2]; exact hid,Nat.le_refl _,fun _=>⟨rfl,po id e1 e2,fun b hb=>rfl⟩⟩
 refine⟨st,hsat.hid,fun id b h hb=>?_,fun id b q h hb=>?_,fun id id' b h h' hb hb'=>?_,fun id o ho=>?_⟩
 ·obtain⟨q,g1,g2,_⟩:=old id b h hb
  exact hsat.bnd q b g1 g2
 ·obtain⟨q',g1,g2,_⟩:=old id b h hb
  exact hsat.apart q' b q g1 g2
 ·obtain⟨q,g1,g2,g3⟩:=old id b h hb
  obtain⟨q',g1',g2',g3'⟩:=old id' b h' hb'
  have:=hsat.inj q q' b g1 g1' g2 g2'
  subst this
  rcases g3 with ⟨a1,a2⟩ | ⟨a1,a2,a3⟩ <;> rcases g3' with ⟨b1,b2⟩ | ⟨b1,b2,b3⟩
  ·rw [a1,b1]
  ·exact(b2 (a2.symm.trans b3)).elim
  ·exact(a2 (b2.symm.trans a3)).elim
  ·rw [← a3,← b3]
 ·by_cases e1:i=id
  ·subst e1; rw [li] at ho; cases ho
   have:=(hsat.obj j _ hj).step st (fun b hb=>rfl)
   rw [show (upP (upP β j none) i (β.at_ j)) i=β.at_ j from pi]
   exact this
  ·by_cases e2:j=id
   ·subst e2; rw [lj] at ho; cases ho
    rw [show (upP (upP β j none) i (β.at_ j)) j=none from pj]
    exact⟨by simp,.inl ⟨rfl,rfl⟩⟩
   ·rw [lo id e1 e2] at ho
    rw [show (upP (upP β j none) i (β.at_ j)) id=β.at_ id from po id e1 e2]
    exact(hsat.obj id o ho).step st (fun b hb=>rfl)
end rename
section renameJ
variable {P:Program} {N:Cfg} {Q:Post} {c:Code} {l:Fr} {L:Loc}
theorem Y0a (s i ver1:Nat) {j ver verj k n t:Nat} {ys xs:List AV} (h1:look l s=.vec j verj k n) (hi:lk L i=some (.vec t k ver ys)) (hj:lk L j=some (.vec t k verj xs)) (hij:i≠j) (hver:ver < ver1)
  (hk:JC P N c Q ((s,.vec i ver1 k xs.length)::l) ((i,.vec t k ver1 xs)::(j,.vec t k (verj+1) [])::L)):JC P N c Q l L:=fun n0 w0 β0 L0 a w β hs=>by
 have hv:=hs.frame.tmp s
 rw [h1] at hv
 obtain⟨hk1,hone⟩:Q0c w (β.at_ j) t k xs.length (a.tmps.getD s undef)∧(a.tmps.getD s undef).oneCell'=true:=by
  cases hv with
  | data h=>cases h
  | vec hp hone=>
   obtain⟨t',ver',xs',g1,_,g3⟩:=hp
   rw [hj] at g1; cases g1
   obtain⟨rfl,g4⟩:=g3 rfl
   exact⟨g4,hone⟩
 obtain⟨st,sat⟩:=Rbf hs.sat hij hi hj hver
 refine hk n0 w0 β0 L0 a w _ ⟨sat,hs.step.trans st,(hs.frame.step st).over (.vec ⟨t,ver1,xs,by rw [Gr,if_pos rfl],Nat.le_refl _,fun _=>⟨rfl,?_⟩⟩ hone),hs.size,hs.base,hs.defers.step st⟩
 rw [show (upP (upP β j none) i (β.at_ j)) i=β.at_ j by simp [upP]]
 exact hk1
theorem Re4 (s ver1:Nat) {i ver k n t:Nat} {xs:List AV} (h1:look l s=.vec i ver k n) (hi:lk L i=some (.vec t k ver xs)) (hver:ver < ver1)
  (hk:JC P N c Q ((s,.vec i ver1 k xs.length)::l) ((i,.vec t k ver1 xs)::L)):JC P N c Q l L:=fun n0 w0 β0 L0 a w β hs=>by
 have hv:=hs.frame.tmp s
 rw [h1] at hv
 obtain⟨hk1,hone⟩:Q0c w (β.at_ i) t k xs.length (a.tmps.getD s undef)∧(a.tmps.getD s undef).oneCell'=true:=by
  cases hv with
  | data h=>cases h
  | vec hp hone=>
   obtain⟨t',ver',xs',g1,_,g3⟩:=hp
   rw [hi] at g1; cases g1
   obtain⟨rfl,g4⟩:=g3 rfl
   exact⟨g4,hone⟩
 obtain⟨st,sat⟩:=Z6 (w':=w) (t:=t) (k:=k) (ver1:=ver1) (xs':=xs) (ob':=β.at_ i) hs.sat (.inr ⟨ver,xs,hi,by omega,fun e=>by omega⟩) rfl rfl ⟨rfl,Nat.le_refl _⟩ (Nat.le_refl _) (fun _ _ _=>rfl) (.inr (.inl ⟨by rw [inL,hi]; rfl,rfl⟩))
 have sat':=sat ((hs.sat.obj i _ hi).step st (fun b hb=>rfl))
 refine hk n0 w0 β0 L0 a w _ ⟨sat',hs.step.trans st,(hs.frame.step st).over (.vec ⟨t,ver1,xs,by rw [Gr,if_pos rfl],Nat.le_refl _,fun _=>⟨rfl,?_⟩⟩ hone),hs.size,hs.base,hs.defers.step st⟩
 rw [show (upP β i (β.at_ i)) i=β.at_ i by simp [upP]]
 exact hk1
theorem H2b {α:Type} {f:α→AV} (ys:List α) (s ver1:Nat) {i ver k n t:Nat} {xs:List AV} (h1:look l s=.vec i ver k n) (hi:lk L i=some (.vec t k ver xs)) (hver:ver < ver1) (hx:xs=ys.map f)
  (hk:JC P N c Q ((s,.vec i ver1 k ys.length)::l) ((i,.vec t k ver1 (ys.map f))::L)):JC P N c Q l L:=by
 subst hx
 refine Re4 s ver1 h1 hi hver ?_
 rw [List.length_map]
 exact hk
theorem Qef {α:Type} {f:α→AV} (zs:List α) (s i ver1:Nat) {j ver verj k n t:Nat} {ys xs:List AV} (h1:look l s=.vec j verj k n) (hi:lk L i=some (.vec t k ver ys)) (hj:lk L j=some (.vec t k verj xs)) (hij:i≠j) (hver:ver < ver1) (hx:xs=zs.map f)
  (hk:JC P N c Q ((s,.vec i ver1 k zs.length)::l) ((i,.vec t k ver1 (zs.map f))::(j,.vec t k (verj+1) [])::L)):JC P N c Q l L:=by
 subst hx
 refine Y0a s i ver1 h1 hi hj hij hver ?_
 rw [List.length_map]
 exact hk
end renameJ
end Go.Proofs.YtecjdioomlhhiaaGreat
