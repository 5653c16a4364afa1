/-
 More steps: Slices that begin aQ an empty literal and are appended to; Is a slice nil: Appending to a part from the front of a slice of the call's A slice of slices of the call's own,whose last slice still g Drawn orders whose last operation,behind all the others,is g The typed steps of slices of slices whose last slice grows. Slices with known cells behind them: Maps from which entries are deleted:
-/
import Derived.Test.YtokjlondbjdlfaaGreatRangeF
import Derived.Test.YtokjlondbjdlfaaGreatMapM
set_option linter.unusedSimpArgs false
namespace Go.Proofs.YtokjlondbjdlfaaGreat
open Go.RowKit

theorem Jy.vecCell {N:Cfg} {w0 w:World} {β0 β:Gx} {L0 L:Loc} {a:Act} {l:Fr} (hs:Jy N w0 β0 L0 a w β l L) (i j id E k:Nat) {t:TypeId} {cs cs':List AV} (hi:lk L i=some (.box t cs)) (hid:lk L id=none) (hj:cs[j]? = some (.sc (.slice none 0 0)))
  (h2:cs.set j (.vec id 0 k 0)=cs'):∃ β',Jy N w0 β0 L0 a w β' l ((i,.box t cs')::(id,.vec E k 0 [])::L):=by
 obtain⟨st,sat⟩:=Q4 (w':=w) (t:=E) (k:=k) (ver1:=0) (xs':=[]) (ob':=none) hs.sat (.inl hid) rfl rfl ⟨rfl,Kb⟩ (Kb) (fun _ _ _=>rfl) (.inl rfl)
 have h1:Jy N w0 β0 L0 a w (upP β id none) l ((id,.vec E k 0 [])::L):=⟨sat ⟨by simp,.inl ⟨rfl,rfl⟩⟩,hs.step.trans st,hs.frame.step st,hs.size,hs.base,hs.defers.step st⟩
 have h3:id≠i:=fun e=>by subst e; rw [hi] at hid; cases hid
 refine⟨_,h1.redescribe (i:=i) (t:=t) (cs:=cs) (by rw [G9,if_neg h3]; exact hi) (by rw [← h2]; simp) fun vs q u v h0 h5 hu hv=>?_⟩
 rw [← h2] at hu
 by_cases e:j=q
 ·subst e
  have h4:j < cs.length:=(Ex hj).1
  simp [List.getElem?_set,h4] at hu
  subst hu
  have:=h0 j _ v hj hv
  rw [this.inv_sc]
  exact .vec ⟨E,0,[],(by rw [G9,if_pos rfl]:lk ((id,J3.vec E k 0 [])::L) id=_),Kb,fun _=>⟨rfl,.inl ⟨rfl,rfl,by rw [show (upP β id none).at_ id=none by simp [upP]]⟩⟩⟩ rfl
 ·rw [List.getElem?_set_ne e] at hu
  exact h0 q u v hu hv
theorem Q48 {P:Program} {N:Cfg} {ops:Array Oper} {rest:List Oper} {Q:Post} {l:Fr} {L:Loc} (i j id E k:Nat) {t:TypeId} {cs cs':List AV} (hi:lk L i=some (.box t cs)) (hid:lk L id=none) (hj:cs[j]? = some (.sc (.slice none 0 0)))
  (h0:cs.set j (.vec id 0 k 0)=cs') (hk:JL P N ops rest Q l ((i,.box t cs')::(id,.vec E k 0 [])::L)):JL P N ops rest Q l L:=
 fun n w0 β0 L0 a w β hs=>by
  obtain⟨β',h⟩:=hs.vecCell i j id E k hi hid hj h0
  exact hk n w0 β0 L0 a w β' h

theorem Jz.ver {P:Program} {f:FuncId} {args:List AV} {i t k n:Nat} {xs:List AV} (h:Jz P f args [] (fun u L'=>∃ p:Nat,u=.vec i p k n∧L'=[(i,.vec t k p xs)])) (q:Nat):Jz P f args [] (fun u L'=>u=.vec i q k n∧L'=[(i,.vec t k q xs)]):=by
 intro w β vs h6 hl hv
 refine(h w β vs h6 hl hv).mono fun e w' hr=>?_
 obtain⟨v,r,β',L',rfl,hs,st,h8,p,rfl,rfl⟩:=hr
 have h4:∀ id,(lk [(i,J3.vec t k p xs)] id).isSome=(lk [(i,J3.vec t k q xs)] id).isSome:=fun id=>by
  rw [G9,G9]; split <;> rfl
 have h5:∀ b j,J5 w' β' [(i,J3.vec t k p xs)] b j→J5 w' β' [(i,J3.vec t k q xs)] b j:=fun b j h=>⟨h.lt,h.seen,fun id o ho hb=>by
  rw [G9] at ho
  by_cases e:i=id
  ·subst e
   rw [if_pos rfl] at ho; cases ho
   exact(show False from h.kept i (.vec t k p xs) (by rw [G9,if_pos rfl]) hb).elim
  ·rw [if_neg e] at ho; cases ho⟩
 refine⟨v,_,β',_,rfl,⟨hs.hid,fun id b h1=>hs.bnd id b (by rw [h4]; exact h1),fun id b j h1=>hs.apart id b j (by rw [h4]; exact h1),fun id id' b h1 h2=>hs.inj id id' b (by rw [h4]; exact h1) (by rw [h4]; exact h2),fun id o ho=>?_⟩,
  ⟨st.os,st.tape,st.output,st.size,st.hid,fun b j h=>⟨h5 b j (st.stab b j h).1,(st.stab b j h).2⟩,fun b hb hf=>⟨(st.far b hb hf).1,fun id hid=>(st.far b hb hf).2 id (by rw [h4]; exact hid)⟩,fun id t cs h=>by simp [lk] at h,fun id t cs h=>by simp [lk] at h,fun id t n cs h=>by simp [lk] at h,fun id t k ver xs h=>by simp [lk] at h,fun id t k ver xs h=>by simp [lk] at h⟩,?_,rfl,rfl⟩
 ·rw [G9] at ho
  by_cases e:i=id
  ·subst e
   rw [if_pos rfl] at ho; cases ho
   have h0:=hs.obj i _ (by rw [G9,if_pos rfl])
   refine⟨h0.1,h0.2.imp_right ?_⟩
   rintro⟨b,hb,vs,a1,a2,a3⟩
   exact⟨b,hb,vs,a1,a2,fun j u v hu hv=>(a3 j u v hu hv).mono fun b i hs=>⟨h5 b i hs,rfl⟩⟩
  ·rw [if_neg e] at ho; cases ho
 ·cases h8 with
  | data h=>cases h
  | vec hp h7=>
   obtain⟨t',ver',xs',h1,_,h3⟩:=hp
   rw [G9,if_pos rfl] at h1; cases h1
   exact .vec ⟨t,q,xs,by rw [G9,if_pos rfl],Kb,fun _=>h3 rfl⟩ h7
def G57 (l:Fr):List Operand→List AV→Prop
 | [],[]=>True
 | x::r,u::s=>((ev l x).plain=u∨∃ k,u=.list k []∧ev l x=.sc (.slice none 0 0))∧u.isData=true∧G57 l r s
 | _,_=>False
theorem G57.length {l:Fr}:∀ {xs:List Operand} {us:List AV},G57 l xs us→xs.length=us.length
 | [],[],_=>rfl
 | _::_,_::_,h=>by simp [G57.length h.2.2]
 | [],_::_,h=>h.elim
 | _::_,[],h=>h.elim
theorem G57.get {l:Fr}:∀ {xs:List Operand} {us:List AV},G57 l xs us→∀ {j:Nat} {x:Operand} {u:AV},xs[j]? = some x→us[j]? = some u→((ev l x).plain=u∨∃ k,u=.list k []∧ev l x=.sc (.slice none 0 0))∧u.isData=true
 | x::r,u::s,h,j,x',u',hx,hu=>by
  cases j with
  | zero=>simp at hx hu; subst hx; subst hu; exact⟨h.1,h.2.1⟩
  | succ j=>simp at hx hu; exact h.2.2.get hx hu
 | [],[],_,j,_,_,hx,_=>by simp at hx
 | [],_::_,h,_,_,_,_,_=>h.elim
 | _::_,[],h,_,_,_,_,_=>h.elim
theorem R13 {P:Program} {o:Oper} {l:Fr} {L:Loc} {u:AV} {f:FuncId} {xs:List Operand} {args:List AV} {ts:Array TypeId} (ho:o.op=.call { callee:=.value (.func f),args:=xs.toArray,argTypes:=ts }) (hc:Pure P f args (·=u)) (hB:Hp P f=true) (ha:G57 l xs args):Gn P o l L (Is u L):=by
 intro a w β K Q h0 hf hK
 have hr:(execOp a.eval o).run P w=.ok (.enter f (xs.toArray.map a.eval)) w:=by
  simp [execOp,ho,resolve,Act.eval,Deferred.ofValue,invoke,Hp.out hB]
 unfold Oper.wp
 rw [hr]
 show Calls P f _ w _
 refine(H51 hc h0 (vs:=xs.toArray.map a.eval) (by simp [ha.length]) (fun j u v hu hv=>?_)).mono fun e w' h=>?_
 ·simp only [Array.getElem?_map,List.getElem?_toArray,Option.map_eq_some_iff] at hv
  obtain⟨x,hx,rfl⟩:=hv
  obtain⟨h1,h2⟩:=ha.get hx hu
  rcases h1 with h1 | ⟨k0,h1,h3⟩
  ·have:=(hf.ev x).plain
   rw [h1] at this
   exact this.toD h2
  ·have hv:=hf.ev x
   rw [h3] at hv
   rw [h1,hv.inv_sc]
   exact .nil (Nat.zero_le _)
 ·obtain⟨v,r,rfl,h1,h2,h3,h4⟩:=h
  exact hK r L v w' β ⟨h4,rfl⟩ h1 h2 h3
theorem Gf0 {P:Program} {o:Oper} {l:Fr} {L:Loc} {T E k n:Nat} {parts:List (Nat×Operand)} {xs:List AV} (ho:o.op=.buildSlice T n parts.toArray) (hd:G57 l (parts.map (·.2)) xs) (hT:sliceB P T E k=true) (hz:Qe P E k=true)
  (h5:parts.map (·.1)=List.range n) (hc:G24 k xs=true) (hn:Nat.ble (n*k) 16777216=true) (a4:Nat.blt 0 k=true):Gn P o l L (Is (.list k xs) L):=by
 intro a w β K Q h3 hf hK
 have a3:=hd.length
 have a5:n=xs.length:=by
  have:=congrArg List.length h5
  simp only [Kn,List.length_range] at this a3
  omega
 subst a5
 have a0:=G03 hc
 have a6:∀ x∈xs,x.cells.length=k:=fun x hx=>(a0 x hx).1
 have h7:∀ x∈xs,x.isData=true:=by
  intro x hx
  obtain⟨j,hj,e⟩:=List.mem_iff_getElem.1 hx
  have a7:j < (parts.map (·.2)).length:=by omega
  exact e ▸ (hd.get (j:=j) (x:=(parts.map (·.2))[j]) (u:=xs[j]) (Ey a7) (Ey hj)).2
 have h8:=G75 (k:=k) xs 0 (List.replicate (xs.length*k) .junk) (by simp) a0
 obtain⟨inf,z,hi,a8,b2⟩:=Qe.out hz
 let zs:Array Value:=if xs.length*k=0 then #[] else z.cells
 obtain⟨vs',e1,e2,e3⟩:=G58 (w:=w) (β:=β) (L:=L) (qs:=parts.map fun p=>(p.1,a.eval p.2)) (vs:=(Array.range (xs.length*k)).map (zs[· % zs.size]!)) h8 (by
   have:=congrArg List.length h5
   simp only [Kn,List.length_range] at this
   simp [this]) (fun j p q hp hq=>by
   simp only [Kf,Option.map_eq_some_iff] at hq
   obtain⟨y,hy,rfl⟩:=hq
   rw [List.getElem?_zip_eq_some] at hp
   obtain⟨a9,b0⟩:=hp
   have h4:(parts.map (·.1))[j]? = (List.range xs.length)[j]? := by rw [h5]
   simp only [Kf,hy,Option.map_some] at h4
   rw [List.range_eq_range',a9] at h4
   have:=(hd.get (j:=j) (x:=y.2) (u:=p.2) (by rw [Kf,hy]; rfl) b0)
   refine⟨(Ez h4).symm,?_⟩
   rcases this.1 with h1 | ⟨k0,h1,h2⟩
   ·have hv:=(hf.ev y.2).plain
    rw [h1] at hv
    exact hv
   ·have hv:=hf.ev y.2
    rw [h2] at hv
    rw [h1,hv.inv_sc]
    exact .data (.nil (Nat.zero_le _))) (by simp) (fun j u v hu _=>by
   have:=List.eq_of_mem_replicate (K0 hu)
   subst this; exact .junk)
 have h9:(List.take (0*k) (List.replicate (xs.length*k) AV.junk))++flat xs=flat xs:=by simp
 rw [h9] at e2 e3
 have hr:(execOp a.eval o).run P w=.ok (.value (.slice (some ⟨w.heap.size,0,none⟩) xs.length xs.length)) (w.alloc (.cells vs' E)):=by
  have a1:=Ja (sliceB.out hT).2 w
  have b1:xs.length*k≤16777216:=by simpa using hn
  have a2:¬ (xs.length*k > 2 ^ 24):=by
   have:(2:Nat) ^ 24=16777216:=by decide
   omega
  have hp:(parts.toArray.map fun(x:Nat×Operand)=>(x.1,a.eval x.2)).toList=parts.map fun p=>(p.1,a.eval p.2):=by simp
  by_cases h0:xs.length*k=0
  ·have h6:zs=#[]:=by simp only [zs,if_pos h0]
   rw [h6] at e1
   simp only [execOp,ho,Instr.buildSlice,underlying,(sliceB.out hT).1,run_program,Sem.run_bind,Result.andThen_ok,a1,a2,if_false,Sem.run_pure,if_pos h0,hp,e1,newRow,run_newObj]
   rfl
  ·have h6:zs=z.cells:=by simp only [zs,if_neg h0]
   rw [h6] at e1
   simp only [execOp,ho,Instr.buildSlice,underlying,(sliceB.out hT).1,run_program,Sem.run_bind,Result.andThen_ok,a1,a2,if_false,Sem.run_pure,if_neg h0,zeroValue,typeInfo,hi,a8,hp,e1,newRow,run_newObj]
   rfl
 unfold Oper.wp
 rw [hr]
 exact hK _ _ _ _ β ⟨rfl,rfl⟩ (h3.new _) (Step.new h3 _) (.data (D.newRow h3 a6 (by
  have h1:xs.length*k≤16777216:=by simpa using hn
  have h2:0 < k:=by simpa [Nat.blt_eq] using a4
  have:xs.length*1≤xs.length*k:=Nat.mul_le_mul_left _ h2
  simp only [maxLen]; omega) e2 (fun j u v hu hv=>(e3 j u v hu hv).toD (G89 h7 u (K0 hu)))))

/-! ### A variable of a map's type is set anew: the new map takes the old one's name -/

theorem J16 {P:Program} {o:Oper} {a:Act} {w:World} {T E k:Nat} (ho:o.op=.buildSlice T 0 #[]) (hT:sliceB P T E k=true):(execOp a.eval o).run P w=.ok (.value (.slice (some ⟨w.heap.size,0,none⟩) 0 0)) (w.alloc (.cells #[] E)):=by
 have h0:=Ja (sliceB.out hT).2 w
 simp [execOp,ho,Instr.buildSlice,underlying,(sliceB.out hT).1,run_program,Sem.run_bind,Result.andThen_ok,h0,newRow,Instr.fill]
 exact congrArg (fun x=>w.alloc (Obj.cells x E)) (Array.toList_inj.1 (by simp))

theorem Q62 {w:World} {β:Gx} {L:Loc} {i:Nat} (E k:Nat) (vs:Array Value) (cap:Nat) (h7:cap≤maxLen) (h8:(w.alloc (.cells vs E)).ownsRow 0 E k (.slice (some ⟨w.heap.size,0,none⟩) 0 cap) 0 []) (h0:Sat w β L) (hi:lk L i=none) :
  Step w β L (w.alloc (.cells vs E)) (upP β i (some w.heap.size)) ((i,.spare E k 0 0)::L)∧Sat (w.alloc (.cells vs E)) (upP β i (some w.heap.size)) ((i,.spare E k 0 0)::L) ∧
  V (w.alloc (.cells vs E)) (upP β i (some w.heap.size)) ((i,.spare E k 0 0)::L) (.own i 0 k []) (.slice (some ⟨w.heap.size,0,none⟩) 0 cap):=by
 have a0:∀ id,(lk L id).isSome=true→i≠id:=fun id h e=>by subst e; rw [hi] at h; cases h
 have h5:∀ b,b < w.heap.size→(w.alloc (.cells vs E)).heap[b]? = w.heap[b]? := fun b hb=>J9 w _ hb
 have h6:w.heap.size < (w.alloc (.cells vs E)).heap.size:=by simp
 have st:Step w β L (w.alloc (.cells vs E)) (upP β i (some w.heap.size)) ((i,.spare E k 0 0)::L):=by
  refine⟨rfl,rfl,⟨rfl,Kb⟩,Nat.le_of_lt h6,fun _ _ _=>Iff.rfl,fun b j hs=>⟨⟨Nat.lt_trans hs.lt h6,hs.seen,fun id ob hid hb=>?_⟩,J4 (w:=w) (h5 b hs.lt)⟩,fun b hb h9=>⟨h5 b hb,fun id hid e=>?_⟩,fun id t cs hid=>?_,fun id t cs hid=>?_,fun id t n cs hid=>?_,fun id t k' ver xs hid=>?_,fun id t k' ver hw hid=>?_⟩
  ·rw [G9] at hid
   by_cases e:i=id
   ·subst e; simp only [upP,if_true] at hb; cases hb; exact absurd hs.lt (Nat.lt_irrefl _)
   ·rw [if_neg e] at hid; simp only [upP,if_neg (Ne.symm e)] at hb; exact hs.kept id ob hid hb
  ·rw [G9] at hid
   by_cases e':i=id
   ·subst e'; simp only [upP,if_true] at e; cases e; exact absurd hb (Nat.lt_irrefl _)
   ·rw [if_neg e'] at hid; simp only [upP,if_neg (Ne.symm e')] at e; exact h9 id hid e
  all_goals
   have e:=a0 id (by rw [hid]; rfl)
  ·exact⟨by simp [upP,Ne.symm e],cs,by rw [G9,if_neg e]; exact hid⟩
  ·exact⟨by simp [upP,Ne.symm e],cs,by rw [G9,if_neg e]; exact hid⟩
  ·exact⟨by simp [upP,Ne.symm e],n,cs,by rw [G9,if_neg e]; exact hid⟩
  ·exact⟨ver,xs,by rw [G9,if_neg e]; exact hid,Kb,fun _=>⟨rfl,by simp [upP,Ne.symm e],fun b hb=>Y6 (h5 b (h0.bnd id b (by rw [hid]; rfl) hb))⟩⟩
  ·exact⟨ver,hw,by rw [G9,if_neg e]; exact hid,Kb,fun _=>⟨rfl,by simp [upP,Ne.symm e],fun b hb=>h5 b (h0.bnd id b (by rw [hid]; rfl) hb)⟩⟩
 refine⟨st,⟨fun b j h=>Nat.lt_trans (h0.hid b j h) h6,fun id b hid hb=>?_,fun id b j hid hb hh=>?_,fun id id' b h1 h2 h3 h4=>?_,fun id ob hid=>?_⟩,?_⟩
 ·rw [G9] at hid
  by_cases e:i=id
  ·subst e; simp only [upP,if_true] at hb; cases hb; exact h6
  ·rw [if_neg e] at hid; simp only [upP,if_neg (Ne.symm e)] at hb; exact Nat.lt_trans (h0.bnd id b hid hb) h6
 ·rw [G9] at hid
  by_cases e:i=id
  ·subst e; simp only [upP,if_true] at hb; cases hb; exact absurd (h0.hid _ _ hh) (Nat.lt_irrefl _)
  ·rw [if_neg e] at hid; simp only [upP,if_neg (Ne.symm e)] at hb; exact h0.apart id b j hid hb hh
 ·by_cases e:i=id
  ·by_cases e':i=id'
   ·rw [← e,e']
   ·subst e
    rw [G9,if_neg e'] at h2
    simp only [upP,if_true] at h3
    simp only [upP,if_neg (Ne.symm e')] at h4
    cases h3
    exact absurd (h0.bnd id' _ h2 h4) (Nat.lt_irrefl _)
  ·by_cases e':i=id'
   ·subst e'
    rw [G9,if_neg e] at h1
    simp only [upP,if_true] at h4
    simp only [upP,if_neg (Ne.symm e)] at h3
    cases h4
    exact absurd (h0.bnd id _ h1 h3) (Nat.lt_irrefl _)
   ·rw [G9,if_neg e] at h1
    rw [G9,if_neg e'] at h2
    simp only [upP,if_neg (Ne.symm e)] at h3
    simp only [upP,if_neg (Ne.symm e')] at h4
    exact h0.inj id id' b h1 h2 h3 h4
 ·rw [G9] at hid
  by_cases e:i=id
  ·subst e; simp at hid; subst hid
   exact .inr ⟨w.heap.size,by simp [upP],vs,heap_alloc_new w _,by simp⟩
  ·rw [if_neg e] at hid
   simp only [upP,if_neg (Ne.symm e)]
   exact(h0.obj id ob hid).step st (fun b hb=>h5 b (h0.bnd id b (by rw [hid]; rfl) hb))
 ·exact .own (.nil h7) ⟨E,0,0,by rw [G9,if_pos rfl],Kb,fun _=>⟨rfl,by simp [Value.ownBlock,upP],[],h8,fun j u hu=>by simp [flat] at hu⟩⟩

theorem R25 {w:World} {β:Gx} {L:Loc} {i:Nat} (E k:Nat) (h0:Sat w β L) (hi:lk L i=none) :
  Step w β L (w.alloc (.cells #[] E)) (upP β i (some w.heap.size)) ((i,.spare E k 0 0)::L)∧Sat (w.alloc (.cells #[] E)) (upP β i (some w.heap.size)) ((i,.spare E k 0 0)::L) ∧
  V (w.alloc (.cells #[] E)) (upP β i (some w.heap.size)) ((i,.spare E k 0 0)::L) (.own i 0 k []) (.slice (some ⟨w.heap.size,0,none⟩) 0 0):=
 Q62 E k #[] 0 (Nat.zero_le _) (World.ownsRow_lit w #[] 0 (Nat.zero_le _) (Nat.zero_le _) (by simp)) h0 hi

def Hb3 (P:Program) (T f off:Nat):Bool:=
 match P.underlying T with
 | some (.struct fs)=>match fs[f]? with
  | some fld=>fld.offset==off&&Qs P fld.type
  | none=>false
 | _=>false
theorem Hb3.out {P:Program} {T f off:Nat} (h:Hb3 P T f off=true):∃ fs fld,P.underlying T=some (.struct fs)∧fs[f]? = some fld∧fld.offset=off∧Qs P fld.type=true:=by
 unfold Hb3 at h
 split at h
 ·rename_i fs h1
  split at h
  ·rename_i fld h2
   simp only [Kk,beq_iff_eq] at h
   exact⟨fs,fld,h1,h2,h.1,h.2⟩
  ·cases h
 ·cases h

def H70 (P:Program) (T n k:Nat):Bool:=
 match P.underlying T with
 | some (.array m e)=>m==n&&Rw P e k
 | _=>false
theorem H70.out {P:Program} {T n k:Nat} (h:H70 P T n k=true):∃ e,P.underlying T=some (.array n e)∧Rw P e k=true:=by
 unfold H70 at h
 split at h
 ·rename_i m e h1
  simp only [Kk,beq_iff_eq] at h
  obtain⟨rfl,h2⟩:=h
  exact⟨_,h1,h2⟩
 ·cases h
theorem Ha3 {P:Program} {T n k b o m:Nat} {kd:IntKind} (h:H70 P T n k=true) (hm:m < n) (w:World):(Instr.indexAt T (.pointer (some ⟨b,o,none⟩)) (.int kd (m:Int))).run P w=.ok (.pointer (some ⟨b,o+m*k,none⟩)) w:=by
 obtain⟨e,h1,h2⟩:=H70.out h
 have hs:=Ja h2 w
 have h0:(0:Int)≤(m:Int)∧(m:Int) < (n:Int):=by omega
 simp [Instr.indexAt,asIntOf,underlying,h1,Instr.sureAddr,hs,h0,Addr.add_lit]
 intro hc
 omega
section ops
variable {P:Program} {N:Cfg} {o:Oper} {l:Fr} {L L':Loc} {u:AV} {α:Type}

theorem Gc7 (i E k:Nat) {T:Nat} (ho:o.op=.buildSlice T 0 #[]) (hi:lk L i=none) (hT:sliceB P T E k=true):Gn P o l L (Is (.own i 0 k []) ((i,.spare E k 0 0)::L)):=by
 intro a w β K Q h0 hf hK
 unfold Oper.wp
 rw [J16 (E:=E) (k:=k) ho hT]
 obtain⟨st,sat,hv⟩:=R25 E k h0 hi
 exact hK _ _ _ _ _ ⟨rfl,rfl⟩ sat st hv

theorem R96 (i E k:Nat) {T:Nat} (ho:o.op=.buildSlice T 0 #[]) (hi:lk L i=none) (hT:sliceB P T E k=true):Gn P o l L (Is (.vec i 0 k 0) ((i,.vec E k 0 [])::L)):=by
 intro a w β K Q h1 hf hK
 unfold Oper.wp
 rw [J16 (E:=E) (k:=k) ho hT]
 have h0:w.heap.size < (w.alloc (.cells #[] E)).heap.size:=by simp
 obtain⟨st,sat⟩:=Q4 (w':=w.alloc (.cells #[] E)) (t:=E) (k:=k) (ver1:=0) (xs':=[]) (ob':=some w.heap.size) h1 (.inl hi) rfl rfl ⟨rfl,Kb⟩ (Nat.le_of_lt h0) (fun b hb _=>J9 w _ hb) (.inr (.inr ⟨_,rfl,Kb,h0⟩))
 have hn:=heap_alloc_new w (.cells #[] E)
 exact hK _ _ _ _ _ ⟨rfl,rfl⟩ (sat ⟨by simp,.inr ⟨_,rfl,#[],hn,by simp,fun j u v hu=>by simp [flat] at hu⟩⟩) st (.vec ⟨E,0,[],by rw [G9,if_pos rfl],Kb,fun _=>⟨rfl,.inr ⟨w.heap.size,0,rfl,by simp [upP],Kb,Nat.zero_le _,by simp only [World.shape?]; rw [hn]; simp⟩⟩⟩ rfl)

theorem Hf6 (w:World) (base:Nat) (t ty e:TypeId) (i:TypeInfo) (size:Nat) (ht:P.underlying t=some (.slice e)) (hi:P.info? e=some i)
  (v:Value) (n:Nat) (xs:List Value) (h0:w.ownsRow base e size v n xs) (ao:Option Addr) (c:Nat) :
  (Builtin.append_ #[t,t] ty #[v,.slice ao 0 c]).run P w=.ok v w:=by
 rcases h0.2 with ⟨rfl,rfl⟩ | ⟨g,cap,cur,rfl,_,_,h1,_⟩
 ·cases ao <;> simp [Builtin.append_,run_underlying ht,sizeOf,typeInfo,hi,Builtin.lenOf,Builtin.firstCells,loadCells,loadCellsFrom]
 ·cases ao <;> simp [Builtin.append_,run_underlying ht,sizeOf,typeInfo,hi,Builtin.lenOf,Builtin.firstCells,h1,storeCells,loadCells,loadCellsFrom]

theorem Qbb {s x:Operand} {T E k by_ i ver n:Nat} {kx:Nat} {xs:List AV} (ho:o.op=.call { callee:=.builtin .append,args:=#[s,x],argTypes:=#[T,T] }) (hs:ev l s=.own i ver k xs) (hi:lk L i=some (.spare E k ver n)) (hx:Jj (ev l x)=some (kx,[]))
  (hT:sliceB P T E k=true) (hE:Qk P E k by_=true):Gn P o l L (Is (.own i ver k xs) L):=
 H2 fun a w β h7 hf=>by
  have hv:=hf.ev s
  rw [hs] at hv
  have h4:=(hf.ev x).Jj hx
  obtain⟨ao,cap,h5,_⟩:=h4.len
  obtain⟨inf,z,e1,e2,e3,e4,e5,e6⟩:=Qk.out hE
  have h6:=hv
  cases hv with
  | data h=>cases h
  | own hd hp=>
   obtain⟨t,ver',hw,h1,h2,h3⟩:=hp
   rw [hi] at h1
   cases h1
   obtain⟨rfl,h8,vals,h0,h9⟩:=h3 rfl
   have hr:=Hf6 (P:=P) w 0 T o.type E inf k (sliceB.out hT).1 e1 (a.eval s) _ _ h0 ao cap
   exact⟨a.eval s,by simp [execOp,ho,resolve,invoke,builtin,h5,hr],h6⟩

theorem G18 {L:Loc} {s x:Operand} {T E k by_ i kx:Nat} {f:α→AV} {xs ys:List α} (ho:o.op=.call { callee:=.builtin .append,args:=#[s,x],argTypes:=#[T,T] }) (hs:ev l s=OW i k f xs) (hi:lk L i=some (.spare E k xs.length xs.length)) (hx:Jj (ev l x)=some (kx,ys.map f))
  (hT:sliceB P T E k=true) (hE:Qk P E k by_=true) (hb:decide ((xs.length+ys.length)*by_≤140737488355328∧xs.length+ys.length≤maxLen)=true) (h2:∀ y,(f y).flatOk=true) (hk:kx=k∨ys=[]) :
  Gn P o l L (Is (OW i k f (xs++ys)) ((i,.spare E k (xs++ys).length (xs++ys).length)::L)):=by
 have h3:=Es hb
 by_cases h0:ys=[]
 ·subst h0
  have h:=Qbb (P:=P) (o:=o) (by_:=by_) ho hs hi (by simpa using hx) hT hE
  rw [List.append_nil]
  intro a w β K Q h4 hf hK
  refine h a w β K Q h4 hf (fun u L1 v w1 β1 hu h5 st1 h6=>?_)
  obtain⟨rfl,rfl⟩:=hu
  have h1:G7b L1 ((i,.spare E k xs.length xs.length)::L1):=fun j=>by
   rw [G9]
   by_cases e:i=j
   ·subst e; rw [if_pos rfl,hi]
   ·rw [if_neg e]
  exact hK _ _ v w1 β1 ⟨rfl,rfl⟩ (h5.locEq h1) (st1.locEq h1) (h6.locEq h1)
 ·have h:=Hdd (ver1:=(xs++ys).length) (xs:=xs.map f) (ys:=ys.map f) ho hs hi hx hT hE (by simpa using h3.1) (by simpa using h3.2) (fun y hy=>by
   obtain⟨z,_,rfl⟩:=Kp.1 hy
   exact h2 z) (hk.imp id (fun e=>by rw [e]; rfl)) (by
   have:=List.length_pos_iff.2 h0
   rw [Ki]; omega)
  simpa only [OW,List.map_append,Ki,Kn] using h
theorem Ra5 {x ix:Operand} {T n k i o' m:Nat} {kd:IntKind} {z:Int} (hT:H70 P T n k=true) (ho:o.op=.indexAddr T x ix) (hx:ev l x=.ptr i o') (hi:ev l ix=.sc (.int kd z)) (hz:z=(m:Int)) (hm:Nat.blt m n=true):Gn P o l L (Is (.ptr i (o'+m*k)) L):=
 H2 fun a w β _ hf=>by
  subst hz
  have h1:=hf.ev x
  rw [hx] at h1
  have h2:=hf.ev ix
  rw [hi] at h2
  obtain⟨ax,h0⟩:∃ ax,a.eval x=ax:=⟨_,rfl⟩
  rw [h0] at h1
  cases h1 with
  | data h=>cases h
  | ptr hi h=>exact⟨_,by simp only [execOp,ho,h0,h2.inv_sc,Sem.run_bind,Ha3 hT (by simpa [Nat.blt_eq] using hm)]; rfl,.ptr hi h⟩
theorem Qb2 {x y:Operand} {T i ver m t k kk fo:Nat} {f:α→AV} {xs:List α} {e z:α} {u:AV} (hT:Rw P T kk=true) (ho:o.op=.store T x y) (hu:ev l y=u) (hx:ev l x=.vptr i ver m fo) (hi:lk L i=some (.vec t k ver (xs.map f))) (he:xs[m]? = some e)
  (hc:u.flatOk=true) (hd:u.isData=true) (h1:H0f fo u.cells (f e).cells=some (f z).cells) (hk:u.cells.length=kk) (h0:Nat.blt 0 kk=true) :
  Gn P o l L (Is .junk ((i,.vec t k ver ((xs.set m z).map f))::L)):=by
 have h:=J49 (P:=P) (e:=f e) (z:=f z) (ds:=(f z).cells) hT ho hu hx hi (R29 he) hc hd h1 rfl hk h0
 rw [← List.map_set] at h
 exact h
end ops

theorem Q95 {P:Program} {T E k:Nat} (hT:sliceB P T E k=true) (a:Option Addr) (n c:Nat) (w:World):(Op.equal T (.slice a n c) (.slice none 0 0)).run P w=.ok a.isNone w:=by
 have h:=(sliceB.out hT).1
 unfold Op.equal
 generalize hd:Op.maxDepth=d
 obtain⟨d,rfl⟩:∃ m,d=m+1:=⟨Op.maxDepth - 1,by rw [← hd]; rfl⟩
 clear hd
 cases a with
 | none=>rw [Op.equalIn]; simp [underlying,h]
 | some a=>rw [Op.equalIn]; simp [underlying,h]

def R27 {α β:Type} [DecidableEq β] (xs:List α) (k:Bool→Option β):Option β:=
 match xs with
 | []=>if k true=k false then k false else none
 | _=>k false
theorem Qd5 {α β γ:Type} [DecidableEq β] {xs:List α} {k:Bool→Option β} {r:β} {f:α→γ} (h:R27 xs k=some r) (b:Bool) (hb:b=true→xs.map f=[]):k b=some r:=by
 cases xs with
 | nil=>
  have h:(if k true=k false then k false else none)=some r:=h
  by_cases e:k true=k false
  ·rw [if_pos e] at h
   cases b with
   | true=>rw [e]; exact h
   | false=>exact h
  ·rw [if_neg e] at h; cases h
 | cons x l=>
  cases b with
  | true=>have:=hb rfl; cases this
  | false=>exact h
section
variable {P:Program} {o:Oper} {l:Fr} {L:Loc}
theorem R4e {x:Operand} {T T' E k k':Nat} {xs:List AV} (hT:sliceB P T E k'=true) (ho:o.op=.binOp .eql T x (.const (.slice none 0 0)) T') (hx:Jj (ev l x)=some (k,xs)):Gn P o l L (fun u L'=>∃ b:Bool,(b=true→xs=[])∧u=BL b∧L'=L):=by
 intro a w β K Q h0 hf hK
 have hd:=(hf.ev x).Jj hx
 have key:∀ ao n c,a.eval x=.slice ao n c→(execOp a.eval o).run P w=.ok (.value (.bool ao.isNone)) w:=fun ao n c e=>by
  have e2:a.eval (.const (.slice none 0 0))=.slice none 0 0:=rfl
  simp [execOp,ho,eqGuard,binOp,e,e2,Q95 hT]
 generalize hv:a.eval x=v at hd
 cases hd with
 | nil h=>
  rename_i cap ao
  unfold Oper.wp
  rw [key _ _ _ hv]
  exact hK _ _ _ _ _ ⟨ao.isNone,fun _=>rfl,rfl,rfl⟩ h0 (Step.refl _ _ _) .sc
 | list vals h1 hm hk hS h=>
  unfold Oper.wp
  rw [key _ _ _ hv]
  exact hK _ _ _ _ _ ⟨false,fun e=>(by cases e),rfl,rfl⟩ h0 (Step.refl _ _ _) .sc
end

section
variable {P:Program} {o:Oper} {l:Fr} {L:Loc}
end
set_option linter.unusedVariables false

section moves
variable {w w':World} {β:Gx} {L:Loc} {i t k ver1 hw1:Nat}
end moves

section ops
variable {P:Program} {N:Cfg} {Q:Post} {o:Oper} {ops:Array Oper} {rest:List Oper} {l:Fr} {L:Loc}

end ops

section freeze
variable {P:Program} {N:Cfg} {Q:Post} {l l':Fr} {L L':Loc}

end freeze

/-! ### Typed -/
section typed
variable {α:Type}
end typed
set_option linter.unusedVariables false

section sound
variable {P:Program} {N:Cfg} {ops:List Oper} {ws los his:List Nat} {Ls:List Loc} {l0:Fr} {val:Nat→AV}

end sound
set_option linter.unusedVariables false

section typed
variable {P:Program} {N:Cfg} {Q:Post} {o:Oper} {ops:Array Oper} {rest:List Oper} {l:Fr} {L:Loc} {α:Type}

end typed
set_option linter.unusedVariables false

inductive Cv:AV→AV→Prop
 | same {u:AV}:Cv u u
 | agg {cs ds:List AV} (hl:ds.length=cs.length) (h:∀ (j:Nat) u u',cs[j]? = some u→ds[j]? = some u'→Cv u u'):Cv (.agg cs) (.agg ds)
 | list {k:Nat} {xs ys:List AV} (hl:ys.length=xs.length) (hk:∀ (j:Nat) x y,xs[j]? = some x→ys[j]? = some y→y.cells.length=x.cells.length) (h:∀ (j:Nat) u u',(flat xs)[j]? = some u→(flat ys)[j]? = some u'→Cv u u'):Cv (.list k xs) (.list k ys)
 | lst {k:Nat} {xs ys zs:List AV} (h:Cv (.list k xs) (.list k ys)):Cv (.lst k xs zs) (.list k ys)
 | tail {k:Nat} {xs ys:List AV} (h:Cv (.list k xs) (.list k ys)):Cv (.list k xs) (.lst k ys [])
theorem D.list_lst {w:World} {S:Nat→Nat→Prop} {k:Nat} {xs:List AV} {v:Value} (h:D w S (.list k xs) v):D w S (.lst k xs []) v:=by
 cases h with
 | nil h=>exact .lnil h
 | list vals h0 hm hk hS h=>exact .lst vals (by simpa using h0) hm (by simpa using hk) (by simpa using hS) (by simpa using h)
theorem D.cv {w:World} {S:Nat→Nat→Prop} {u u':AV} (hc:Cv u u'):∀ {v:Value},D w S u v→D w S u' v:=by
 induction hc with
 | same=>exact fun h=>h
 | agg hl _ ih=>
  intro v h
  cases h with
  | agg h3 h=>
   refine .agg (by rw [h3,hl]) (fun j u' x h0 hx=>?_)
   have hj:=(Ex h0).1
   exact ih j _ u' (Ey (by omega)) h0 (h j _ x (Ey (by omega)) hx)
 | @list k xs ys hl hk _ ih=>
  intro v h
  cases h with
  | nil h=>
   have:ys=[]:=Em (by simpa using hl)
   subst this; exact .nil h
  | list vals h4 hm h1 hS h=>
   have h2:∀ y∈ys,y.cells.length=k:=fun y hy=>by
    obtain⟨j,hj⟩:=List.mem_iff_getElem?.1 hy
    have h5:=(Ex hj).1
    have hx:xs[j]? = some (xs[j]'(by omega)):=Ey (by omega)
    rw [hk j _ y hx hj]
    exact h1 _ (K0 hx)
   have h6:(flat ys).length=(flat xs).length:=by rw [Hm h2,Hm h1,hl]
   rw [← hl]
   refine .list vals (by omega) hm h2 (fun j hj=>hS j (by omega)) (fun j u' h0=>?_)
   have hj:=(Ex h0).1
   exact ih j _ u' (Ey (by omega)) h0 (h j _ (Ey (by omega)))
 | lst _ ih=>exact fun h=>ih h.lst_list
 | tail _ ih=>exact fun h=>(ih h).list_lst
theorem V.cv {w:World} {β:Gx} {L:Loc} {u u':AV} (hc:Cv u u'):∀ {v:Value},V w β L u v→V w β L u' v:=by
 induction hc with
 | same=>exact fun h=>h
 | agg hl _ ih=>
  intro v h
  obtain⟨vs,rfl,h1,h⟩:=h.inv_agg
  refine .agg (by rw [h1,hl]) (fun j u' x h0 hx=>?_)
  have hj:=(Ex h0).1
  exact ih j _ u' (Ey (by omega)) h0 (h j _ x (Ey (by omega)) hx)
 | list hl hk h=>exact fun hv=>.data (D.cv (.list hl hk h) hv.inv_list)
 | lst h=>exact fun hv=>by cases hv with | data hv=>exact .data (D.cv (.lst h) hv)
 | tail h=>exact fun hv=>.data (D.cv (.tail h) hv.inv_list)

def CvL:List AV→List AV→Prop
 | [],[]=>True
 | u::r,u'::r'=>Cv u u'∧CvL r r'
 | _,_=>False
theorem CvL.len:∀ {cs ds:List AV},CvL cs ds→ds.length=cs.length
 | [],[],_=>rfl
 | _::_,_::_,h=>by rw [Ke,Ke,CvL.len h.2]
 | [],_::_,h=>h.elim
 | _::_,[],h=>h.elim
theorem CvL.get:∀ {cs ds:List AV},CvL cs ds→∀ (j:Nat) u u',cs[j]? = some u→ds[j]? = some u'→Cv u u'
 | [],[],_,j,u,u',h,_=>by simp at h
 | _::_,_::_,h,0,u,u',h1,h2=>by simp at h1 h2; subst h1 h2; exact h.1
 | _::_,_::_,h,j+1,u,u',h1,h2=>CvL.get h.2 j u u' (by simpa using h1) (by simpa using h2)
 | [],_::_,h,_,_,_,_,_=>h.elim
 | _::_,[],h,_,_,_,_,_=>h.elim
theorem CvL.append:∀ {cs ds cs' ds':List AV},CvL cs ds→CvL cs' ds'→CvL (cs++cs') (ds++ds')
 | [],[],_,_,_,h=>h
 | _::_,_::_,_,_,h,h'=>⟨h.1,CvL.append h.2 h'⟩
 | [],_::_,_,_,h,_=>h.elim
 | _::_,[],_,_,h,_=>h.elim
theorem Cv.aggL {cs ds:List AV} (h:CvL cs ds):Cv (.agg cs) (.agg ds):=.agg h.len h.get
section typed
variable {α β:Type} {f:α→AV} {g:β→AV} {k:Nat}
abbrev Ln (α:Type):=List α×List α
abbrev LT {α:Type} (k:Nat) (f:α→AV) (e:Ln α):AV:=.lst k (e.1.map f) (e.2.map f)
theorem Cv.listM (p:α→β) (h:∀ x,CvL (f x).cells (g (p x)).cells) (xs:List α):Cv (LS k f xs) (LS k g (xs.map p)):=by
 refine .list (by simp) (fun j x y hx hy=>?_) ?_
 ·rw [Kf] at hx hy
  rw [Kf] at hy
  cases hz:xs[j]? with
  | none=>rw [hz] at hx; cases hx
  | some z=>rw [hz] at hx hy; cases hx; cases hy; exact(h z).len
 ·have:CvL (flat (xs.map f)) (flat ((xs.map p).map g)):=by
   induction xs with
   | nil=>trivial
   | cons x xs ih=>exact(h x).append ih
  exact this.get
theorem Cv.lstM (p:α→β) (h:∀ x,CvL (f x).cells (g (p x)).cells) (e:Ln α):Cv (LT k f e) (LS k g (e.1.map p)):=.lst (.listM p h e.1)
theorem Cv.lst0 (e:Ln α):Cv (LT k f e) (LS k f e.1):=.lst .same
theorem Cv.of0 (xs:List α):Cv (LS k f xs) (LT k f (xs,[])):=.tail .same
end typed

section ops
variable {P:Program} {N:Cfg} {o:Oper} {l:Fr} {L L':Loc} {u u':AV} {α:Type}
theorem Gn.cv (hc:Cv u u') (h:Gn P o l L (Is u L')):Gn P o l L (Is u' L'):=fun a w β K Q hs hf hK=>h a w β K Q hs hf (fun v L'' x w' β' hr h0 h1 hv=>by
 obtain⟨rfl,rfl⟩:=hr
 exact hK _ _ _ _ _ ⟨rfl,rfl⟩ h0 h1 (hv.cv hc))
theorem J87 (i:Nat) {x y:Operand} {T E k by_ c:Nat} {kd kd':IntKind} {nx ny:Int} (ho:o.op=.makeSlice T x y) (hx:ev l x=.sc (.int kd nx)) (hy:ev l y=.sc (.int kd' ny)) (hi:lk L i=none)
  (hT:sliceB P T E k=true) (hE:Qk P E k by_=true) (h0:nx=0) (hm:ny=(c:Int)) (hb:decide (by_*c≤281474976710656∧c≤maxLen)=true):Gn P o l L (Is (.own i 0 k []) ((i,.spare E k 0 0)::L)):=by
 subst h0 hm
 intro a w β K Q h4 hf hK
 have h1:=Es hb
 obtain⟨inf,zv,e1,e2,e3,e4,e5,e6⟩:=Qk.out hE
 have h2:=hf.ev x
 rw [hx] at h2
 have h3:=hf.ev y
 rw [hy] at h3
 have h5:(c:Int)≤9223372036854775807:=by
  have h:=h1.2
  simp [maxLen] at h
  omega
 have h7:(inf.bytes:Int)*(c:Int)≤281474976710656:=by
  have h:((inf.bytes*c:Nat):Int)≤281474976710656:=by rw [e3]; have:=h1.1; omega
  rwa [Int.natCast_mul] at h
 have hr:=run_make (P:=P) w T E inf zv (sliceB.out hT).1 e1 e4 kd kd' 0 c (Int.le_refl _) (by omega) h7 h5
 simp only [Int.toNat_zero,Int.toNat_natCast] at hr
 have h6:(execOp a.eval o).run P w=.ok (.value (.slice (some ⟨w.heap.size,0,none⟩) 0 c)) (w.alloc (.cells (madeCells zv.cells (c*inf.size)) E)):=by
  simp [execOp,ho,h2.inv_sc,h3.inv_sc,hr]
 unfold Oper.wp
 rw [h6]
 obtain⟨st,sat,hv⟩:=Q62 E k (madeCells zv.cells (c*inf.size)) c h1.2 (World.ownsRow_made w _ c (Nat.zero_le _) h1.2 (by rw [size_madeCells,e2])) h4 hi
 exact hK _ _ _ _ _ ⟨rfl,rfl⟩ sat st hv

theorem Ha1 {T E k:Nat} (hT:sliceB P T E k=true) (a:Option Addr) (len cap n:Nat) (kd:IntKind) (w:World) (hn:n≤cap) :
  (Instr.sliceAt T (.slice a len cap) none (some (.int kd n)) none).run P w=.ok (.slice (if cap=0 then a else a.map (·.add (0*k))) n cap) w:=by
 obtain⟨h1,h2⟩:=sliceB.out hT
 have h3:=Ja h2 w
 have hb:(Instr.sliceBound (.int kd (n:Int)) cap .sliceAcap).run P w=.ok n w:=by
  have:(0:Int)≤n∧(n:Int)≤cap:=⟨by omega,by omega⟩
  simp [Instr.sliceBound,asIntOf,this]
 have hs:(Instr.sliceBounds true len cap none (some (.int kd n)) none).run P w=.ok (0,n,cap) w:=by
  simp [Instr.sliceBounds,hb]
 simp [Instr.sliceAt,Instr.slice,run_underlying h1,hs,h3]
theorem D.cut {w:World} {S:Nat→Nat→Prop} {k n:Nat} {xs:List AV} {a:Option Addr} {len cap:Nat} (h:D w S (.list k xs) (.slice a len cap)) (hn:n≤xs.length) :
  D w S (.lst k (xs.take n) (xs.drop n)) (.slice (if cap=0 then a else a.map (·.add (0*k))) n cap):=by
 cases h with
 | nil h=>
  have:n=0:=by simpa using hn
  subst this
  simp only [List.take_nil,List.drop_nil]
  exact .lnil h
 | @list _ b off _ _ vals h0 hm hk hS h=>
  have e:(if cap=0 then some (⟨b,off,none⟩:Addr) else (some (⟨b,off,none⟩:Addr)).map (·.add (0*k)))=some ⟨b,off,none⟩:=by
   split <;> simp [Addr.add_lit]
  rw [e]
  have hl:(xs.take n).length=n:=by rw [List.length_take]; omega
  have:=D.lst (w:=w) (S:=S) (k:=k) (b:=b) (off:=off) (cap:=cap) (xs:=xs.take n) (ys:=xs.drop n) vals (by rw [← Ki,List.take_append_drop]; exact h0) hm (by rw [List.take_append_drop]; exact hk) (by rw [List.take_append_drop]; exact hS) (by rw [List.take_append_drop]; exact h)
  rwa [hl] at this
theorem D.whole {w:World} {S:Nat→Nat→Prop} {k n:Nat} {xs ys:List AV} {a:Option Addr} {len cap:Nat} (h:D w S (.lst k xs ys) (.slice a len cap)) (hn:n≤xs.length+ys.length) :
  D w S (.list k ((xs++ys).take n)) (.slice (if cap=0 then a else a.map (·.add (0*k))) n cap)∧xs.length+ys.length≤cap:=by
 cases h with
 | lnil h=>
  have:n=0:=by simpa using hn
  subst this
  exact⟨.nil h,Nat.zero_le _⟩
 | @lst _ b off _ _ _ vals h1 hm hk hS h=>
  refine⟨?_,h1⟩
  have e:(if cap=0 then some (⟨b,off,none⟩:Addr) else (some (⟨b,off,none⟩:Addr)).map (·.add (0*k)))=some ⟨b,off,none⟩:=by
   split <;> simp [Addr.add_lit]
  rw [e]
  have hl:((xs++ys).take n).length=n:=by rw [List.length_take,Ki]; omega
  have h0:flat ((xs++ys).take n)=(flat (xs++ys)).take (n*k):=G2e hk n
  have:=D.list (w:=w) (S:=S) (k:=k) (b:=b) (off:=off) (cap:=cap) (xs:=(xs++ys).take n) vals (by omega) hm (fun x hx=>hk x (List.mem_of_mem_take hx)) (fun j hj=>hS j (by rw [h0,List.length_take] at hj; omega)) (fun j u hu=>h j u (by
   rw [h0,Kg] at hu
   split at hu
   ·exact hu
   ·cases hu))
  rwa [hl] at this
theorem R68 {x p:Operand} {T E k n:Nat} {kd:IntKind} {ni:Int} {f:α→AV} {xs:List α} (ho:o.op=.slice T x none (some p) none) (hx:Jj (ev l x)=some (k,xs.map f)) (hp:ev l p=.sc (.int kd ni)) (hT:sliceB P T E k=true) (hn:ni=(n:Int)∧n≤xs.length):Gn P o l L (Is (LT k f (xs.take n,xs.drop n)) L):=
 H2 fun a w β h3 hf=>by
  obtain⟨rfl,hn⟩:=hn
  have h1:=(hf.ev x).Jj hx
  obtain⟨ao,cap,he,h2,h4⟩:=h1.len
  rw [he] at h1
  have h0:=hf.ev p
  rw [hp] at h0
  rw [Kn] at h2
  refine⟨_,?_,.data (by
   have:=h1.cut (n:=n) (by rw [Kn]; exact hn)
   rw [← List.map_take,← List.map_drop] at this
   exact this)⟩
  simp only [execOp,ho,he,h0.inv_sc,Sem.run_bind,Option.map_none,Option.map_some]
  rw [Ha1 hT ao _ cap n kd w (by omega)]
  rfl
theorem Q81 {x p:Operand} {T E k n:Nat} {kd:IntKind} {ni:Int} {f:α→AV} {e:Ln α} (ho:o.op=.slice T x none (some p) none) (hx:ev l x=LT k f e) (hp:ev l p=.sc (.int kd ni)) (hT:sliceB P T E k=true) (hn:ni=(n:Int)∧n≤(e.1++e.2).length):Gn P o l L (Is (LS k f ((e.1++e.2).take n)) L):=
 H2 fun a w β h4 hf=>by
  obtain⟨rfl,hn⟩:=hn
  rw [Ki] at hn
  have h0:=hf.ev x
  rw [hx] at h0
  have h3:=hf.ev p
  rw [hp] at h3
  cases h0 with
  | data h0=>
   obtain⟨ao,cap,he,_,_⟩:=h0.lst_list.len
   rw [he] at h0
   obtain⟨h1,h2⟩:=h0.whole (n:=n) (by simpa using hn)
   rw [Kn,Kn] at h2
   refine⟨_,?_,.data (by
    rw [← List.map_append,← List.map_take] at h1
    exact h1)⟩
   simp only [execOp,ho,he,h3.inv_sc,Sem.run_bind,Option.map_none,Option.map_some]
   rw [Ha1 hT ao _ cap n kd w (by omega)]
   rfl
end ops

/-! ### The entries that are there yet -/
theorem Gbd:∀ {es:List (Value×AV)} {vals:List Value} {i:Nat} {e:MapEntry},e∈Jw i es vals ↔ ∃ j p v,es[j]? = some p∧vals[j]? = some v∧isT p.2=false∧e=⟨p.1,v,i+j⟩
 | [],vals,i,e=>by simp [Jw]
 | p::es,[],i,e=>by simp [Jw]
 | p::es,v::vs,i,e=>by
  have ih:=Gbd (es:=es) (vals:=vs) (i:=i+1) (e:=e)
  have shift:(∃ j p' v',es[j]? = some p'∧vs[j]? = some v'∧isT p'.2=false∧e=⟨p'.1,v',i+1+j⟩) ↔ ∃ j p' v',(p::es)[j+1]? = some p'∧(v::vs)[j+1]? = some v'∧isT p'.2=false∧e=⟨p'.1,v',i+(j+1)⟩:=by
   constructor
   ·rintro⟨j,p',v',h1,h2,h3,h4⟩; exact⟨j,p',v',by simpa using h1,by simpa using h2,h3,by rw [h4,Nat.add_assoc,Nat.add_comm 1 j]⟩
   ·rintro⟨j,p',v',h1,h2,h3,h4⟩; exact⟨j,p',v',by simpa using h1,by simpa using h2,h3,by rw [h4,Nat.add_assoc,Nat.add_comm 1 j]⟩
  cases hp:isT p.2 with
  | true=>
   simp only [Jw,hp,if_true]
   rw [ih,shift]
   constructor
   ·rintro⟨j,p',v',h⟩; exact⟨j+1,p',v',h⟩
   ·rintro⟨j,p',v',h1,h2,h3,h4⟩
    cases j with
    | zero=>simp at h1; subst h1; rw [hp] at h3; cases h3
    | succ j=>exact⟨j,p',v',h1,h2,h3,h4⟩
  | false=>
   simp only [Jw,hp,Bool.false_eq_true,if_false,Kr]
   rw [ih,shift]
   constructor
   ·rintro(h | ⟨j,p',v',h⟩)
    ·exact⟨0,p,v,rfl,rfl,hp,by simpa using h⟩
    ·exact⟨j+1,p',v',h⟩
   ·rintro⟨j,p',v',h1,h2,h3,h4⟩
    cases j with
    | zero=>simp at h1 h2; subst h1 h2; exact .inl (by simpa using h4)
    | succ j=>exact .inr ⟨j,p',v',h1,h2,h3,h4⟩
theorem H59 {es:List (Value×AV)} {vals:List Value} {i:Nat} {e:MapEntry} (h:e∈Jw i es vals):i≤e.born∧e.born < i+es.length:=by
 obtain⟨j,p,v,h1,_,_,rfl⟩:=Gbd.1 h
 have:=(Ex h1).1
 exact⟨by show i≤i+j; omega,by show i+j < _; omega⟩
theorem G3d:∀ {es:List (Value×AV)} {vals:List Value} {i:Nat},(Jw i es vals).Pairwise (fun a b=>a.born < b.born)
 | [],vals,i=>by simp [Jw]
 | p::es,[],i=>by simp [Jw]
 | p::es,v::vs,i=>by
  have ih:=G3d (es:=es) (vals:=vs) (i:=i+1)
  cases hp:isT p.2 with
  | true=>simp only [Jw,hp,if_true]; exact ih
  | false=>
   simp only [Jw,hp,Bool.false_eq_true,if_false]
   exact List.pairwise_cons.2 ⟨fun e he=>by have:=(H59 he).1; show i < e.born; omega,ih⟩
theorem Hd0:∀ {es:List (Value×AV)} {vals:List Value} {i:Nat} (p:Value×AV) (v:Value),vals.length=es.length→isT p.2=false→Jw i (es++[p]) (vals++[v])=Jw i es vals++[⟨p.1,v,i+es.length⟩]
 | [],[],i,p,v,_,hp=>by simp [Jw,hp]
 | [],_::_,i,p,v,h,_=>by simp at h
 | _::_,[],i,p,v,h,_=>by simp at h
 | q::es,x::vs,i,p,v,h,hp=>by
  have ih:=Hd0 (es:=es) (vals:=vs) (i:=i+1) p v (by simpa using h) hp
  have e1:i+1+es.length=i+(q::es).length:=by simp; omega
  cases hq:isT q.2 with
  | true=>simp only [List.cons_append,Jw,hq,if_true]; rw [ih,e1]
  | false=>simp only [List.cons_append,Jw,hq,Bool.false_eq_true,if_false]; rw [ih,e1]
theorem Q74 {l:List MapEntry} (hs:l.Pairwise (fun a b=>a.born < b.born)) {j q:Nat} {e e':MapEntry} (h:l[j]? = some e) (h':l[q]? = some e') (hb:e.born=e'.born):j=q:=by
 have hj:=(Ex h)
 have hq:=(Ex h')
 obtain⟨h0,rfl⟩:=hj
 obtain⟨h1,rfl⟩:=hq
 have hp:=List.pairwise_iff_getElem.1 hs
 rcases Nat.lt_trichotomy j q with h | h | h
 ·have:=hp j q h0 h1 h; omega
 ·exact h
 ·have:=hp q j h1 h0 h; omega
theorem Hea {l:List MapEntry} (hs:l.Pairwise (fun a b=>a.born < b.born)) {j:Nat} {e:MapEntry} (h:l[j]? = some e) (f:MapEntry→MapEntry):l.modify j f=l.map (fun x=>if x.born=e.born then f x else x):=by
 apply List.ext_getElem?
 intro q
 rw [List.getElem?_modify,Kf]
 cases hq:l[q]? with
 | none=>rfl
 | some y=>
  by_cases h0:j=q
  ·subst h0
   rw [h] at hq; cases hq
   simp
  ·have:y.born≠e.born:=fun hb=>h0 (Q74 hs h hq hb.symm)
   simp [h0,this]
/-! ### Typed -/
section plain
variable {κ ν:Type} [DecidableEq κ]
def J8d (l:List (Option (κ×ν))) (a:κ) (v:ν):List (Option (κ×ν)):=if G01 (l.filterMap id) a then l.map (Option.map fun p=>if p.1=a then (a,v) else p) else l++[some (a,v)]
def G96 (l:List (Option (κ×ν))) (a:κ):Nat:=l.findIdx fun o=>match o with | some p=>decide (p.1=a) | none=>false
theorem J60 (l:List (Option (κ×ν))) (a:κ) (v:ν):(J8d l a v).filterMap id=Gac (l.filterMap id) a v:=by
 unfold J8d Gac
 by_cases h:G01 (l.filterMap id) a=true
 ·rw [if_pos h,if_pos h]
  clear h
  induction l with
  | nil=>rfl
  | cons o r ih=>cases o <;> simp [ih]
 ·rw [if_neg h,if_neg h]; simp
end plain
structure Hq (κ ν:Type) where
 l:List (Option (κ×ν))
 nd:((l.filterMap id).map (·.1)).Nodup
namespace Hq
variable {κ ν:Type} [DecidableEq κ]
def Hh (m:Hq κ ν):List (κ×ν):=m.l.filterMap id
def empty:Hq κ ν:=⟨[],List.nodup_nil⟩
def put (m:Hq κ ν) (a:κ) (v:ν):Hq κ ν:=⟨J8d m.l a v,by rw [J60]; exact H11 m.nd a v⟩
def get (m:Hq κ ν) (a:κ) (z:ν):ν:=(G30 m.Hh a).getD z
def has (m:Hq κ ν) (a:κ):Bool:=G01 m.Hh a
def size (m:Hq κ ν):Nat:=m.Hh.length
instance:Inhabited (Hq κ ν):=⟨empty⟩
end Hq
def tOf {κ ν:Type} (kv:κ→Value) (av:ν→AV) (l:List (Option (κ×ν))):List (Value×AV):=l.map fun o=>match o with | some p=>(kv p.1,av p.2) | none=>(.tuple #[],.tup [])
theorem Gaa {κ ν:Type} [DecidableEq κ]:∀ {l:List (Option (κ×ν))},((l.filterMap id).map (·.1)).Nodup→∀ {q:Nat} {a:κ} {v:ν},l[q]? = some (some (a,v))→G96 l a=q∧G30 (l.filterMap id) a=some v∧G01 (l.filterMap id) a=true
 | [],_,q,a,v,h=>by simp at h
 | none::r,hn,q,a,v,h=>by
  cases q with
  | zero=>simp at h
  | succ q=>
   obtain⟨h1,h2,h3⟩:=Gaa (l:=r) (by simpa using hn) (by simpa using h)
   refine⟨?_,by simpa using h2,by simpa using h3⟩
   unfold G96 at h1 ⊢
   rw [List.findIdx_cons]; simp [h1]
 | some (b,u)::r,hn,q,a,v,h=>by
  simp only [List.filterMap_cons_some (f:=id) rfl,id,List.map_cons,List.nodup_cons] at hn
  cases q with
  | zero=>
   simp at h; obtain⟨rfl,rfl⟩:=h
   exact⟨by simp [G96,List.findIdx_cons],by simp [G30],by simp [G01]⟩
  | succ q=>
   have h':r[q]? = some (some (a,v)):=by simpa using h
   have h0:b≠a:=fun e=>hn.1 (by subst e; exact Kp.2 ⟨(b,v),List.mem_filterMap.2 ⟨_,K0 h',rfl⟩,rfl⟩)
   obtain⟨h1,h2,h3⟩:=Gaa (l:=r) hn.2 h'
   refine⟨?_,?_,?_⟩
   ·unfold G96 at h1 ⊢; rw [List.findIdx_cons]; simp [h0,h1]
   ·simp only [G30] at h2 ⊢; simp [h0]; simpa using h2
   ·simp only [G01] at h3 ⊢; simp [h0]; simpa using h3
end Go.Proofs.YtokjlondbjdlfaaGreat
