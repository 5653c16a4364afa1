/-
 More steps: Slices that begin aQ an empty literal and are appended to;
-/
import Derived.Test.YtokjlondbjdlfaaRangeF
set_option linter.unusedSimpArgs false
namespace Go.Proofs.Ytokjlondbjdlfaa
open Go.RowKit

theorem Jx.vecCell {N:Cfg} {w0 w:World} {β0 β:Gw} {L0 L:Loc} {a:Act} {l:Fr} (hs:Jx N w0 β0 L0 a w β l L) (i j id E k:Nat) {t:TypeId} {cs cs':List AV} (hi:lk L i=some (.box t cs)) (hid:lk L id=none) (hj:cs[j]? = some (.sc (.slice none 0 0)))
  (h2:cs.set j (.vec id 0 k 0)=cs'):∃ β',Jx N w0 β0 L0 a w β' l ((i,.box t cs')::(id,.vec E k 0 [])::L):=by
 obtain⟨st,sat⟩:=Q1 (w':=w) (t:=E) (k:=k) (ver1:=0) (xs':=[]) (ob':=none) hs.sat (.inl hid) rfl rfl ⟨rfl,K0⟩ (K0) (fun _ _ _=>rfl) (.inl rfl)
 have h1:Jx N w0 β0 L0 a w (upP β id none) l ((id,.vec E k 0 [])::L):=⟨sat ⟨by simp,.inl ⟨rfl,rfl⟩⟩,hs.step.trans st,hs.frame.step st,hs.size,hs.base,hs.defers.step st⟩
 have h3:id≠i:=fun e=>by subst e; rw [hi] at hid; cases hid
 refine⟨_,h1.redescribe (i:=i) (t:=t) (cs:=cs) (by rw [G8,if_neg h3]; exact hi) (by rw [← h2]; simp) fun vs q u v h0 h5 hu hv=>?_⟩
 rw [← h2] at hu
 by_cases e:j=q
 ·subst e
  have h4:j < cs.length:=(Ev hj).1
  simp [List.getElem?_set,h4] at hu
  subst hu
  have:=h0 j _ v hj hv
  rw [this.inv_sc]
  exact .vec ⟨E,0,[],(by rw [G8,if_pos rfl]:lk ((id,J0.vec E k 0 [])::L) id=_),K0,fun _=>⟨rfl,.inl ⟨rfl,rfl,by rw [show (upP β id none).at_ id=none by simp [upP]]⟩⟩⟩ rfl
 ·rw [List.getElem?_set_ne e] at hu
  exact h0 q u v hu hv
theorem Q38 {P:Program} {N:Cfg} {ops:Array Oper} {rest:List Oper} {Q:Post} {l:Fr} {L:Loc} (i j id E k:Nat) {t:TypeId} {cs cs':List AV} (hi:lk L i=some (.box t cs)) (hid:lk L id=none) (hj:cs[j]? = some (.sc (.slice none 0 0)))
  (h0:cs.set j (.vec id 0 k 0)=cs') (hk:JL P N ops rest Q l ((i,.box t cs')::(id,.vec E k 0 [])::L)):JL P N ops rest Q l L:=
 fun n w0 β0 L0 a w β hs=>by
  obtain⟨β',h⟩:=hs.vecCell i j id E k hi hid hj h0
  exact hk n w0 β0 L0 a w β' h

theorem Jz.ver {P:Program} {f:FuncId} {args:List AV} {i t k n:Nat} {xs:List AV} (h:Jz P f args [] (fun u L'=>∃ p:Nat,u=.vec i p k n∧L'=[(i,.vec t k p xs)])) (q:Nat):Jz P f args [] (fun u L'=>u=.vec i q k n∧L'=[(i,.vec t k q xs)]):=by
 intro w β vs h6 hl hv
 refine(h w β vs h6 hl hv).mono fun e w' hr=>?_
 obtain⟨v,r,β',L',rfl,hs,st,h8,p,rfl,rfl⟩:=hr
 have h4:∀ id,(lk [(i,J0.vec t k p xs)] id).isSome=(lk [(i,J0.vec t k q xs)] id).isSome:=fun id=>by
  rw [G8,G8]; split <;> rfl
 have h5:∀ b j,J2 w' β' [(i,J0.vec t k p xs)] b j→J2 w' β' [(i,J0.vec t k q xs)] b j:=fun b j h=>⟨h.lt,h.seen,fun id o ho hb=>by
  rw [G8] at ho
  by_cases e:i=id
  ·subst e
   rw [if_pos rfl] at ho; cases ho
   exact(show False from h.kept i (.vec t k p xs) (by rw [G8,if_pos rfl]) hb).elim
  ·rw [if_neg e] at ho; cases ho⟩
 refine⟨v,_,β',_,rfl,⟨hs.hid,fun id b h1=>hs.bnd id b (by rw [h4]; exact h1),fun id b j h1=>hs.apart id b j (by rw [h4]; exact h1),fun id id' b h1 h2=>hs.inj id id' b (by rw [h4]; exact h1) (by rw [h4]; exact h2),fun id o ho=>?_⟩,
  ⟨st.os,st.tape,st.output,st.size,st.hid,fun b j h=>⟨h5 b j (st.stab b j h).1,(st.stab b j h).2⟩,fun b hb hf=>⟨(st.far b hb hf).1,fun id hid=>(st.far b hb hf).2 id (by rw [h4]; exact hid)⟩,fun id t cs h=>by simp [lk] at h,fun id t cs h=>by simp [lk] at h,fun id t n cs h=>by simp [lk] at h,fun id t k ver xs h=>by simp [lk] at h,fun id t k ver xs h=>by simp [lk] at h⟩,?_,rfl,rfl⟩
 ·rw [G8] at ho
  by_cases e:i=id
  ·subst e
   rw [if_pos rfl] at ho; cases ho
   have h0:=hs.obj i _ (by rw [G8,if_pos rfl])
   refine⟨h0.1,h0.2.imp_right ?_⟩
   rintro⟨b,hb,vs,a1,a2,a3⟩
   exact⟨b,hb,vs,a1,a2,fun j u v hu hv=>(a3 j u v hu hv).mono fun b i hs=>⟨h5 b i hs,rfl⟩⟩
  ·rw [if_neg e] at ho; cases ho
 ·cases h8 with
  | data h=>cases h
  | vec hp h7=>
   obtain⟨t',ver',xs',h1,_,h3⟩:=hp
   rw [G8,if_pos rfl] at h1; cases h1
   exact .vec ⟨t,q,xs,by rw [G8,if_pos rfl],K0,fun _=>h3 rfl⟩ h7
def G42 (l:Fr):List Operand→List AV→Prop
 | [],[]=>True
 | x::r,u::s=>((ev l x).plain=u∨∃ k,u=.list k []∧ev l x=.sc (.slice none 0 0))∧u.isData=true∧G42 l r s
 | _,_=>False
theorem G42.length {l:Fr}:∀ {xs:List Operand} {us:List AV},G42 l xs us→xs.length=us.length
 | [],[],_=>rfl
 | _::_,_::_,h=>by simp [G42.length h.2.2]
 | [],_::_,h=>h.elim
 | _::_,[],h=>h.elim
theorem G42.get {l:Fr}:∀ {xs:List Operand} {us:List AV},G42 l xs us→∀ {j:Nat} {x:Operand} {u:AV},xs[j]? = some x→us[j]? = some u→((ev l x).plain=u∨∃ k,u=.list k []∧ev l x=.sc (.slice none 0 0))∧u.isData=true
 | x::r,u::s,h,j,x',u',hx,hu=>by
  cases j with
  | zero=>simp at hx hu; subst hx; subst hu; exact⟨h.1,h.2.1⟩
  | succ j=>simp at hx hu; exact h.2.2.get hx hu
 | [],[],_,j,_,_,hx,_=>by simp at hx
 | [],_::_,h,_,_,_,_,_=>h.elim
 | _::_,[],h,_,_,_,_,_=>h.elim
theorem Je5 {P:Program} {o:Oper} {l:Fr} {L:Loc} {u:AV} {f:FuncId} {xs:List Operand} {args:List AV} {ts:Array TypeId} (ho:o.op=.call { callee:=.value (.func f),args:=xs.toArray,argTypes:=ts }) (hc:Pure P f args (·=u)) (hB:Hm P f=true) (ha:G42 l xs args):Gk P o l L (Is u L):=by
 intro a w β K Q h0 hf hK
 have hr:(execOp a.eval o).run P w=.ok (.enter f (xs.toArray.map a.eval)) w:=by
  simp [execOp,ho,resolve,Act.eval,Deferred.ofValue,invoke,Hm.out hB]
 unfold Oper.wp
 rw [hr]
 show Calls P f _ w _
 refine(H44 hc h0 (vs:=xs.toArray.map a.eval) (by simp [ha.length]) (fun j u v hu hv=>?_)).mono fun e w' h=>?_
 ·simp only [Array.getElem?_map,List.getElem?_toArray,Option.map_eq_some_iff] at hv
  obtain⟨x,hx,rfl⟩:=hv
  obtain⟨h1,h2⟩:=ha.get hx hu
  rcases h1 with h1 | ⟨k0,h1,h3⟩
  ·have:=(hf.ev x).plain
   rw [h1] at this
   exact this.toD h2
  ·have hv:=hf.ev x
   rw [h3] at hv
   rw [h1,hv.inv_sc]
   exact .nil (Nat.zero_le _)
 ·obtain⟨v,r,rfl,h1,h2,h3,h4⟩:=h
  exact hK r L v w' β ⟨h4,rfl⟩ h1 h2 h3
theorem H60 {P:Program} {o:Oper} {l:Fr} {L:Loc} {T E k n:Nat} {parts:List (Nat×Operand)} {xs:List AV} (ho:o.op=.buildSlice T n parts.toArray) (hd:G42 l (parts.map (·.2)) xs) (hT:sliceB P T E k=true) (hz:Q9 P E k=true)
  (h5:parts.map (·.1)=List.range n) (hc:G16 k xs=true) (hn:Nat.ble (n*k) 16777216=true) (a4:Nat.blt 0 k=true):Gk P o l L (Is (.list k xs) L):=by
 intro a w β K Q h3 hf hK
 have a3:=hd.length
 have a5:n=xs.length:=by
  have:=congrArg List.length h5
  simp only [Kk,List.length_range] at this a3
  omega
 subst a5
 have a0:=Zs hc
 have a6:∀ x∈xs,x.cells.length=k:=fun x hx=>(a0 x hx).1
 have h7:∀ x∈xs,x.isData=true:=by
  intro x hx
  obtain⟨j,hj,e⟩:=List.mem_iff_getElem.1 hx
  have a7:j < (parts.map (·.2)).length:=by omega
  exact e ▸ (hd.get (j:=j) (x:=(parts.map (·.2))[j]) (u:=xs[j]) (Ew a7) (Ew hj)).2
 have h8:=G5c (k:=k) xs 0 (List.replicate (xs.length*k) .junk) (by simp) a0
 obtain⟨inf,z,hi,a8,b2⟩:=Q9.out hz
 let zs:Array Value:=if xs.length*k=0 then #[] else z.cells
 obtain⟨vs',e1,e2,e3⟩:=G43 (w:=w) (β:=β) (L:=L) (qs:=parts.map fun p=>(p.1,a.eval p.2)) (vs:=(Array.range (xs.length*k)).map (zs[· % zs.size]!)) h8 (by
   have:=congrArg List.length h5
   simp only [Kk,List.length_range] at this
   simp [this]) (fun j p q hp hq=>by
   simp only [Kd,Option.map_eq_some_iff] at hq
   obtain⟨y,hy,rfl⟩:=hq
   rw [List.getElem?_zip_eq_some] at hp
   obtain⟨a9,b0⟩:=hp
   have h4:(parts.map (·.1))[j]? = (List.range xs.length)[j]? := by rw [h5]
   simp only [Kd,hy,Option.map_some] at h4
   rw [List.range_eq_range',a9] at h4
   have:=(hd.get (j:=j) (x:=y.2) (u:=p.2) (by rw [Kd,hy]; rfl) b0)
   refine⟨(Ex h4).symm,?_⟩
   rcases this.1 with h1 | ⟨k0,h1,h2⟩
   ·have hv:=(hf.ev y.2).plain
    rw [h1] at hv
    exact hv
   ·have hv:=hf.ev y.2
    rw [h2] at hv
    rw [h1,hv.inv_sc]
    exact .data (.nil (Nat.zero_le _))) (by simp) (fun j u v hu _=>by
   have:=List.eq_of_mem_replicate (Ey hu)
   subst this; exact .junk)
 have h9:(List.take (0*k) (List.replicate (xs.length*k) AV.junk))++flat xs=flat xs:=by simp
 rw [h9] at e2 e3
 have hr:(execOp a.eval o).run P w=.ok (.value (.slice (some ⟨w.heap.size,0,none⟩) xs.length xs.length)) (w.alloc (.cells vs' E)):=by
  have a1:=J7 (sliceB.out hT).2 w
  have b1:xs.length*k≤16777216:=by simpa using hn
  have a2:¬ (xs.length*k > 2 ^ 24):=by
   have:(2:Nat) ^ 24=16777216:=by decide
   omega
  have hp:(parts.toArray.map fun(x:Nat×Operand)=>(x.1,a.eval x.2)).toList=parts.map fun p=>(p.1,a.eval p.2):=by simp
  by_cases h0:xs.length*k=0
  ·have h6:zs=#[]:=by simp only [zs,if_pos h0]
   rw [h6] at e1
   simp only [execOp,ho,Instr.buildSlice,underlying,(sliceB.out hT).1,run_program,Sem.run_bind,Result.andThen_ok,a1,a2,if_false,Sem.run_pure,if_pos h0,hp,e1,newRow,run_newObj]
   rfl
  ·have h6:zs=z.cells:=by simp only [zs,if_neg h0]
   rw [h6] at e1
   simp only [execOp,ho,Instr.buildSlice,underlying,(sliceB.out hT).1,run_program,Sem.run_bind,Result.andThen_ok,a1,a2,if_false,Sem.run_pure,if_neg h0,zeroValue,typeInfo,hi,a8,hp,e1,newRow,run_newObj]
   rfl
 unfold Oper.wp
 rw [hr]
 exact hK _ _ _ _ β ⟨rfl,rfl⟩ (h3.new _) (Step.new h3 _) (.data (D.newRow h3 a6 (by
  have h1:xs.length*k≤16777216:=by simpa using hn
  have h2:0 < k:=by simpa [Nat.blt_eq] using a4
  have:xs.length*1≤xs.length*k:=Nat.mul_le_mul_left _ h2
  simp only [maxLen]; omega) e2 (fun j u v hu hv=>(e3 j u v hu hv).toD (G77 h7 u (Ey hu)))))

/-! ### A variable of a map's type is set anew: the new map takes the old one's name -/

theorem J0c {P:Program} {o:Oper} {a:Act} {w:World} {T E k:Nat} (ho:o.op=.buildSlice T 0 #[]) (hT:sliceB P T E k=true):(execOp a.eval o).run P w=.ok (.value (.slice (some ⟨w.heap.size,0,none⟩) 0 0)) (w.alloc (.cells #[] E)):=by
 have h0:=J7 (sliceB.out hT).2 w
 simp [execOp,ho,Instr.buildSlice,underlying,(sliceB.out hT).1,run_program,Sem.run_bind,Result.andThen_ok,h0,newRow,Instr.fill]
 exact congrArg (fun x=>w.alloc (Obj.cells x E)) (Array.toList_inj.1 (by simp))

theorem Q4f {w:World} {β:Gw} {L:Loc} {i:Nat} (E k:Nat) (vs:Array Value) (cap:Nat) (h7:cap≤maxLen) (h8:(w.alloc (.cells vs E)).ownsRow 0 E k (.slice (some ⟨w.heap.size,0,none⟩) 0 cap) 0 []) (h0:Sat w β L) (hi:lk L i=none) :
  Step w β L (w.alloc (.cells vs E)) (upP β i (some w.heap.size)) ((i,.spare E k 0 0)::L)∧Sat (w.alloc (.cells vs E)) (upP β i (some w.heap.size)) ((i,.spare E k 0 0)::L) ∧
  V (w.alloc (.cells vs E)) (upP β i (some w.heap.size)) ((i,.spare E k 0 0)::L) (.own i 0 k []) (.slice (some ⟨w.heap.size,0,none⟩) 0 cap):=by
 have a0:∀ id,(lk L id).isSome=true→i≠id:=fun id h e=>by subst e; rw [hi] at h; cases h
 have h5:∀ b,b < w.heap.size→(w.alloc (.cells vs E)).heap[b]? = w.heap[b]? := fun b hb=>J6 w _ hb
 have h6:w.heap.size < (w.alloc (.cells vs E)).heap.size:=by simp
 have st:Step w β L (w.alloc (.cells vs E)) (upP β i (some w.heap.size)) ((i,.spare E k 0 0)::L):=by
  refine⟨rfl,rfl,⟨rfl,K0⟩,Nat.le_of_lt h6,fun _ _ _=>Iff.rfl,fun b j hs=>⟨⟨Nat.lt_trans hs.lt h6,hs.seen,fun id ob hid hb=>?_⟩,J1 (w:=w) (h5 b hs.lt)⟩,fun b hb h9=>⟨h5 b hb,fun id hid e=>?_⟩,fun id t cs hid=>?_,fun id t cs hid=>?_,fun id t n cs hid=>?_,fun id t k' ver xs hid=>?_,fun id t k' ver hw hid=>?_⟩
  ·rw [G8] at hid
   by_cases e:i=id
   ·subst e; simp only [upP,if_true] at hb; cases hb; exact absurd hs.lt (Nat.lt_irrefl _)
   ·rw [if_neg e] at hid; simp only [upP,if_neg (Ne.symm e)] at hb; exact hs.kept id ob hid hb
  ·rw [G8] at hid
   by_cases e':i=id
   ·subst e'; simp only [upP,if_true] at e; cases e; exact absurd hb (Nat.lt_irrefl _)
   ·rw [if_neg e'] at hid; simp only [upP,if_neg (Ne.symm e')] at e; exact h9 id hid e
  all_goals
   have e:=a0 id (by rw [hid]; rfl)
  ·exact⟨by simp [upP,Ne.symm e],cs,by rw [G8,if_neg e]; exact hid⟩
  ·exact⟨by simp [upP,Ne.symm e],cs,by rw [G8,if_neg e]; exact hid⟩
  ·exact⟨by simp [upP,Ne.symm e],n,cs,by rw [G8,if_neg e]; exact hid⟩
  ·exact⟨ver,xs,by rw [G8,if_neg e]; exact hid,K0,fun _=>⟨rfl,by simp [upP,Ne.symm e],fun b hb=>Rt (h5 b (h0.bnd id b (by rw [hid]; rfl) hb))⟩⟩
  ·exact⟨ver,hw,by rw [G8,if_neg e]; exact hid,K0,fun _=>⟨rfl,by simp [upP,Ne.symm e],fun b hb=>h5 b (h0.bnd id b (by rw [hid]; rfl) hb)⟩⟩
 refine⟨st,⟨fun b j h=>Nat.lt_trans (h0.hid b j h) h6,fun id b hid hb=>?_,fun id b j hid hb hh=>?_,fun id id' b h1 h2 h3 h4=>?_,fun id ob hid=>?_⟩,?_⟩
 ·rw [G8] at hid
  by_cases e:i=id
  ·subst e; simp only [upP,if_true] at hb; cases hb; exact h6
  ·rw [if_neg e] at hid; simp only [upP,if_neg (Ne.symm e)] at hb; exact Nat.lt_trans (h0.bnd id b hid hb) h6
 ·rw [G8] at hid
  by_cases e:i=id
  ·subst e; simp only [upP,if_true] at hb; cases hb; exact absurd (h0.hid _ _ hh) (Nat.lt_irrefl _)
  ·rw [if_neg e] at hid; simp only [upP,if_neg (Ne.symm e)] at hb; exact h0.apart id b j hid hb hh
 ·by_cases e:i=id
  ·by_cases e':i=id'
   ·rw [← e,e']
   ·subst e
    rw [G8,if_neg e'] at h2
    simp only [upP,if_true] at h3
    simp only [upP,if_neg (Ne.symm e')] at h4
    cases h3
    exact absurd (h0.bnd id' _ h2 h4) (Nat.lt_irrefl _)
  ·by_cases e':i=id'
   ·subst e'
    rw [G8,if_neg e] at h1
    simp only [upP,if_true] at h4
    simp only [upP,if_neg (Ne.symm e)] at h3
    cases h4
    exact absurd (h0.bnd id _ h1 h3) (Nat.lt_irrefl _)
   ·rw [G8,if_neg e] at h1
    rw [G8,if_neg e'] at h2
    simp only [upP,if_neg (Ne.symm e)] at h3
    simp only [upP,if_neg (Ne.symm e')] at h4
    exact h0.inj id id' b h1 h2 h3 h4
 ·rw [G8] at hid
  by_cases e:i=id
  ·subst e; simp at hid; subst hid
   exact .inr ⟨w.heap.size,by simp [upP],vs,heap_alloc_new w _,by simp⟩
  ·rw [if_neg e] at hid
   simp only [upP,if_neg (Ne.symm e)]
   exact(h0.obj id ob hid).step st (fun b hb=>h5 b (h0.bnd id b (by rw [hid]; rfl) hb))
 ·exact .own (.nil h7) ⟨E,0,0,by rw [G8,if_pos rfl],K0,fun _=>⟨rfl,by simp [Value.ownBlock,upP],[],h8,fun j u hu=>by simp [flat] at hu⟩⟩

theorem Qfc {w:World} {β:Gw} {L:Loc} {i:Nat} (E k:Nat) (h0:Sat w β L) (hi:lk L i=none) :
  Step w β L (w.alloc (.cells #[] E)) (upP β i (some w.heap.size)) ((i,.spare E k 0 0)::L)∧Sat (w.alloc (.cells #[] E)) (upP β i (some w.heap.size)) ((i,.spare E k 0 0)::L) ∧
  V (w.alloc (.cells #[] E)) (upP β i (some w.heap.size)) ((i,.spare E k 0 0)::L) (.own i 0 k []) (.slice (some ⟨w.heap.size,0,none⟩) 0 0):=
 Q4f E k #[] 0 (Nat.zero_le _) (World.ownsRow_lit w #[] 0 (Nat.zero_le _) (Nat.zero_le _) (by simp)) h0 hi

def Ha2 (P:Program) (T f off:Nat):Bool:=
 match P.underlying T with
 | some (.struct fs)=>match fs[f]? with
  | some fld=>fld.offset==off&&Qd P fld.type
  | none=>false
 | _=>false
theorem Ha2.out {P:Program} {T f off:Nat} (h:Ha2 P T f off=true):∃ fs fld,P.underlying T=some (.struct fs)∧fs[f]? = some fld∧fld.offset=off∧Qd P fld.type=true:=by
 unfold Ha2 at h
 split at h
 ·rename_i fs h1
  split at h
  ·rename_i fld h2
   simp only [Ki,beq_iff_eq] at h
   exact⟨fs,fld,h1,h2,h.1,h.2⟩
  ·cases h
 ·cases h

def H5d (P:Program) (T n k:Nat):Bool:=
 match P.underlying T with
 | some (.array m e)=>m==n&&Rj P e k
 | _=>false
theorem H5d.out {P:Program} {T n k:Nat} (h:H5d P T n k=true):∃ e,P.underlying T=some (.array n e)∧Rj P e k=true:=by
 unfold H5d at h
 split at h
 ·rename_i m e h1
  simp only [Ki,beq_iff_eq] at h
  obtain⟨rfl,h2⟩:=h
  exact⟨_,h1,h2⟩
 ·cases h
theorem H91 {P:Program} {T n k b o m:Nat} {kd:IntKind} (h:H5d P T n k=true) (hm:m < n) (w:World):(Instr.indexAt T (.pointer (some ⟨b,o,none⟩)) (.int kd (m:Int))).run P w=.ok (.pointer (some ⟨b,o+m*k,none⟩)) w:=by
 obtain⟨e,h1,h2⟩:=H5d.out h
 have hs:=J7 h2 w
 have h0:(0:Int)≤(m:Int)∧(m:Int) < (n:Int):=by omega
 simp [Instr.indexAt,asIntOf,underlying,h1,Instr.sureAddr,hs,h0,Addr.add_lit]
 intro hc
 omega
section ops
variable {P:Program} {N:Cfg} {o:Oper} {l:Fr} {L L':Loc} {u:AV} {α:Type}

theorem G6c (i E k:Nat) {T:Nat} (ho:o.op=.buildSlice T 0 #[]) (hi:lk L i=none) (hT:sliceB P T E k=true):Gk P o l L (Is (.own i 0 k []) ((i,.spare E k 0 0)::L)):=by
 intro a w β K Q h0 hf hK
 unfold Oper.wp
 rw [J0c (E:=E) (k:=k) ho hT]
 obtain⟨st,sat,hv⟩:=Qfc E k h0 hi
 exact hK _ _ _ _ _ ⟨rfl,rfl⟩ sat st hv

theorem Hed (w:World) (base:Nat) (t ty e:TypeId) (i:TypeInfo) (size:Nat) (ht:P.underlying t=some (.slice e)) (hi:P.info? e=some i)
  (v:Value) (n:Nat) (xs:List Value) (h0:w.ownsRow base e size v n xs) (ao:Option Addr) (c:Nat) :
  (Builtin.append_ #[t,t] ty #[v,.slice ao 0 c]).run P w=.ok v w:=by
 rcases h0.2 with ⟨rfl,rfl⟩ | ⟨g,cap,cur,rfl,_,_,h1,_⟩
 ·cases ao <;> simp [Builtin.append_,run_underlying ht,sizeOf,typeInfo,hi,Builtin.lenOf,Builtin.firstCells,loadCells,loadCellsFrom]
 ·cases ao <;> simp [Builtin.append_,run_underlying ht,sizeOf,typeInfo,hi,Builtin.lenOf,Builtin.firstCells,h1,storeCells,loadCells,loadCellsFrom]

theorem Qa1 {s x:Operand} {T E k by_ i ver n:Nat} {kx:Nat} {xs:List AV} (ho:o.op=.call { callee:=.builtin .append,args:=#[s,x],argTypes:=#[T,T] }) (hs:ev l s=.own i ver k xs) (hi:lk L i=some (.spare E k ver n)) (hx:Je (ev l x)=some (kx,[]))
  (hT:sliceB P T E k=true) (hE:Qe P E k by_=true):Gk P o l L (Is (.own i ver k xs) L):=
 H2 fun a w β h7 hf=>by
  have hv:=hf.ev s
  rw [hs] at hv
  have h4:=(hf.ev x).Je hx
  obtain⟨ao,cap,h5,_⟩:=h4.len
  obtain⟨inf,z,e1,e2,e3,e4,e5,e6⟩:=Qe.out hE
  have h6:=hv
  cases hv with
  | data h=>cases h
  | own hd hp=>
   obtain⟨t,ver',hw,h1,h2,h3⟩:=hp
   rw [hi] at h1
   cases h1
   obtain⟨rfl,h8,vals,h0,h9⟩:=h3 rfl
   have hr:=Hed (P:=P) w 0 T o.type E inf k (sliceB.out hT).1 e1 (a.eval s) _ _ h0 ao cap
   exact⟨a.eval s,by simp [execOp,ho,resolve,invoke,builtin,h5,hr],h6⟩

theorem Yc {L:Loc} {s x:Operand} {T E k by_ i kx:Nat} {f:α→AV} {xs ys:List α} (ho:o.op=.call { callee:=.builtin .append,args:=#[s,x],argTypes:=#[T,T] }) (hs:ev l s=OW i k f xs) (hi:lk L i=some (.spare E k xs.length xs.length)) (hx:Je (ev l x)=some (kx,ys.map f))
  (hT:sliceB P T E k=true) (hE:Qe P E k by_=true) (hb:decide ((xs.length+ys.length)*by_≤140737488355328∧xs.length+ys.length≤maxLen)=true) (h2:∀ y,(f y).flatOk=true) (hk:kx=k∨ys=[]) :
  Gk P o l L (Is (OW i k f (xs++ys)) ((i,.spare E k (xs++ys).length (xs++ys).length)::L)):=by
 have h3:=Ep hb
 by_cases h0:ys=[]
 ·subst h0
  have h:=Qa1 (P:=P) (o:=o) (by_:=by_) ho hs hi (by simpa using hx) hT hE
  rw [List.append_nil]
  intro a w β K Q h4 hf hK
  refine h a w β K Q h4 hf (fun u L1 v w1 β1 hu h5 st1 h6=>?_)
  obtain⟨rfl,rfl⟩:=hu
  have h1:G67 L1 ((i,.spare E k xs.length xs.length)::L1):=fun j=>by
   rw [G8]
   by_cases e:i=j
   ·subst e; rw [if_pos rfl,hi]
   ·rw [if_neg e]
  exact hK _ _ v w1 β1 ⟨rfl,rfl⟩ (h5.locEq h1) (st1.locEq h1) (h6.locEq h1)
 ·have h:=Hd0 (ver1:=(xs++ys).length) (xs:=xs.map f) (ys:=ys.map f) ho hs hi hx hT hE (by simpa using h3.1) (by simpa using h3.2) (fun y hy=>by
   obtain⟨z,_,rfl⟩:=Kn.1 hy
   exact h2 z) (hk.imp id (fun e=>by rw [e]; rfl)) (by
   have:=List.length_pos_iff.2 h0
   rw [Kg]; omega)
  simpa only [OW,List.map_append,Kg,Kk] using h
theorem R72 {x ix:Operand} {T n k i o' m:Nat} {kd:IntKind} {z:Int} (hT:H5d P T n k=true) (ho:o.op=.indexAddr T x ix) (hx:ev l x=.ptr i o') (hi:ev l ix=.sc (.int kd z)) (hz:z=(m:Int)) (hm:Nat.blt m n=true):Gk P o l L (Is (.ptr i (o'+m*k)) L):=
 H2 fun a w β _ hf=>by
  subst hz
  have h1:=hf.ev x
  rw [hx] at h1
  have h2:=hf.ev ix
  rw [hi] at h2
  obtain⟨ax,h0⟩:∃ ax,a.eval x=ax:=⟨_,rfl⟩
  rw [h0] at h1
  cases h1 with
  | data h=>cases h
  | ptr hi h=>exact⟨_,by simp only [execOp,ho,h0,h2.inv_sc,Sem.run_bind,H91 hT (by simpa [Nat.blt_eq] using hm)]; rfl,.ptr hi h⟩
end ops
end Go.Proofs.Ytokjlondbjdlfaa
