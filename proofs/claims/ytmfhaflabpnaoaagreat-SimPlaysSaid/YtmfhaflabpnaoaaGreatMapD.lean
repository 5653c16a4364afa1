/-
 More steps: Slices that begin aQ an empty literal and are appended to; Is a slice nil: Appending to a part from the front of a slice of the call's A slice of slices of the call's own,whose last slice still g Drawn orders whose last operation,behind all the others,is g The typed steps of slices of slices whose last slice grows. Slices with known cells behind them: Maps from which entries are deleted:
-/
import Derived.Test.YtmfhaflabpnaoaaGreatRangeF
import Derived.Test.YtmfhaflabpnaoaaGreatSortI
set_option linter.unusedSimpArgs false
namespace Go.Proofs.YtmfhaflabpnaoaaGreat
open Go.RowKit

theorem Rf.vecCell {N:Cfg} {w0 w:World} {β0 β:H5} {L0 L:Loc} {a:Act} {l:Fr} (hs:Rf N w0 β0 L0 a w β l L) (i j id E k:Nat) {t:TypeId} {cs cs':List AV} (hi:lk L i=some (.box t cs)) (hid:lk L id=none) (hj:cs[j]? = some (.sc (.slice none 0 0)))
  (h2:cs.set j (.vec id 0 k 0)=cs'):∃ β',Rf N w0 β0 L0 a w β' l ((i,.box t cs')::(id,.vec E k 0 [])::L):=by
 obtain⟨st,sat⟩:=Rq (w':=w) (t:=E) (k:=k) (ver1:=0) (xs':=[]) (ob':=none) hs.sat (.inl hid) rfl rfl ⟨rfl,M5⟩ (M5) (fun _ _ _=>rfl) (.inl rfl)
 have h1:Rf N w0 β0 L0 a w (upP β id none) l ((id,.vec E k 0 [])::L):=⟨sat ⟨by simp,.inl ⟨rfl,rfl⟩⟩,hs.step.trans st,hs.frame.step st,hs.size,hs.base,hs.defers.step st⟩
 have h3:id≠i:=fun e=>by subst e; rw [hi] at hid; cases hid
 refine⟨_,h1.redescribe (i:=i) (t:=t) (cs:=cs) (by rw [Gm,if_neg h3]; exact hi) (by rw [← h2]; simp) fun vs q u v h0 h5 hu hv=>?_⟩
 rw [← h2] at hu
 by_cases e:j=q
 ·subst e
  have h4:j < cs.length:=(M0 hj).1
  simp [List.getElem?_set,h4] at hu
  subst hu
  have:=h0 j _ v hj hv
  rw [this.inv_sc]
  exact .vec ⟨E,0,[],(by rw [Gm,if_pos rfl]:lk ((id,Jh.vec E k 0 [])::L) id=_),M5,fun _=>⟨rfl,.inl ⟨rfl,rfl,by rw [show (upP β id none).at_ id=none by simp [upP]]⟩⟩⟩ rfl
 ·rw [List.getElem?_set_ne e] at hu
  exact h0 q u v hu hv
theorem R89 {P:Program} {N:Cfg} {ops:Array Oper} {rest:List Oper} {Q:Post} {l:Fr} {L:Loc} (i j id E k:Nat) {t:TypeId} {cs cs':List AV} (hi:lk L i=some (.box t cs)) (hid:lk L id=none) (hj:cs[j]? = some (.sc (.slice none 0 0)))
  (h0:cs.set j (.vec id 0 k 0)=cs') (hk:JL P N ops rest Q l ((i,.box t cs')::(id,.vec E k 0 [])::L)):JL P N ops rest Q l L:=
 fun n w0 β0 L0 a w β hs=>by
  obtain⟨β',h⟩:=hs.vecCell i j id E k hi hid hj h0
  exact hk n w0 β0 L0 a w β' h

theorem Jx.ver {P:Program} {f:FuncId} {args:List AV} {i t k n:Nat} {xs:List AV} (h:Jx P f args [] (fun u L'=>∃ p:Nat,u=.vec i p k n∧L'=[(i,.vec t k p xs)])) (q:Nat):Jx P f args [] (fun u L'=>u=.vec i q k n∧L'=[(i,.vec t k q xs)]):=by
 intro w β vs h6 hl hv
 refine(h w β vs h6 hl hv).mono fun e w' hr=>?_
 obtain⟨v,r,β',L',rfl,hs,st,h8,p,rfl,rfl⟩:=hr
 have h4:∀ id,(lk [(i,Jh.vec t k p xs)] id).isSome=(lk [(i,Jh.vec t k q xs)] id).isSome:=fun id=>by
  rw [Gm,Gm]; split <;> rfl
 have h5:∀ b j,Jj w' β' [(i,Jh.vec t k p xs)] b j→Jj w' β' [(i,Jh.vec t k q xs)] b j:=fun b j h=>⟨h.lt,h.seen,fun id o ho hb=>by
  rw [Gm] at ho
  by_cases e:i=id
  ·subst e
   rw [if_pos rfl] at ho; cases ho
   exact(show False from h.kept i (.vec t k p xs) (by rw [Gm,if_pos rfl]) hb).elim
  ·rw [if_neg e] at ho; cases ho⟩
 refine⟨v,_,β',_,rfl,⟨hs.hid,fun id b h1=>hs.bnd id b (by rw [h4]; exact h1),fun id b j h1=>hs.apart id b j (by rw [h4]; exact h1),fun id id' b h1 h2=>hs.inj id id' b (by rw [h4]; exact h1) (by rw [h4]; exact h2),fun id o ho=>?_⟩,
  ⟨st.os,st.tape,st.output,st.size,st.hid,fun b j h=>⟨h5 b j (st.stab b j h).1,(st.stab b j h).2⟩,fun b hb hf=>⟨(st.far b hb hf).1,fun id hid=>(st.far b hb hf).2 id (by rw [h4]; exact hid)⟩,fun id t cs h=>by simp [lk] at h,fun id t cs h=>by simp [lk] at h,fun id t n cs h=>by simp [lk] at h,fun id t k ver xs h=>by simp [lk] at h,fun id t k ver xs h=>by simp [lk] at h⟩,?_,rfl,rfl⟩
 ·rw [Gm] at ho
  by_cases e:i=id
  ·subst e
   rw [if_pos rfl] at ho; cases ho
   have h0:=hs.obj i _ (by rw [Gm,if_pos rfl])
   refine⟨h0.1,h0.2.imp_right ?_⟩
   rintro⟨b,hb,vs,a1,a2,a3⟩
   exact⟨b,hb,vs,a1,a2,fun j u v hu hv=>(a3 j u v hu hv).mono fun b i hs=>⟨h5 b i hs,rfl⟩⟩
  ·rw [if_neg e] at ho; cases ho
 ·cases h8 with
  | data h=>cases h
  | vec hp h7=>
   obtain⟨t',ver',xs',h1,_,h3⟩:=hp
   rw [Gm,if_pos rfl] at h1; cases h1
   exact .vec ⟨t,q,xs,by rw [Gm,if_pos rfl],M5,fun _=>h3 rfl⟩ h7
theorem Jx.fresh0 {P:Program} {f:FuncId} {args:List AV} {i E k n:Nat} {xs:List AV} (h:Jx P f args [] (fun av L'=>∃ p,av=.vec i p k n∧L'=[(i,.vec E k p xs)])):Jx P f args [] (fun av L'=>av=.vec i 0 k n∧L'=[(i,.vec E k 0 xs)]):=h.ver 0

def Gb8 (l:Fr):List Operand→List AV→Prop
 | [],[]=>True
 | x::r,u::s=>((ev l x).plain=u∨∃ k,u=.list k []∧ev l x=.sc (.slice none 0 0))∧u.isData=true∧Gb8 l r s
 | _,_=>False
theorem Gb8.length {l:Fr}:∀ {xs:List Operand} {us:List AV},Gb8 l xs us→xs.length=us.length
 | [],[],_=>rfl
 | _::_,_::_,h=>by simp [Gb8.length h.2.2]
 | [],_::_,h=>h.elim
 | _::_,[],h=>h.elim
/-! ### A variable of a map's type is set anew: the new map takes the old one's name -/

theorem Q18 {P:Program} {o:Oper} {a:Act} {w:World} {T E k:Nat} (ho:o.op=.buildSlice T 0 #[]) (hT:sliceB P T E k=true):(execOp a.eval o).run P w=.ok (.value (.slice (some ⟨w.heap.size,0,none⟩) 0 0)) (w.alloc (.cells #[] E)):=by
 have h0:=Q9 (sliceB.out hT).2 w
 simp [execOp,ho,Instr.buildSlice,underlying,(sliceB.out hT).1,run_program,Sem.run_bind,Result.andThen_ok,h0,newRow,Instr.fill]
 exact congrArg (fun x=>w.alloc (Obj.cells x E)) (Array.toList_inj.1 (by simp))

theorem R9f {w:World} {β:H5} {L:Loc} {i:Nat} (E k:Nat) (vs:Array Value) (cap:Nat) (h7:cap≤maxLen) (h8:(w.alloc (.cells vs E)).ownsRow 0 E k (.slice (some ⟨w.heap.size,0,none⟩) 0 cap) 0 []) (h0:Sat w β L) (hi:lk L i=none) :
  Step w β L (w.alloc (.cells vs E)) (upP β i (some w.heap.size)) ((i,.spare E k 0 0)::L)∧Sat (w.alloc (.cells vs E)) (upP β i (some w.heap.size)) ((i,.spare E k 0 0)::L) ∧
  V (w.alloc (.cells vs E)) (upP β i (some w.heap.size)) ((i,.spare E k 0 0)::L) (.own i 0 k []) (.slice (some ⟨w.heap.size,0,none⟩) 0 cap):=by
 have a0:∀ id,(lk L id).isSome=true→i≠id:=fun id h e=>by subst e; rw [hi] at h; cases h
 have h5:∀ b,b < w.heap.size→(w.alloc (.cells vs E)).heap[b]? = w.heap[b]? := fun b hb=>Q2 w _ hb
 have h6:w.heap.size < (w.alloc (.cells vs E)).heap.size:=by simp
 have st:Step w β L (w.alloc (.cells vs E)) (upP β i (some w.heap.size)) ((i,.spare E k 0 0)::L):=by
  refine⟨rfl,rfl,⟨rfl,M5⟩,Nat.le_of_lt h6,fun _ _ _=>Iff.rfl,fun b j hs=>⟨⟨Nat.lt_trans hs.lt h6,hs.seen,fun id ob hid hb=>?_⟩,Jw (w:=w) (h5 b hs.lt)⟩,fun b hb h9=>⟨h5 b hb,fun id hid e=>?_⟩,fun id t cs hid=>?_,fun id t cs hid=>?_,fun id t n cs hid=>?_,fun id t k' ver xs hid=>?_,fun id t k' ver hw hid=>?_⟩
  ·rw [Gm] at hid
   by_cases e:i=id
   ·subst e; simp only [upP,if_true] at hb; cases hb; exact absurd hs.lt (Nat.lt_irrefl _)
   ·rw [if_neg e] at hid; simp only [upP,if_neg (Ne.symm e)] at hb; exact hs.kept id ob hid hb
  ·rw [Gm] at hid
   by_cases e':i=id
   ·subst e'; simp only [upP,if_true] at e; cases e; exact absurd hb (Nat.lt_irrefl _)
   ·rw [if_neg e'] at hid; simp only [upP,if_neg (Ne.symm e')] at e; exact h9 id hid e
  all_goals
   have e:=a0 id (by rw [hid]; rfl)
  ·exact⟨by simp [upP,Ne.symm e],cs,by rw [Gm,if_neg e]; exact hid⟩
  ·exact⟨by simp [upP,Ne.symm e],cs,by rw [Gm,if_neg e]; exact hid⟩
  ·exact⟨by simp [upP,Ne.symm e],n,cs,by rw [Gm,if_neg e]; exact hid⟩
  ·exact⟨ver,xs,by rw [Gm,if_neg e]; exact hid,M5,fun _=>⟨rfl,by simp [upP,Ne.symm e],fun b hb=>G11 (h5 b (h0.bnd id b (by rw [hid]; rfl) hb))⟩⟩
  ·exact⟨ver,hw,by rw [Gm,if_neg e]; exact hid,M5,fun _=>⟨rfl,by simp [upP,Ne.symm e],fun b hb=>h5 b (h0.bnd id b (by rw [hid]; rfl) hb)⟩⟩
 refine⟨st,⟨fun b j h=>Nat.lt_trans (h0.hid b j h) h6,fun id b hid hb=>?_,fun id b j hid hb hh=>?_,fun id id' b h1 h2 h3 h4=>?_,fun id ob hid=>?_⟩,?_⟩
 ·rw [Gm] at hid
  by_cases e:i=id
  ·subst e; simp only [upP,if_true] at hb; cases hb; exact h6
  ·rw [if_neg e] at hid; simp only [upP,if_neg (Ne.symm e)] at hb; exact Nat.lt_trans (h0.bnd id b hid hb) h6
 ·rw [Gm] at hid
  by_cases e:i=id
  ·subst e; simp only [upP,if_true] at hb; cases hb; exact absurd (h0.hid _ _ hh) (Nat.lt_irrefl _)
  ·rw [if_neg e] at hid; simp only [upP,if_neg (Ne.symm e)] at hb; exact h0.apart id b j hid hb hh
 ·by_cases e:i=id
  ·by_cases e':i=id'
   ·rw [← e,e']
   ·subst e
    rw [Gm,if_neg e'] at h2
    simp only [upP,if_true] at h3
    simp only [upP,if_neg (Ne.symm e')] at h4
    cases h3
    exact absurd (h0.bnd id' _ h2 h4) (Nat.lt_irrefl _)
  ·by_cases e':i=id'
   ·subst e'
    rw [Gm,if_neg e] at h1
    simp only [upP,if_true] at h4
    simp only [upP,if_neg (Ne.symm e)] at h3
    cases h4
    exact absurd (h0.bnd id _ h1 h3) (Nat.lt_irrefl _)
   ·rw [Gm,if_neg e] at h1
    rw [Gm,if_neg e'] at h2
    simp only [upP,if_neg (Ne.symm e)] at h3
    simp only [upP,if_neg (Ne.symm e')] at h4
    exact h0.inj id id' b h1 h2 h3 h4
 ·rw [Gm] at hid
  by_cases e:i=id
  ·subst e; simp at hid; subst hid
   exact .inr ⟨w.heap.size,by simp [upP],vs,heap_alloc_new w _,by simp⟩
  ·rw [if_neg e] at hid
   simp only [upP,if_neg (Ne.symm e)]
   exact(h0.obj id ob hid).step st (fun b hb=>h5 b (h0.bnd id b (by rw [hid]; rfl) hb))
 ·exact .own (.nil h7) ⟨E,0,0,by rw [Gm,if_pos rfl],M5,fun _=>⟨rfl,by simp [Value.ownBlock,upP],[],h8,fun j u hu=>by simp [flat] at hu⟩⟩

theorem Y55 {w:World} {β:H5} {L:Loc} {i:Nat} (E k:Nat) (h0:Sat w β L) (hi:lk L i=none) :
  Step w β L (w.alloc (.cells #[] E)) (upP β i (some w.heap.size)) ((i,.spare E k 0 0)::L)∧Sat (w.alloc (.cells #[] E)) (upP β i (some w.heap.size)) ((i,.spare E k 0 0)::L) ∧
  V (w.alloc (.cells #[] E)) (upP β i (some w.heap.size)) ((i,.spare E k 0 0)::L) (.own i 0 k []) (.slice (some ⟨w.heap.size,0,none⟩) 0 0):=
 R9f E k #[] 0 (Nat.zero_le _) (World.ownsRow_lit w #[] 0 (Nat.zero_le _) (Nat.zero_le _) (by simp)) h0 hi

section ops
variable {P:Program} {N:Cfg} {o:Oper} {l:Fr} {L L':Loc} {u:AV} {α:Type}

theorem Q57 (i E k:Nat) {T:Nat} (ho:o.op=.buildSlice T 0 #[]) (hi:lk L i=none) (hT:sliceB P T E k=true):H2 P o l L (Is (.own i 0 k []) ((i,.spare E k 0 0)::L)):=by
 intro a w β K Q h0 hf hK
 unfold Oper.wp
 rw [Q18 (E:=E) (k:=k) ho hT]
 obtain⟨st,sat,hv⟩:=Y55 E k h0 hi
 exact hK _ _ _ _ _ ⟨rfl,rfl⟩ sat st hv

theorem Jbb (w:World) (base:Nat) (t ty e:TypeId) (i:TypeInfo) (size:Nat) (ht:P.underlying t=some (.slice e)) (hi:P.info? e=some i)
  (v:Value) (n:Nat) (xs:List Value) (h0:w.ownsRow base e size v n xs) (ao:Option Addr) (c:Nat) :
  (Builtin.append_ #[t,t] ty #[v,.slice ao 0 c]).run P w=.ok v w:=by
 rcases h0.2 with ⟨rfl,rfl⟩ | ⟨g,cap,cur,rfl,_,_,h1,_⟩
 ·cases ao <;> simp [Builtin.append_,run_underlying ht,sizeOf,typeInfo,hi,Builtin.lenOf,Builtin.firstCells,loadCells,loadCellsFrom]
 ·cases ao <;> simp [Builtin.append_,run_underlying ht,sizeOf,typeInfo,hi,Builtin.lenOf,Builtin.firstCells,h1,storeCells,loadCells,loadCellsFrom]

theorem Rf8 {s x:Operand} {T E k by_ i ver n:Nat} {kx:Nat} {xs:List AV} (ho:o.op=.call { callee:=.builtin .append,args:=#[s,x],argTypes:=#[T,T] }) (hs:ev l s=.own i ver k xs) (hi:lk L i=some (.spare E k ver n)) (hx:Qb (ev l x)=some (kx,[]))
  (hT:sliceB P T E k=true) (hE:Zd P E k by_=true):H2 P o l L (Is (.own i ver k xs) L):=
 Hf fun a w β h7 hf=>by
  have hv:=hf.ev s
  rw [hs] at hv
  have h4:=(hf.ev x).Qb hx
  obtain⟨ao,cap,h5,_⟩:=h4.len
  obtain⟨inf,z,e1,e2,e3,e4,e5,e6⟩:=Zd.out hE
  have h6:=hv
  cases hv with
  | data h=>cases h
  | own hd hp=>
   obtain⟨t,ver',hw,h1,h2,h3⟩:=hp
   rw [hi] at h1
   cases h1
   obtain⟨rfl,h8,vals,h0,h9⟩:=h3 rfl
   have hr:=Jbb (P:=P) w 0 T o.type E inf k (sliceB.out hT).1 e1 (a.eval s) _ _ h0 ao cap
   exact⟨a.eval s,by simp [execOp,ho,resolve,invoke,builtin,h5,hr],h6⟩

theorem J01 {L:Loc} {s x:Operand} {T E k by_ i kx:Nat} {f:α→AV} {xs ys:List α} (ho:o.op=.call { callee:=.builtin .append,args:=#[s,x],argTypes:=#[T,T] }) (hs:ev l s=OW i k f xs) (hi:lk L i=some (.spare E k xs.length xs.length)) (hx:Qb (ev l x)=some (kx,ys.map f))
  (hT:sliceB P T E k=true) (hE:Zd P E k by_=true) (hb:decide ((xs.length+ys.length)*by_≤140737488355328∧xs.length+ys.length≤maxLen)=true) (h2:∀ y,(f y).flatOk=true) (hk:kx=k∨ys=[]) :
  H2 P o l L (Is (OW i k f (xs++ys)) ((i,.spare E k (xs++ys).length (xs++ys).length)::L)):=by
 have h3:=Kw hb
 by_cases h0:ys=[]
 ·subst h0
  have h:=Rf8 (P:=P) (o:=o) (by_:=by_) ho hs hi (by simpa using hx) hT hE
  rw [List.append_nil]
  intro a w β K Q h4 hf hK
  refine h a w β K Q h4 hf (fun u L1 v w1 β1 hu h5 st1 h6=>?_)
  obtain⟨rfl,rfl⟩:=hu
  have h1:H5e L1 ((i,.spare E k xs.length xs.length)::L1):=fun j=>by
   rw [Gm]
   by_cases e:i=j
   ·subst e; rw [if_pos rfl,hi]
   ·rw [if_neg e]
  exact hK _ _ v w1 β1 ⟨rfl,rfl⟩ (h5.locEq h1) (st1.locEq h1) (h6.locEq h1)
 ·have h:=J8e (ver1:=(xs++ys).length) (xs:=xs.map f) (ys:=ys.map f) ho hs hi hx hT hE (by simpa using h3.1) (by simpa using h3.2) (fun y hy=>by
   obtain⟨z,_,rfl⟩:=Mi.1 hy
   exact h2 z) (hk.imp id (fun e=>by rw [e]; rfl)) (by
   have:=List.length_pos_iff.2 h0
   rw [Mc]; omega)
  simpa only [OW,List.map_append,Mc,Mg] using h
theorem Qa1 {x y:Operand} {T i ver m t k kk fo:Nat} {f:α→AV} {xs:List α} {e z:α} {u:AV} (hT:Zh P T kk=true) (ho:o.op=.store T x y) (hu:ev l y=u) (hx:ev l x=.vptr i ver m fo) (hi:lk L i=some (.vec t k ver (xs.map f))) (he:xs[m]? = some e)
  (hc:u.flatOk=true) (hd:u.isData=true) (h1:J02 fo u.cells (f e).cells=some (f z).cells) (hk:u.cells.length=kk) (h0:Nat.blt 0 kk=true) :
  H2 P o l L (Is .junk ((i,.vec t k ver ((xs.set m z).map f))::L)):=by
 have h:=R24 (P:=P) (e:=f e) (z:=f z) (ds:=(f z).cells) hT ho hu hx hi (Y5a he) hc hd h1 rfl hk h0
 rw [← List.map_set] at h
 exact h
end ops

theorem Rcf {P:Program} {T E k:Nat} (hT:sliceB P T E k=true) (a:Option Addr) (n c:Nat) (w:World):(Op.equal T (.slice a n c) (.slice none 0 0)).run P w=.ok a.isNone w:=by
 have h:=(sliceB.out hT).1
 unfold Op.equal
 generalize hd:Op.maxDepth=d
 obtain⟨d,rfl⟩:∃ m,d=m+1:=⟨Op.maxDepth - 1,by rw [← hd]; rfl⟩
 clear hd
 cases a with
 | none=>rw [Op.equalIn]; simp [underlying,h]
 | some a=>rw [Op.equalIn]; simp [underlying,h]

def R76 {α β:Type} [DecidableEq β] (xs:List α) (k:Bool→Option β):Option β:=
 match xs with
 | []=>if k true=k false then k false else none
 | _=>k false
theorem H78 {α β γ:Type} [DecidableEq β] {xs:List α} {k:Bool→Option β} {r:β} {f:α→γ} (h:R76 xs k=some r) (b:Bool) (hb:b=true→xs.map f=[]):k b=some r:=by
 cases xs with
 | nil=>
  have h:(if k true=k false then k false else none)=some r:=h
  by_cases e:k true=k false
  ·rw [if_pos e] at h
   cases b with
   | true=>rw [e]; exact h
   | false=>exact h
  ·rw [if_neg e] at h; cases h
 | cons x l=>
  cases b with
  | true=>have:=hb rfl; cases this
  | false=>exact h
section
variable {P:Program} {o:Oper} {l:Fr} {L:Loc}
theorem J00 {x:Operand} {T T' E k k':Nat} {xs:List AV} (hT:sliceB P T E k'=true) (ho:o.op=.binOp .eql T x (.const (.slice none 0 0)) T') (hx:Qb (ev l x)=some (k,xs)):H2 P o l L (fun u L'=>∃ b:Bool,(b=true→xs=[])∧u=BL b∧L'=L):=by
 intro a w β K Q h0 hf hK
 have hd:=(hf.ev x).Qb hx
 have key:∀ ao n c,a.eval x=.slice ao n c→(execOp a.eval o).run P w=.ok (.value (.bool ao.isNone)) w:=fun ao n c e=>by
  have e2:a.eval (.const (.slice none 0 0))=.slice none 0 0:=rfl
  simp [execOp,ho,eqGuard,binOp,e,e2,Rcf hT]
 generalize hv:a.eval x=v at hd
 cases hd with
 | nil h=>
  rename_i cap ao
  unfold Oper.wp
  rw [key _ _ _ hv]
  exact hK _ _ _ _ _ ⟨ao.isNone,fun _=>rfl,rfl,rfl⟩ h0 (Step.refl _ _ _) .sc
 | list vals h1 hm hk hS h=>
  unfold Oper.wp
  rw [key _ _ _ hv]
  exact hK _ _ _ _ _ ⟨false,fun e=>(by cases e),rfl,rfl⟩ h0 (Step.refl _ _ _) .sc
theorem Qce (i E k:Nat) {x:Operand} {ver:Nat} {xs:List AV} (ho:o.op=.assign x) (hx:ev l x=.sc (.slice none 0 0)) (hi:lk L i=some (.vec E k ver xs)):H2 P o l L (Is (.vec i (ver+1) k 0) ((i,.vec E k (ver+1) [])::L)):=by
 intro a w β K Q h0 hf hK
 have hv:=hf.ev x
 rw [hx] at hv
 have hr:(execOp a.eval o).run P w=.ok (.value (.slice none 0 0)) w:=by simp [execOp,ho,hv.inv_sc]
 unfold Oper.wp
 rw [hr]
 obtain⟨st,sat⟩:=Rq (w':=w) (t:=E) (k:=k) (ver1:=ver+1) (xs':=[]) (ob':=none) h0 (.inr ⟨ver,xs,hi,by omega,fun e=>by omega⟩) rfl rfl ⟨rfl,M5⟩ (M5) (fun _ _ _=>rfl) (.inl rfl)
 exact hK _ _ _ w _ ⟨rfl,rfl⟩ (sat ⟨by simp,.inl ⟨rfl,rfl⟩⟩) st (.vec ⟨E,ver+1,[],by rw [Gm,if_pos rfl],M5,fun _=>⟨rfl,.inl ⟨rfl,rfl,by simp [upP]⟩⟩⟩ rfl)
theorem Qcf (i E k:Nat) {T ver:Nat} {xs:List AV} (ho:o.op=.buildSlice T 0 #[]) (hi:lk L i=some (.vec E k ver xs)) (hT:sliceB P T E k=true):H2 P o l L (Is (.vec i (ver+1) k 0) ((i,.vec E k (ver+1) [])::L)):=by
 intro a w β K Q h1 hf hK
 unfold Oper.wp
 rw [Q18 (E:=E) (k:=k) ho hT]
 have h0:w.heap.size < (w.alloc (.cells #[] E)).heap.size:=by simp
 obtain⟨st,sat⟩:=Rq (w':=w.alloc (.cells #[] E)) (t:=E) (k:=k) (ver1:=ver+1) (xs':=[]) (ob':=some w.heap.size) h1 (.inr ⟨ver,xs,hi,by omega,fun e=>by omega⟩) rfl rfl ⟨rfl,M5⟩ (Nat.le_of_lt h0) (fun b hb _=>Q2 w _ hb) (.inr (.inr ⟨_,rfl,M5,h0⟩))
 have hn:=heap_alloc_new w (.cells #[] E)
 exact hK _ _ _ _ _ ⟨rfl,rfl⟩ (sat ⟨by simp,.inr ⟨_,rfl,#[],hn,by simp,fun j u v hu=>by simp [flat] at hu⟩⟩) st (.vec ⟨E,ver+1,[],by rw [Gm,if_pos rfl],M5,fun _=>⟨rfl,.inr ⟨w.heap.size,0,rfl,by simp [upP],M5,Nat.zero_le _,by simp only [World.shape?,hn,Option.bind_some]; simp⟩⟩⟩ rfl)
end

section
variable {P:Program} {o:Oper} {l:Fr} {L:Loc}
end
set_option linter.unusedVariables false

section moves
variable {w w':World} {β:H5} {L:Loc} {i t k ver1 hw1:Nat}
end moves

section ops
variable {P:Program} {N:Cfg} {Q:Post} {o:Oper} {ops:Array Oper} {rest:List Oper} {l:Fr} {L:Loc}

end ops

section freeze
variable {P:Program} {N:Cfg} {Q:Post} {l l':Fr} {L L':Loc}

end freeze

/-! ### Typed -/
section typed
variable {α:Type}
end typed
set_option linter.unusedVariables false

section sound
variable {P:Program} {N:Cfg} {ops:List Oper} {ws los his:List Nat} {Ls:List Loc} {l0:Fr} {val:Nat→AV}

end sound
set_option linter.unusedVariables false

section typed
variable {P:Program} {N:Cfg} {Q:Post} {o:Oper} {ops:Array Oper} {rest:List Oper} {l:Fr} {L:Loc} {α:Type}

end typed
set_option linter.unusedVariables false

inductive Cv:AV→AV→Prop
 | same {u:AV}:Cv u u
 | agg {cs ds:List AV} (hl:ds.length=cs.length) (h:∀ (j:Nat) u u',cs[j]? = some u→ds[j]? = some u'→Cv u u'):Cv (.agg cs) (.agg ds)
 | list {k:Nat} {xs ys:List AV} (hl:ys.length=xs.length) (hk:∀ (j:Nat) x y,xs[j]? = some x→ys[j]? = some y→y.cells.length=x.cells.length) (h:∀ (j:Nat) u u',(flat xs)[j]? = some u→(flat ys)[j]? = some u'→Cv u u'):Cv (.list k xs) (.list k ys)
 | lst {k:Nat} {xs ys zs:List AV} (h:Cv (.list k xs) (.list k ys)):Cv (.lst k xs zs) (.list k ys)
 | tail {k:Nat} {xs ys:List AV} (h:Cv (.list k xs) (.list k ys)):Cv (.list k xs) (.lst k ys [])
theorem D.list_lst {w:World} {S:Nat→Nat→Prop} {k:Nat} {xs:List AV} {v:Value} (h:D w S (.list k xs) v):D w S (.lst k xs []) v:=by
 cases h with
 | nil h=>exact .lnil h
 | list vals h0 hm hk hS h=>exact .lst vals (by simpa using h0) hm (by simpa using hk) (by simpa using hS) (by simpa using h)
theorem D.cv {w:World} {S:Nat→Nat→Prop} {u u':AV} (hc:Cv u u'):∀ {v:Value},D w S u v→D w S u' v:=by
 induction hc with
 | same=>exact fun h=>h
 | agg hl _ ih=>
  intro v h
  cases h with
  | agg h3 h=>
   refine .agg (by rw [h3,hl]) (fun j u' x h0 hx=>?_)
   have hj:=(M0 h0).1
   exact ih j _ u' (M1 (by omega)) h0 (h j _ x (M1 (by omega)) hx)
 | @list k xs ys hl hk _ ih=>
  intro v h
  cases h with
  | nil h=>
   have:ys=[]:=Kr (by simpa using hl)
   subst this; exact .nil h
  | list vals h4 hm h1 hS h=>
   have h2:∀ y∈ys,y.cells.length=k:=fun y hy=>by
    obtain⟨j,hj⟩:=List.mem_iff_getElem?.1 hy
    have h5:=(M0 hj).1
    have hx:xs[j]? = some (xs[j]'(by omega)):=M1 (by omega)
    rw [hk j _ y hx hj]
    exact h1 _ (M3 hx)
   have h6:(flat ys).length=(flat xs).length:=by rw [J3 h2,J3 h1,hl]
   rw [← hl]
   refine .list vals (by omega) hm h2 (fun j hj=>hS j (by omega)) (fun j u' h0=>?_)
   have hj:=(M0 h0).1
   exact ih j _ u' (M1 (by omega)) h0 (h j _ (M1 (by omega)))
 | lst _ ih=>exact fun h=>ih h.lst_list
 | tail _ ih=>exact fun h=>(ih h).list_lst
theorem V.cv {w:World} {β:H5} {L:Loc} {u u':AV} (hc:Cv u u'):∀ {v:Value},V w β L u v→V w β L u' v:=by
 induction hc with
 | same=>exact fun h=>h
 | agg hl _ ih=>
  intro v h
  obtain⟨vs,rfl,h1,h⟩:=h.inv_agg
  refine .agg (by rw [h1,hl]) (fun j u' x h0 hx=>?_)
  have hj:=(M0 h0).1
  exact ih j _ u' (M1 (by omega)) h0 (h j _ x (M1 (by omega)) hx)
 | list hl hk h=>exact fun hv=>.data (D.cv (.list hl hk h) hv.inv_list)
 | lst h=>exact fun hv=>by cases hv with | data hv=>exact .data (D.cv (.lst h) hv)
 | tail h=>exact fun hv=>.data (D.cv (.tail h) hv.inv_list)

def CvL:List AV→List AV→Prop
 | [],[]=>True
 | u::r,u'::r'=>Cv u u'∧CvL r r'
 | _,_=>False
theorem CvL.len:∀ {cs ds:List AV},CvL cs ds→ds.length=cs.length
 | [],[],_=>rfl
 | _::_,_::_,h=>by rw [M8,M8,CvL.len h.2]
 | [],_::_,h=>h.elim
 | _::_,[],h=>h.elim
theorem CvL.refl:∀ cs:List AV,CvL cs cs
 | []=>trivial
 | _::r=>⟨.same,CvL.refl r⟩
section typed
variable {α β:Type} {f:α→AV} {g:β→AV} {k:Nat}
abbrev Ln (α:Type):=List α×List α
abbrev LT {α:Type} (k:Nat) (f:α→AV) (e:Ln α):AV:=.lst k (e.1.map f) (e.2.map f)
theorem Cv.lst0 (e:Ln α):Cv (LT k f e) (LS k f e.1):=.lst .same
end typed

section ops
variable {P:Program} {N:Cfg} {o:Oper} {l:Fr} {L L':Loc} {u u':AV} {α:Type}
theorem H2.cv (hc:Cv u u') (h:H2 P o l L (Is u L')):H2 P o l L (Is u' L'):=fun a w β K Q hs hf hK=>h a w β K Q hs hf (fun v L'' x w' β' hr h0 h1 hv=>by
 obtain⟨rfl,rfl⟩:=hr
 exact hK _ _ _ _ _ ⟨rfl,rfl⟩ h0 h1 (hv.cv hc))
theorem Rf6 (i:Nat) {x y:Operand} {T E k by_ c:Nat} {kd kd':IntKind} {nx ny:Int} (ho:o.op=.makeSlice T x y) (hx:ev l x=.sc (.int kd nx)) (hy:ev l y=.sc (.int kd' ny)) (hi:lk L i=none)
  (hT:sliceB P T E k=true) (hE:Zd P E k by_=true) (h0:nx=0) (hm:ny=(c:Int)) (hb:decide (by_*c≤281474976710656∧c≤maxLen)=true):H2 P o l L (Is (.own i 0 k []) ((i,.spare E k 0 0)::L)):=by
 subst h0 hm
 intro a w β K Q h4 hf hK
 have h1:=Kw hb
 obtain⟨inf,zv,e1,e2,e3,e4,e5,e6⟩:=Zd.out hE
 have h2:=hf.ev x
 rw [hx] at h2
 have h3:=hf.ev y
 rw [hy] at h3
 have h5:(c:Int)≤9223372036854775807:=by
  have h:=h1.2
  simp [maxLen] at h
  omega
 have h7:(inf.bytes:Int)*(c:Int)≤281474976710656:=by
  have h:((inf.bytes*c:Nat):Int)≤281474976710656:=by rw [e3]; have:=h1.1; omega
  rwa [Int.natCast_mul] at h
 have hr:=run_make (P:=P) w T E inf zv (sliceB.out hT).1 e1 e4 kd kd' 0 c (Int.le_refl _) (by omega) h7 h5
 simp only [Int.toNat_zero,Int.toNat_natCast] at hr
 have h6:(execOp a.eval o).run P w=.ok (.value (.slice (some ⟨w.heap.size,0,none⟩) 0 c)) (w.alloc (.cells (madeCells zv.cells (c*inf.size)) E)):=by
  simp [execOp,ho,h2.inv_sc,h3.inv_sc,hr]
 unfold Oper.wp
 rw [h6]
 obtain⟨st,sat,hv⟩:=R9f E k (madeCells zv.cells (c*inf.size)) c h1.2 (World.ownsRow_made w _ c (Nat.zero_le _) h1.2 (by rw [size_madeCells,e2])) h4 hi
 exact hK _ _ _ _ _ ⟨rfl,rfl⟩ sat st hv

theorem J40 {T E k:Nat} (hT:sliceB P T E k=true) (a:Option Addr) (len cap n:Nat) (kd:IntKind) (w:World) (hn:n≤cap) :
  (Instr.sliceAt T (.slice a len cap) none (some (.int kd n)) none).run P w=.ok (.slice (if cap=0 then a else a.map (·.add (0*k))) n cap) w:=by
 obtain⟨h1,h2⟩:=sliceB.out hT
 have h3:=Q9 h2 w
 have hb:(Instr.sliceBound (.int kd (n:Int)) cap .sliceAcap).run P w=.ok n w:=by
  have:(0:Int)≤n∧(n:Int)≤cap:=⟨by omega,by omega⟩
  simp [Instr.sliceBound,asIntOf,this]
 have hs:(Instr.sliceBounds true len cap none (some (.int kd n)) none).run P w=.ok (0,n,cap) w:=by
  simp [Instr.sliceBounds,hb]
 simp [Instr.sliceAt,Instr.slice,run_underlying h1,hs,h3]
theorem D.cut {w:World} {S:Nat→Nat→Prop} {k n:Nat} {xs:List AV} {a:Option Addr} {len cap:Nat} (h:D w S (.list k xs) (.slice a len cap)) (hn:n≤xs.length) :
  D w S (.lst k (xs.take n) (xs.drop n)) (.slice (if cap=0 then a else a.map (·.add (0*k))) n cap):=by
 cases h with
 | nil h=>
  have:n=0:=by simpa using hn
  subst this
  simp only [List.take_nil,List.drop_nil]
  exact .lnil h
 | @list _ b off _ _ vals h0 hm hk hS h=>
  have e:(if cap=0 then some (⟨b,off,none⟩:Addr) else (some (⟨b,off,none⟩:Addr)).map (·.add (0*k)))=some ⟨b,off,none⟩:=by
   split <;> simp [Addr.add_lit]
  rw [e]
  have hl:(xs.take n).length=n:=by rw [List.length_take]; omega
  have:=D.lst (w:=w) (S:=S) (k:=k) (b:=b) (off:=off) (cap:=cap) (xs:=xs.take n) (ys:=xs.drop n) vals (by rw [← Mc,List.take_append_drop]; exact h0) hm (by rw [List.take_append_drop]; exact hk) (by rw [List.take_append_drop]; exact hS) (by rw [List.take_append_drop]; exact h)
  rwa [hl] at this
theorem D.whole {w:World} {S:Nat→Nat→Prop} {k n:Nat} {xs ys:List AV} {a:Option Addr} {len cap:Nat} (h:D w S (.lst k xs ys) (.slice a len cap)) (hn:n≤xs.length+ys.length) :
  D w S (.list k ((xs++ys).take n)) (.slice (if cap=0 then a else a.map (·.add (0*k))) n cap)∧xs.length+ys.length≤cap:=by
 cases h with
 | lnil h=>
  have:n=0:=by simpa using hn
  subst this
  exact⟨.nil h,Nat.zero_le _⟩
 | @lst _ b off _ _ _ vals h1 hm hk hS h=>
  refine⟨?_,h1⟩
  have e:(if cap=0 then some (⟨b,off,none⟩:Addr) else (some (⟨b,off,none⟩:Addr)).map (·.add (0*k)))=some ⟨b,off,none⟩:=by
   split <;> simp [Addr.add_lit]
  rw [e]
  have hl:((xs++ys).take n).length=n:=by rw [List.length_take,Mc]; omega
  have h0:flat ((xs++ys).take n)=(flat (xs++ys)).take (n*k):=G72 hk n
  have:=D.list (w:=w) (S:=S) (k:=k) (b:=b) (off:=off) (cap:=cap) (xs:=(xs++ys).take n) vals (by omega) hm (fun x hx=>hk x (List.mem_of_mem_take hx)) (fun j hj=>hS j (by rw [h0,List.length_take] at hj; omega)) (fun j u hu=>h j u (by
   rw [h0,Ma] at hu
   split at hu
   ·exact hu
   ·cases hu))
  rwa [hl] at this
theorem Z01 {x p:Operand} {T E k n:Nat} {kd:IntKind} {ni:Int} {f:α→AV} {xs:List α} (ho:o.op=.slice T x none (some p) none) (hx:Qb (ev l x)=some (k,xs.map f)) (hp:ev l p=.sc (.int kd ni)) (hT:sliceB P T E k=true) (hn:ni=(n:Int)∧n≤xs.length):H2 P o l L (Is (LT k f (xs.take n,xs.drop n)) L):=
 Hf fun a w β h3 hf=>by
  obtain⟨rfl,hn⟩:=hn
  have h1:=(hf.ev x).Qb hx
  obtain⟨ao,cap,he,h2,h4⟩:=h1.len
  rw [he] at h1
  have h0:=hf.ev p
  rw [hp] at h0
  rw [Mg] at h2
  refine⟨_,?_,.data (by
   have:=h1.cut (n:=n) (by rw [Mg]; exact hn)
   rw [← List.map_take,← List.map_drop] at this
   exact this)⟩
  simp only [execOp,ho,he,h0.inv_sc,Sem.run_bind,Option.map_none,Option.map_some]
  rw [J40 hT ao _ cap n kd w (by omega)]
  rfl
theorem Y71 {x p:Operand} {T E k n:Nat} {kd:IntKind} {ni:Int} {f:α→AV} {e:Ln α} (ho:o.op=.slice T x none (some p) none) (hx:ev l x=LT k f e) (hp:ev l p=.sc (.int kd ni)) (hT:sliceB P T E k=true) (hn:ni=(n:Int)∧n≤(e.1++e.2).length):H2 P o l L (Is (LS k f ((e.1++e.2).take n)) L):=
 Hf fun a w β h4 hf=>by
  obtain⟨rfl,hn⟩:=hn
  rw [Mc] at hn
  have h0:=hf.ev x
  rw [hx] at h0
  have h3:=hf.ev p
  rw [hp] at h3
  cases h0 with
  | data h0=>
   obtain⟨ao,cap,he,_,_⟩:=h0.lst_list.len
   rw [he] at h0
   obtain⟨h1,h2⟩:=h0.whole (n:=n) (by simpa using hn)
   rw [Mg,Mg] at h2
   refine⟨_,?_,.data (by
    rw [← List.map_append,← List.map_take] at h1
    exact h1)⟩
   simp only [execOp,ho,he,h3.inv_sc,Sem.run_bind,Option.map_none,Option.map_some]
   rw [J40 hT ao _ cap n kd w (by omega)]
   rfl
end ops

/-! ### The entries that are there yet -/
theorem H3c:∀ {es:List (Value×AV)} {vals:List Value} {i:Nat} {e:MapEntry},e∈Qj i es vals ↔ ∃ j p v,es[j]? = some p∧vals[j]? = some v∧isT p.2=false∧e=⟨p.1,v,i+j⟩
 | [],vals,i,e=>by simp [Qj]
 | p::es,[],i,e=>by simp [Qj]
 | p::es,v::vs,i,e=>by
  have ih:=H3c (es:=es) (vals:=vs) (i:=i+1) (e:=e)
  have shift:(∃ j p' v',es[j]? = some p'∧vs[j]? = some v'∧isT p'.2=false∧e=⟨p'.1,v',i+1+j⟩) ↔ ∃ j p' v',(p::es)[j+1]? = some p'∧(v::vs)[j+1]? = some v'∧isT p'.2=false∧e=⟨p'.1,v',i+(j+1)⟩:=by
   constructor
   ·rintro⟨j,p',v',h1,h2,h3,h4⟩; exact⟨j,p',v',by simpa using h1,by simpa using h2,h3,by rw [h4,Nat.add_assoc,Nat.add_comm 1 j]⟩
   ·rintro⟨j,p',v',h1,h2,h3,h4⟩; exact⟨j,p',v',by simpa using h1,by simpa using h2,h3,by rw [h4,Nat.add_assoc,Nat.add_comm 1 j]⟩
  cases hp:isT p.2 with
  | true=>
   simp only [Qj,hp,if_true]
   rw [ih,shift]
   constructor
   ·rintro⟨j,p',v',h⟩; exact⟨j+1,p',v',h⟩
   ·rintro⟨j,p',v',h1,h2,h3,h4⟩
    cases j with
    | zero=>simp at h1; subst h1; rw [hp] at h3; cases h3
    | succ j=>exact⟨j,p',v',h1,h2,h3,h4⟩
  | false=>
   simp only [Qj,hp,Bool.false_eq_true,if_false,Mk]
   rw [ih,shift]
   constructor
   ·rintro(h | ⟨j,p',v',h⟩)
    ·exact⟨0,p,v,rfl,rfl,hp,by simpa using h⟩
    ·exact⟨j+1,p',v',h⟩
   ·rintro⟨j,p',v',h1,h2,h3,h4⟩
    cases j with
    | zero=>simp at h1 h2; subst h1 h2; exact .inl (by simpa using h4)
    | succ j=>exact .inr ⟨j,p',v',h1,h2,h3,h4⟩
theorem Hf6 {es:List (Value×AV)} {vals:List Value} {i:Nat} {e:MapEntry} (h:e∈Qj i es vals):i≤e.born∧e.born < i+es.length:=by
 obtain⟨j,p,v,h1,_,_,rfl⟩:=H3c.1 h
 have:=(M0 h1).1
 exact⟨by show i≤i+j; omega,by show i+j < _; omega⟩
theorem G7f:∀ {es:List (Value×AV)} {vals:List Value} {i:Nat},(Qj i es vals).Pairwise (fun a b=>a.born < b.born)
 | [],vals,i=>by simp [Qj]
 | p::es,[],i=>by simp [Qj]
 | p::es,v::vs,i=>by
  have ih:=G7f (es:=es) (vals:=vs) (i:=i+1)
  cases hp:isT p.2 with
  | true=>simp only [Qj,hp,if_true]; exact ih
  | false=>
   simp only [Qj,hp,Bool.false_eq_true,if_false]
   exact List.pairwise_cons.2 ⟨fun e he=>by have:=(Hf6 he).1; show i < e.born; omega,ih⟩
theorem J76:∀ {es:List (Value×AV)} {vals:List Value} {i:Nat} (p:Value×AV) (v:Value),vals.length=es.length→isT p.2=false→Qj i (es++[p]) (vals++[v])=Qj i es vals++[⟨p.1,v,i+es.length⟩]
 | [],[],i,p,v,_,hp=>by simp [Qj,hp]
 | [],_::_,i,p,v,h,_=>by simp at h
 | _::_,[],i,p,v,h,_=>by simp at h
 | q::es,x::vs,i,p,v,h,hp=>by
  have ih:=J76 (es:=es) (vals:=vs) (i:=i+1) p v (by simpa using h) hp
  have e1:i+1+es.length=i+(q::es).length:=by simp; omega
  cases hq:isT q.2 with
  | true=>simp only [List.cons_append,Qj,hq,if_true]; rw [ih,e1]
  | false=>simp only [List.cons_append,Qj,hq,Bool.false_eq_true,if_false]; rw [ih,e1]
theorem R0a:∀ {es:List (Value×AV)} {vals:List Value} {i j:Nat} (k:Value),Qj i (es.set j (k,.tup [])) vals=(Qj i es vals).filter (fun e=>decide (e.born≠i+j))
 | [],vals,i,j,k=>by simp [Qj]
 | p::es,[],i,j,k=>by cases j <;> simp [Qj]
 | p::es,v::vs,i,0,k=>by
  have key:(Qj (i+1) es vs).filter (fun e=>decide (e.born≠i+0))=Qj (i+1) es vs:=List.filter_eq_self.2 fun e he=>by
   have:=(Hf6 he).1
   exact Ky (by omega)
  have ht:isT (AV.tup [])=true:=rfl
  cases hp:isT p.2 with
  | true=>simp only [List.set_cons_zero,Qj,hp,ht,if_true]; exact key.symm
  | false=>
   simp only [List.set_cons_zero,Qj,hp,ht,Bool.false_eq_true,if_false,if_true]
   rw [List.filter_cons_of_neg (by simp),key]
 | p::es,v::vs,i,j+1,k=>by
  have ih:=R0a (es:=es) (vals:=vs) (i:=i+1) (j:=j) k
  have e1:i+1+j=i+(j+1):=by omega
  rw [e1] at ih
  cases hp:isT p.2 with
  | true=>simp only [List.set_cons_succ,Qj,hp,if_true]; exact ih
  | false=>
   simp only [List.set_cons_succ,Qj,hp,Bool.false_eq_true,if_false]
   rw [List.filter_cons_of_pos (p:=fun e:MapEntry=>decide (e.born≠i+(j+1))) (Ky (show i≠i+(j+1) by omega)),ih]
theorem Rb3 {l:List MapEntry} (hs:l.Pairwise (fun a b=>a.born < b.born)) {j q:Nat} {e e':MapEntry} (h:l[j]? = some e) (h':l[q]? = some e') (hb:e.born=e'.born):j=q:=by
 have hj:=(M0 h)
 have hq:=(M0 h')
 obtain⟨h0,rfl⟩:=hj
 obtain⟨h1,rfl⟩:=hq
 have hp:=List.pairwise_iff_getElem.1 hs
 rcases Nat.lt_trichotomy j q with h | h | h
 ·have:=hp j q h0 h1 h; omega
 ·exact h
 ·have:=hp q j h1 h0 h; omega
theorem Jad {l:List MapEntry} (hs:l.Pairwise (fun a b=>a.born < b.born)) {j:Nat} {e:MapEntry} (h:l[j]? = some e) (f:MapEntry→MapEntry):l.modify j f=l.map (fun x=>if x.born=e.born then f x else x):=by
 apply List.ext_getElem?
 intro q
 rw [List.getElem?_modify,M9]
 cases hq:l[q]? with
 | none=>rfl
 | some y=>
  by_cases h0:j=q
  ·subst h0
   rw [h] at hq; cases hq
   simp
  ·have:y.born≠e.born:=fun hb=>h0 (Rb3 hs h hq hb.symm)
   simp [h0,this]
theorem Q35:∀ {l:List MapEntry},l.Pairwise (fun a b=>a.born < b.born)→∀ {j:Nat} {e:MapEntry},l[j]? = some e→l.eraseIdx j=l.filter (fun x=>decide (x.born≠e.born))
 | [],_,j,e,h=>by simp at h
 | x::r,hs,0,e,h=>by
  simp at h; subst h
  obtain⟨h1,_⟩:=List.pairwise_cons.1 hs
  rw [List.eraseIdx_zero,List.tail_cons,List.filter_cons_of_neg (by simp)]
  exact(List.filter_eq_self.2 fun y hy=>Ky (show y.born≠x.born by have:=h1 y hy; omega)).symm
 | x::r,hs,j+1,e,h=>by
  have h':r[j]? = some e:=by simpa using h
  obtain⟨h1,h2⟩:=List.pairwise_cons.1 hs
  have:=h1 e (M3 h')
  rw [List.eraseIdx_cons_succ,List.filter_cons_of_pos (p:=fun x:MapEntry=>decide (x.born≠e.born)) (Ky (show x.born≠e.born by omega)),Q35 h2 h']

/-! ### Typed -/
section plain
variable {κ ν:Type} [DecidableEq κ]
def Qa5 (l:List (Option (κ×ν))) (a:κ) (v:ν):List (Option (κ×ν)):=if G37 (l.filterMap id) a then l.map (Option.map fun p=>if p.1=a then (a,v) else p) else l++[some (a,v)]
def R5b (l:List (Option (κ×ν))) (a:κ):List (Option (κ×ν)):=l.map fun o=>o.bind fun p=>if p.1=a then none else some p
def Gfe (l:List (Option (κ×ν))) (a:κ):Nat:=l.findIdx fun o=>match o with | some p=>decide (p.1=a) | none=>false
theorem Q6f (l:List (Option (κ×ν))) (a:κ) (v:ν):(Qa5 l a v).filterMap id=H01 (l.filterMap id) a v:=by
 unfold Qa5 H01
 by_cases h:G37 (l.filterMap id) a=true
 ·rw [if_pos h,if_pos h]
  clear h
  induction l with
  | nil=>rfl
  | cons o r ih=>cases o <;> simp [ih]
 ·rw [if_neg h,if_neg h]; simp
theorem Q76 (l:List (Option (κ×ν))) (a:κ):(R5b l a).filterMap id=(l.filterMap id).filter (fun p=>decide (p.1≠a)):=by
 unfold R5b
 induction l with
 | nil=>rfl
 | cons o r ih=>
  cases o with
  | none=>simp at ih ⊢; exact ih
  | some p=>
   by_cases h:p.1=a
   ·simp [h] at ih ⊢; exact ih
   ·simp [h] at ih ⊢; exact ih
end plain
structure Gv (κ ν:Type) where
 l:List (Option (κ×ν))
 nd:((l.filterMap id).map (·.1)).Nodup
namespace Gv
variable {κ ν:Type} [DecidableEq κ]
def Hc (m:Gv κ ν):List (κ×ν):=m.l.filterMap id
def empty:Gv κ ν:=⟨[],List.nodup_nil⟩
def put (m:Gv κ ν) (a:κ) (v:ν):Gv κ ν:=⟨Qa5 m.l a v,by rw [Q6f]; exact Ha7 m.nd a v⟩
def del (m:Gv κ ν) (a:κ):Gv κ ν:=⟨R5b m.l a,by rw [Q76]; exact m.nd.sublist (List.filter_sublist.map _)⟩
def get (m:Gv κ ν) (a:κ) (z:ν):ν:=(G38 m.Hc a).getD z
def has (m:Gv κ ν) (a:κ):Bool:=G37 m.Hc a
def size (m:Gv κ ν):Nat:=m.Hc.length
instance:Inhabited (Gv κ ν):=⟨empty⟩
end Gv
def tOf {κ ν:Type} (kv:κ→Value) (av:ν→AV) (l:List (Option (κ×ν))):List (Value×AV):=l.map fun o=>match o with | some p=>(kv p.1,av p.2) | none=>(.tuple #[],.tup [])
theorem H1c {κ ν:Type} [DecidableEq κ]:∀ {l:List (Option (κ×ν))},((l.filterMap id).map (·.1)).Nodup→∀ {q:Nat} {a:κ} {v:ν},l[q]? = some (some (a,v))→Gfe l a=q∧G38 (l.filterMap id) a=some v∧G37 (l.filterMap id) a=true
 | [],_,q,a,v,h=>by simp at h
 | none::r,hn,q,a,v,h=>by
  cases q with
  | zero=>simp at h
  | succ q=>
   obtain⟨h1,h2,h3⟩:=H1c (l:=r) (by simpa using hn) (by simpa using h)
   refine⟨?_,by simpa using h2,by simpa using h3⟩
   unfold Gfe at h1 ⊢
   rw [List.findIdx_cons]; simp [h1]
 | some (b,u)::r,hn,q,a,v,h=>by
  simp only [List.filterMap_cons_some (f:=id) rfl,id,List.map_cons,List.nodup_cons] at hn
  cases q with
  | zero=>
   simp at h; obtain⟨rfl,rfl⟩:=h
   exact⟨by simp [Gfe,List.findIdx_cons],by simp [G38],by simp [G37]⟩
  | succ q=>
   have h':r[q]? = some (some (a,v)):=by simpa using h
   have h0:b≠a:=fun e=>hn.1 (by subst e; exact Mi.2 ⟨(b,v),List.mem_filterMap.2 ⟨_,M3 h',rfl⟩,rfl⟩)
   obtain⟨h1,h2,h3⟩:=H1c (l:=r) hn.2 h'
   refine⟨?_,?_,?_⟩
   ·unfold Gfe at h1 ⊢; rw [List.findIdx_cons]; simp [h0,h1]
   ·simp only [G38] at h2 ⊢; simp [h0]; simpa using h2
   ·simp only [G37] at h3 ⊢; simp [h0]; simpa using h3
end Go.Proofs.YtmfhaflabpnaoaaGreat
