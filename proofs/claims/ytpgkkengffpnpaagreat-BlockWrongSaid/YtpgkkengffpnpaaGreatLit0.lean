/-
 More steps: cells of boxes that hold slices which the call may write in place. Slices that begin as an empty literal and are appended to; appends of whole lists to an own slice; the least of three numbers.
-/
import Derived.Test.YtpgkkengffpnpaaGreatRangeF
set_option linter.unusedVariables false
set_option linter.unusedSimpArgs false
set_option linter.unnecessarySimpa false
namespace Go.Proofs.YtpgkkengffpnpaaGreat
open Go.RowKit

theorem A_store0 {P:Program} {o:Oper} {l:Fr} {L:Loc} {u:AV} {x y:Operand} {T i:Nat} {t:TypeId} (hT:Rt P T 0=true) (ho:o.op=.store T x y) (hu:ev l y=u) (hx:ev l x=.ptr i 0) (hi:lk L i=some (.box t []))
  (hc:u.flatOk=true) (hk:u.cells=[]):H0 P o l L (Is .junk ((i,.box t [])::L)):=by
 subst hu
 intro a w β K Q hsat hf hK
 have h1:=hf.ev x
 rw [hx] at h1
 obtain⟨b,hb,hax⟩:=h1.inv_ptr
 obtain⟨old,ho1,ho2,ho3⟩:=H55 hsat hi hb
 obtain⟨c1,c2,c3⟩:=(hf.ev y).cells hc
 rw [hk] at c1
 have hr:=Gf5 (P:=P) (off:=0) hT c1 c3 ho1 (by omega)
 unfold Oper.wp
 have hr':(execOp a.eval o).run P w=.ok .skip (w.setRow b (old.toList.take 0++(a.eval y).cells.toList++old.toList.drop (0+0)).toArray):=by
  simp [execOp,ho,hax,hr]
 rw [hr']
 have ho2':old.size=0:=by simpa using ho2
 have hcz:(a.eval y).cells.size=0:=by simpa using c1
 refine hK _ _ _ _ β ⟨rfl,rfl⟩ (hsat.set hi hb ho1 _ ?_ ?_) (Step.set hsat hi hb _) .junk
 ·simp [hcz,ho2']
 ·intro j u v hu hv
  simp at hu

def G63 (l:Fr):List Operand→List AV→Prop
 | [],[]=>True
 | x::r,u::s=>((ev l x).plain=u∨∃ k,u=.list k []∧ev l x=.sc (.slice none 0 0))∧u.isData=true∧G63 l r s
 | _,_=>False
theorem G63.length {l:Fr}:∀ {xs:List Operand} {us:List AV},G63 l xs us→xs.length=us.length
 | [],[],_=>rfl
 | _::_,_::_,h=>by simp [G63.length h.2.2]
 | [],_::_,h=>h.elim
 | _::_,[],h=>h.elim
theorem G63.get {l:Fr}:∀ {xs:List Operand} {us:List AV},G63 l xs us→∀ {j:Nat} {x:Operand} {u:AV},xs[j]? = some x→us[j]? = some u→((ev l x).plain=u∨∃ k,u=.list k []∧ev l x=.sc (.slice none 0 0))∧u.isData=true
 | x::r,u::s,h,j,x',u',hx,hu=>by
  cases j with
  | zero=>simp at hx hu; subst hx; subst hu; exact⟨h.1,h.2.1⟩
  | succ j=>simp at hx hu; exact h.2.2.get hx hu
 | [],[],_,j,_,_,hx,_=>by simp at hx
 | [],_::_,h,_,_,_,_,_=>h.elim
 | _::_,[],h,_,_,_,_,_=>h.elim
theorem He6 {P:Program} {o:Oper} {l:Fr} {L:Loc} {u:AV} {f:FuncId} {xs:List Operand} {args:List AV} {ts:Array TypeId} (ho:o.op=.call { callee:=.value (.func f),args:=xs.toArray,argTypes:=ts }) (hc:Pure P f args (·=u)) (hB:Hk P f=true) (ha:G63 l xs args):H0 P o l L (Is u L):=by
 intro a w β K Q hsat hf hK
 have hr:(execOp a.eval o).run P w=.ok (.enter f (xs.toArray.map a.eval)) w:=by
  simp [execOp,ho,resolve,Act.eval,Deferred.ofValue,invoke,Hk.out hB]
 unfold Oper.wp
 rw [hr]
 show Calls P f _ w _
 refine(H6f hc hsat (vs:=xs.toArray.map a.eval) (by simp [ha.length]) (fun j u v hu hv=>?_)).mono fun e w' h=>?_
 ·simp only [Array.getElem?_map,List.getElem?_toArray,Option.map_eq_some_iff] at hv
  obtain⟨x,hx,rfl⟩:=hv
  obtain⟨h1,h2⟩:=ha.get hx hu
  rcases h1 with h1 | ⟨k0,h1,h3⟩
  ·have:=(hf.ev x).plain
   rw [h1] at this
   exact this.toD h2
  ·have hv:=hf.ev x
   rw [h3] at hv
   rw [h1,hv.inv_sc]
   exact .nil (Nat.zero_le _)
 ·obtain⟨v,r,rfl,h1,h2,h3,h4⟩:=h
  exact hK r L v w' β ⟨h4,rfl⟩ h1 h2 h3
/-! ### A variable of a map's type is set anew: the new map takes the old one's name -/
theorem G72.conv {w:World} {β:H1} {L L':Loc} {ob:Option Nat} {o o':J3} (hd:Hae L L') (hc:G79 (fun i=>(lk L' i).isSome) o o') (h0:G72 w β L ob o):G72 w β L' ob o':=by
 cases hc with
 | same=>exact h0
 | map=>
  obtain⟨b,h1,ents,h2,h3,h4⟩:=h0
  exact⟨b,h1,ents,h2,h3,fun i e k u he hu=>⟨(h4 i e k u he hu).1,(h4 i e k u he hu).2.1.mono fun b i hs=>⟨hd.stab hs,rfl⟩,(h4 i e k u he hu).2.2⟩⟩
 | vec=>
  obtain⟨h00,h0⟩:=h0
  refine⟨h00,?_⟩
  rcases h0 with h0 | ⟨b,h1,vs,h2,h3,h4⟩
  ·exact .inl h0
  ·exact .inr ⟨b,h1,vs,h2,h3,fun j u v hu hv=>(h4 j u v hu hv).mono fun b i hs=>⟨hd.stab hs,rfl⟩⟩
 | iter hm=>
  obtain⟨b,h1,bm,t,es,h2,h3,h4⟩:=h0
  obtain⟨o',ho'⟩:=Option.isSome_iff_exists.1 hm
  obtain⟨o2,ho2,hl⟩:=hd.like _ o' ho'
  rw [h2] at ho2; cases ho2
  cases o' <;> simp [J3.like] at hl
  subst hl
  exact⟨b,h1,bm,_,_,ho',h3,h4⟩
 | box hl hc=>
  obtain⟨b,h1,vs,h2,h3,h4⟩:=h0
  refine⟨b,h1,vs,h2,h3.trans hl,fun j u' v hu' hv=>?_⟩
  rename_i cs cs'
  have hj:j < cs.length:=by
   rcases Nat.lt_or_ge j cs'.length with h | h
   ·omega
   ·simp [List.getElem?_eq_none h] at hu'
  exact(h4 j cs[j] v (by simp [hj]) hv).conv hd (hc j _ _ (by simp [hj]) hu')

def RenF (i j:Nat) (ok:Nat→Bool) (l:Fr):Fr→Prop
 | []=>True
 | (s,u)::r=>((look l s=.mp j∧u=.mp i)∨(look l s=u∧u.refs ok=true))∧RenF i j ok l r
theorem RenF.get {i j:Nat} {ok:Nat→Bool} {l:Fr}:∀ {l':Fr},RenF i j ok l l'→∀ t,look l' t=.junk∨(look l t=.mp j∧look l' t=.mp i)∨(look l t=look l' t∧(look l' t).refs ok=true)
 | [],_,t=>.inl (by simp [look])
 | (s,u)::r,h,t=>by
  by_cases e:s=t
  ·subst e
   have e1:look ((s,u)::r) s=u:=by simp [look]
   rw [e1]; exact .inr h.1
  ·have hb:Nat.beq s t=false:=by
    cases hb:Nat.beq s t with
    | false=>rfl
    | true=>exact absurd (Nat.eq_of_beq_eq_true hb) e
   have e1:look ((s,u)::r) t=look r t:=by simp [look,hb]
   rw [e1]; exact RenF.get h.2 t

end Go.Proofs.YtpgkkengffpnpaaGreat
set_option linter.unusedVariables false
set_option linter.unusedSimpArgs false
set_option linter.unnecessarySimpa false
namespace Go.Proofs.YtpgkkengffpnpaaGreat
open Go.RowKit

theorem J73 {P:Program} {o:Oper} {a:Act} {w:World} {T E k:Nat} (ho:o.op=.buildSlice T 0 #[]) (hT:sliceB P T E k=true):(execOp a.eval o).run P w=.ok (.value (.slice (some ⟨w.heap.size,0,none⟩) 0 0)) (w.alloc (.cells #[] E)):=by
 have hsz:=Jz (sliceB.out hT).2 w
 simp [execOp,ho,Instr.buildSlice,underlying,(sliceB.out hT).1,run_program,Sem.run_bind,Result.andThen_ok,hsz,newRow,Instr.fill]
 exact congrArg (fun x=>w.alloc (Obj.cells x E)) (Array.toList_inj.1 (by simp))

theorem own_new {w:World} {β:H1} {L:Loc} {i:Nat} (E k:Nat) (vs:Array Value) (cap:Nat) (hcap:cap≤maxLen) (hrow:(w.alloc (.cells vs E)).ownsRow 0 E k (.slice (some ⟨w.heap.size,0,none⟩) 0 cap) 0 []) (hsat:Sat w β L) (hi:lk L i=none) :
  Step w β L (w.alloc (.cells vs E)) (Jd β i (some w.heap.size)) ((i,.spare E k 0 0)::L)∧Sat (w.alloc (.cells vs E)) (Jd β i (some w.heap.size)) ((i,.spare E k 0 0)::L) ∧
  V (w.alloc (.cells vs E)) (Jd β i (some w.heap.size)) ((i,.spare E k 0 0)::L) (.own i 0 k []) (.slice (some ⟨w.heap.size,0,none⟩) 0 cap):=by
 have hne:∀ id,(lk L id).isSome=true→i≠id:=fun id h e=>by subst e; rw [hi] at h; cases h
 have hlt:∀ b,b < w.heap.size→(w.alloc (.cells vs E)).heap[b]? = w.heap[b]? := fun b hb=>Jm w _ hb
 have hsz:w.heap.size < (w.alloc (.cells vs E)).heap.size:=by simp
 have st:Step w β L (w.alloc (.cells vs E)) (Jd β i (some w.heap.size)) ((i,.spare E k 0 0)::L):=by
  refine⟨rfl,rfl,⟨rfl,Nat.le_refl _⟩,Nat.le_of_lt hsz,fun _ _ _=>Iff.rfl,fun b j hs=>⟨⟨Nat.lt_trans hs.lt hsz,hs.seen,fun id ob hid hb=>?_⟩,World.cell?_of_block (w:=w) (hlt b hs.lt)⟩,fun b hb hfar=>⟨hlt b hb,fun id hid e=>?_⟩,fun id t cs hid=>?_,fun id t cs hid=>?_,fun id t n cs hid=>?_,fun id t k' ver xs hid=>?_,fun id t k' ver hw hid=>?_⟩
  ·rw [Ge] at hid
   by_cases e:i=id
   ·subst e; simp only [Jd,if_true] at hb; cases hb; exact absurd hs.lt (Nat.lt_irrefl _)
   ·rw [if_neg e] at hid; simp only [Jd,if_neg (Ne.symm e)] at hb; exact hs.kept id ob hid hb
  ·rw [Ge] at hid
   by_cases e':i=id
   ·subst e'; simp only [Jd,if_true] at e; cases e; exact absurd hb (Nat.lt_irrefl _)
   ·rw [if_neg e'] at hid; simp only [Jd,if_neg (Ne.symm e')] at e; exact hfar id hid e
  all_goals
   have e:=hne id (by rw [hid]; rfl)
  ·exact⟨by simp [Jd,Ne.symm e],cs,by rw [Ge,if_neg e]; exact hid⟩
  ·exact⟨by simp [Jd,Ne.symm e],cs,by rw [Ge,if_neg e]; exact hid⟩
  ·exact⟨by simp [Jd,Ne.symm e],n,cs,by rw [Ge,if_neg e]; exact hid⟩
  ·exact⟨ver,xs,by rw [Ge,if_neg e]; exact hid,Nat.le_refl _,fun _=>⟨rfl,by simp [Jd,Ne.symm e],fun b hb=>Zs (hlt b (hsat.bnd id b (by rw [hid]; rfl) hb))⟩⟩
  ·exact⟨ver,hw,by rw [Ge,if_neg e]; exact hid,Nat.le_refl _,fun _=>⟨rfl,by simp [Jd,Ne.symm e],fun b hb=>hlt b (hsat.bnd id b (by rw [hid]; rfl) hb)⟩⟩
 refine⟨st,⟨fun b j h=>Nat.lt_trans (hsat.hid b j h) hsz,fun id b hid hb=>?_,fun id b j hid hb hh=>?_,fun id id' b h1 h2 h3 h4=>?_,fun id ob hid=>?_⟩,?_⟩
 ·rw [Ge] at hid
  by_cases e:i=id
  ·subst e; simp only [Jd,if_true] at hb; cases hb; exact hsz
  ·rw [if_neg e] at hid; simp only [Jd,if_neg (Ne.symm e)] at hb; exact Nat.lt_trans (hsat.bnd id b hid hb) hsz
 ·rw [Ge] at hid
  by_cases e:i=id
  ·subst e; simp only [Jd,if_true] at hb; cases hb; exact absurd (hsat.hid _ _ hh) (Nat.lt_irrefl _)
  ·rw [if_neg e] at hid; simp only [Jd,if_neg (Ne.symm e)] at hb; exact hsat.apart id b j hid hb hh
 ·by_cases e:i=id
  ·by_cases e':i=id'
   ·rw [← e,e']
   ·subst e
    rw [Ge,if_neg e'] at h2
    simp only [Jd,if_true] at h3
    simp only [Jd,if_neg (Ne.symm e')] at h4
    cases h3
    exact absurd (hsat.bnd id' _ h2 h4) (Nat.lt_irrefl _)
  ·by_cases e':i=id'
   ·subst e'
    rw [Ge,if_neg e] at h1
    simp only [Jd,if_true] at h4
    simp only [Jd,if_neg (Ne.symm e)] at h3
    cases h4
    exact absurd (hsat.bnd id _ h1 h3) (Nat.lt_irrefl _)
   ·rw [Ge,if_neg e] at h1
    rw [Ge,if_neg e'] at h2
    simp only [Jd,if_neg (Ne.symm e)] at h3
    simp only [Jd,if_neg (Ne.symm e')] at h4
    exact hsat.inj id id' b h1 h2 h3 h4
 ·rw [Ge] at hid
  by_cases e:i=id
  ·subst e; simp at hid; subst hid
   exact .inr ⟨w.heap.size,by simp [Jd],vs,heap_alloc_new w _,by simp⟩
  ·rw [if_neg e] at hid
   simp only [Jd,if_neg (Ne.symm e)]
   exact(hsat.obj id ob hid).step st (fun b hb=>hlt b (hsat.bnd id b (by rw [hid]; rfl) hb))
 ·exact .own (.nil hcap) ⟨E,0,0,by rw [Ge,if_pos rfl],Nat.le_refl _,fun _=>⟨rfl,by simp [Value.ownBlock,Jd],[],hrow,fun j u hu=>by simp [flat] at hu⟩⟩

theorem own_lit {w:World} {β:H1} {L:Loc} {i:Nat} (E k:Nat) (hsat:Sat w β L) (hi:lk L i=none) :
  Step w β L (w.alloc (.cells #[] E)) (Jd β i (some w.heap.size)) ((i,.spare E k 0 0)::L)∧Sat (w.alloc (.cells #[] E)) (Jd β i (some w.heap.size)) ((i,.spare E k 0 0)::L) ∧
  V (w.alloc (.cells #[] E)) (Jd β i (some w.heap.size)) ((i,.spare E k 0 0)::L) (.own i 0 k []) (.slice (some ⟨w.heap.size,0,none⟩) 0 0):=
 own_new E k #[] 0 (Nat.zero_le _) (World.ownsRow_lit w #[] 0 (Nat.zero_le _) (Nat.zero_le _) (by simp)) hsat hi

def Hd1 (P:Program) (T f off:Nat):Bool:=
 match P.underlying T with
 | some (.struct fs)=>match fs[f]? with
  | some fld=>fld.offset==off&&Rs P fld.type
  | none=>false
 | _=>false
theorem Hd1.out {P:Program} {T f off:Nat} (h:Hd1 P T f off=true):∃ fs fld,P.underlying T=some (.struct fs)∧fs[f]? = some fld∧fld.offset=off∧Rs P fld.type=true:=by
 unfold Hd1 at h
 split at h
 ·rename_i fs h1
  split at h
  ·rename_i fld h2
   simp only [Bool.and_eq_true,beq_iff_eq] at h
   exact⟨fs,fld,h1,h2,h.1,h.2⟩
  ·cases h
 ·cases h

def arrNB (P:Program) (T n k:Nat):Bool:=
 match P.underlying T with
 | some (.array m e)=>m==n&&Rt P e k
 | _=>false
theorem arrNB.out {P:Program} {T n k:Nat} (h:arrNB P T n k=true):∃ e,P.underlying T=some (.array n e)∧Rt P e k=true:=by
 unfold arrNB at h
 split at h
 ·rename_i m e h1
  simp only [Bool.and_eq_true,beq_iff_eq] at h
  obtain⟨rfl,h2⟩:=h
  exact⟨_,h1,h2⟩
 ·cases h
section ops
variable {P:Program} {N:Zk} {o:Oper} {l:Fr} {L L':Loc} {u:AV} {α:Type}

theorem He2 (i E k:Nat) {T:Nat} (ho:o.op=.buildSlice T 0 #[]) (hi:lk L i=none) (hT:sliceB P T E k=true):H0 P o l L (Is (.own i 0 k []) ((i,.spare E k 0 0)::L)):=by
 intro a w β K Q hsat hf hK
 unfold Oper.wp
 rw [J73 (E:=E) (k:=k) ho hT]
 obtain⟨st,sat,hv⟩:=own_lit E k hsat hi
 exact hK _ _ _ _ _ ⟨rfl,rfl⟩ sat st hv

theorem J2a (w:World) (base:Nat) (t ty e:TypeId) (i:TypeInfo) (size:Nat) (ht:P.underlying t=some (.slice e)) (hi:P.info? e=some i)
  (v:Value) (n:Nat) (xs:List Value) (hown:w.ownsRow base e size v n xs) (ao:Option Addr) (c:Nat) :
  (Builtin.append_ #[t,t] ty #[v,.slice ao 0 c]).run P w=.ok v w:=by
 rcases hown.2 with ⟨rfl,rfl⟩ | ⟨g,cap,cur,rfl,_,_,hnc,_⟩
 ·cases ao <;> simp [Builtin.append_,run_underlying ht,sizeOf,typeInfo,hi,Builtin.lenOf,Builtin.firstCells,loadCells,loadCellsFrom]
 ·cases ao <;> simp [Builtin.append_,run_underlying ht,sizeOf,typeInfo,hi,Builtin.lenOf,Builtin.firstCells,hnc,storeCells,loadCells,loadCellsFrom]

theorem A_append0 {s x:Operand} {T E k by_ i ver n:Nat} {kx:Nat} {xs:List AV} (ho:o.op=.call { callee:=.builtin .append,args:=#[s,x],argTypes:=#[T,T] }) (hs:ev l s=.own i ver k xs) (hi:lk L i=some (.spare E k ver n)) (hx:Jo (ev l x)=some (kx,[]))
  (hT:sliceB P T E k=true) (hE:Y7 P E k by_=true):H0 P o l L (Is (.own i ver k xs) L):=
 He fun a w β hsat hf=>by
  have hv:=hf.ev s
  rw [hs] at hv
  have hxd:=(hf.ev x).Jo hx
  obtain⟨ao,cap,hxv,_⟩:=hxd.len
  obtain⟨inf,z,e1,e2,e3,e4,e5,e6⟩:=Y7.out hE
  have hv':=hv
  cases hv with
  | data h=>cases h
  | own hd hp=>
   obtain⟨t,ver',hw,h1,h2,h3⟩:=hp
   rw [hi] at h1
   cases h1
   obtain⟨rfl,hob,vals,hown,hvD⟩:=h3 rfl
   have hr:=J2a (P:=P) w 0 T o.type E inf k (sliceB.out hT).1 e1 (a.eval s) _ _ hown ao cap
   exact⟨a.eval s,by simp [execOp,ho,resolve,invoke,builtin,hxv,hr],hv'⟩

theorem H19 {L:Loc} {s x:Operand} {T E k by_ i kx:Nat} {f:α→AV} {xs ys:List α} (ho:o.op=.call { callee:=.builtin .append,args:=#[s,x],argTypes:=#[T,T] }) (hs:ev l s=OW i k f xs) (hi:lk L i=some (.spare E k xs.length xs.length)) (hx:Jo (ev l x)=some (kx,ys.map f))
  (hT:sliceB P T E k=true) (hE:Y7 P E k by_=true) (hb:decide ((xs.length+ys.length)*by_≤140737488355328∧xs.length+ys.length≤maxLen)=true) (hcell:∀ y,(f y).flatOk=true) (hk:kx=k∨ys=[]) :
  H0 P o l L (Is (OW i k f (xs++ys)) ((i,.spare E k (xs++ys).length (xs++ys).length)::L)):=by
 have hb':=of_decide_eq_true hb
 by_cases h0:ys=[]
 ·subst h0
  have h:=A_append0 (P:=P) (o:=o) (by_:=by_) ho hs hi (by simpa using hx) hT hE
  rw [List.append_nil]
  intro a w β K Q hsat hf hK
  refine h a w β K Q hsat hf (fun u L1 v w1 β1 hu hs1 st1 hv1=>?_)
  obtain⟨rfl,rfl⟩:=hu
  have hle:Ge8 L1 ((i,.spare E k xs.length xs.length)::L1):=fun j=>by
   rw [Ge]
   by_cases e:i=j
   ·subst e; rw [if_pos rfl,hi]
   ·rw [if_neg e]
  exact hK _ _ v w1 β1 ⟨rfl,rfl⟩ (hs1.locEq hle) (st1.locEq hle) (hv1.locEq hle)
 ·have h:=J0a (ver1:=(xs++ys).length) (xs:=xs.map f) (ys:=ys.map f) ho hs hi hx hT hE (by simpa using hb'.1) (by simpa using hb'.2) (fun y hy=>by
   obtain⟨z,_,rfl⟩:=List.mem_map.1 hy
   exact hcell z) (hk.imp id (fun e=>by rw [e]; rfl)) (by
   have:=List.length_pos_iff.2 h0
   rw [List.length_append]; omega)
  simpa only [OW,List.map_append,List.length_append,List.length_map] using h
def arr1B (P:Program) (T n:Nat):Bool:=
 match P.underlying T with
 | some (.array m e)=>m==n&&(Rs P e&&Rt P e 1)
 | _=>false
theorem arr1B.out {P:Program} {T n:Nat} (h:arr1B P T n=true):∃ e,P.underlying T=some (.array n e)∧Rs P e=true∧Rt P e 1=true:=by
 unfold arr1B at h
 split at h
 ·rename_i m e h1
  simp only [Bool.and_eq_true,beq_iff_eq] at h
  obtain⟨rfl,h2,h3⟩:=h
  exact⟨_,h1,h2,h3⟩
 ·cases h
theorem H7d {x ix:Operand} {T n j:Nat} {kd:IntKind} {z:Int} {cs:List AV} (hT:arr1B P T n=true) (ho:o.op=.index T x ix) (hx:ev l x=.agg cs) (hi:ev l ix=.sc (.int kd z)) (hz:z=(j:Int)) (hjn:Nat.blt j n=true) (hn:cs[j]? = some u):H0 P o l L (Is u L):=
 He fun a w β _ hf=>by
  have h1:=hf.ev x
  rw [hx] at h1
  have h2:=hf.ev ix
  rw [hi] at h2
  obtain⟨vs,he,hl,hv⟩:=h1.inv_agg
  have hlt:j < vs.size:=by
   rw [hl]
   rcases Nat.lt_or_ge j cs.length with h | h
   ·exact h
   ·simp [List.getElem?_eq_none h] at hn
  obtain⟨e,g1,g2,g3⟩:=arr1B.out hT
  have hs:=Jz g3 w
  have hjn':j < n:=by rw [Nat.blt_eq] at hjn; exact hjn
  have hb:(0:Int)≤(j:Int)∧(j:Int) < (n:Int):=by omega
  subst hz
  exact⟨vs[j],by simp [execOp,ho,Instr.index,asIntOf,underlying,g1,he,h2.inv_sc,hb,hs,asAgg,part,Gb6 g2,hlt]; intro hc; omega,hv j u _ hn (by simp [hlt])⟩
theorem Jba {x y:Operand} {T i ver m t k kk fo:Nat} {f:α→AV} {xs:List α} {e z:α} {u:AV} (hT:Rt P T kk=true) (ho:o.op=.store T x y) (hu:ev l y=u) (hx:ev l x=.vptr i ver m fo) (hi:lk L i=some (.vec t k ver (xs.map f))) (he:xs[m]? = some e)
  (hc:u.flatOk=true) (hd:u.isData=true) (hds:H7f fo u.cells (f e).cells=some (f z).cells) (hk:u.cells.length=kk) (hpos:Nat.blt 0 kk=true) :
  H0 P o l L (Is .junk ((i,.vec t k ver ((xs.set m z).map f))::L)):=by
 have h:=Jdf (P:=P) (e:=f e) (z:=f z) (ds:=(f z).cells) hT ho hu hx hi (mapq he) hc hd hds rfl hk hpos
 rw [← List.map_set] at h
 exact h
end ops
end Go.Proofs.YtpgkkengffpnpaaGreat
