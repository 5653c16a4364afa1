/-
 Maps of the call's own: made,looked into,written,ranged over.
-/
import Derived.Test.YtidpfkmbfgihlaaGreatDraw
import Derived.DeepKeys5
import Derived.Laws.StructEq
namespace Go.Proofs.YtidpfkmbfgihlaaGreat
open Go.RowKit

structure Gd3 (P:Program) (k:TypeId) {κ:Type} (kv:κ→Value):Prop where
 inj:∀ a b,kv a=kv b→a=b
 check:∀ (w:World) (em:Bool) a,(Instr.checkKey em 10000 k (kv a)).run P w=.ok () w
 find:∀ (w:World) a (es:List MapEntry),(∀ e∈es,∃ b,e.key=kv b) →
  ((Instr.findKey k (kv a) es).run P w=.ok none w∧∀ e∈es,e.key≠kv a)∨∃ j e,(Instr.findKey k (kv a) es).run P w=.ok (some (j,e.val)) w∧es[j]? = some e∧e.key=kv a
 stays:∀ (w:World) a,(Instr.keyThatStays (kv a) (kv a)).run P w=.ok (kv a) w

theorem Gd3.of_int {P:Program} {k:TypeId} {kd:IntKind} (h:Ja4 P k kd=true):Gd3 P k (fun n:Int=>Value.int kd n) where
 inj:=fun a b e=>by cases e; rfl
 check:=fun w em a=>by
  show (Instr.checkKey em (9999+1) k (.int kd a)).run P w=.ok () w
  generalize 9999=n
  simp only [Instr.checkKey,underlying,run_program,Sem.run_bind,Result.andThen_ok,Ja4.out h,Sem.run_pure]
 find:=fun w a es he=>by
  have key:∀ (es:List MapEntry) (i:Nat),(∀ e∈es,∃ b,e.key=Value.int kd b) →
    (Instr.findNow (.int kd) (.int kd a) es i=some none∧∀ e∈es,e.key≠.int kd a)∨∃ j e,Instr.findNow (.int kd) (.int kd a) es i=some (some (i+j,e.val))∧es[j]? = some e∧e.key=.int kd a:=by
   intro es
   induction es with
   | nil=>intro i _; exact .inl ⟨rfl,by simp⟩
   | cons x r ih=>
    intro i he
    obtain⟨b,hb⟩:=he x (by simp)
    by_cases e:a=b
    ·subst e
     exact .inr ⟨0,x,by simp [Instr.findNow,Instr.sameNow,hb],rfl,hb⟩
    ·have hs:Instr.findNow (.int kd) (.int kd a) (x::r) i=Instr.findNow (.int kd) (.int kd a) r (i+1):=by
      have e':(a==b)=false:=by simp [e]
      simp [Instr.findNow,Instr.sameNow,hb,e']
     rcases ih (i+1) (fun y hy=>he y (by simp [hy])) with ⟨h1,h2⟩ | ⟨j,y,h1,h2,h3⟩
     ·refine .inl ⟨by rw [hs]; exact h1,fun y hy=>?_⟩
      rcases List.mem_cons.1 hy with rfl | hy
      ·rw [hb]; intro e'; cases e'; exact e rfl
      ·exact h2 y hy
     ·exact .inr ⟨j+1,y,by rw [hs,h1]; congr 3; omega,by simpa using h2,h3⟩
  rcases key es 0 he with ⟨h1,h2⟩ | ⟨j,e,h1,h2,h3⟩
  ·exact .inl ⟨by simp [Instr.findKey,underlying,Ja4.out h,h1],h2⟩
  ·exact .inr ⟨j,e,by simp [Instr.findKey,underlying,Ja4.out h,h1],h2,h3⟩
 stays:=fun w a=>by simp [Instr.keyThatStays,Instr.sameBits]

/-! ### A map as a list of keys and elements -/
section plain
variable {κ ν:Type} [DecidableEq κ]
def G2a (l:List (κ×ν)) (a:κ):Option ν:=(l.find? fun p=>p.1=a).map (·.2)
def G31 (l:List (κ×ν)) (a:κ):Nat:=l.findIdx fun p=>p.1=a
def G32 (l:List (κ×ν)) (a:κ):Bool:=l.any fun p=>p.1=a
def Gfc (l:List (κ×ν)) (a:κ) (v:ν):List (κ×ν):=if G32 l a then l.map fun p=>if p.1=a then (a,v) else p else l++[(a,v)]
def H26 (l:List (κ×ν)) (a:κ) (z:ν):List (κ×ν):=if G32 l a then l else l++[(a,z)]
end plain
def mapOf {κ ν:Type} (kv:κ→Value) (av:ν→AV) (l:List (κ×ν)):List (Value×AV):=l.map fun p=>(kv p.1,av p.2)

section plain
variable {κ ν:Type} [DecidableEq κ]
theorem Qf2 {l:List (κ×ν)} {a:κ} (h:∀ p∈l,p.1≠a):G2a l a=none:=by
 unfold G2a
 rw [List.find?_eq_none.2 fun p hp=>by simpa using h p hp]; rfl
theorem He3 {l:List (κ×ν)} {a:κ} (h:∀ p∈l,p.1≠a):G32 l a=false:=by
 unfold G32
 rw [List.any_eq_false]; intro p hp; simpa using h p hp
theorem H0a {l:List (κ×ν)} {a:κ} {p:κ×ν} (hp:p∈l) (h:p.1=a):G32 l a=true:=by
 unfold G32
 rw [List.any_eq_true]; exact⟨p,hp,by simpa using h⟩
theorem He4:∀ {l:List (κ×ν)},(l.map (·.1)).Nodup→∀ {j:Nat} {a:κ} {v:ν},l[j]? = some (a,v)→G2a l a=some v∧G31 l a=j
 | [],_,j,a,v,h=>by simp at h
 | (b,u)::r,hn,j,a,v,h=>by
  simp only [List.map_cons,List.nodup_cons] at hn
  cases j with
  | zero=>simp at h; obtain⟨rfl,rfl⟩:=h; simp [G2a,G31,List.findIdx_cons]
  | succ j=>
   simp at h
   have hne:b≠a:=fun e=>hn.1 (by subst e; exact List.mem_map.2 ⟨(b,v),List.mem_of_getElem? h,rfl⟩)
   obtain⟨h1,h2⟩:=He4 hn.2 h
   simp only [G2a,G31] at h1 h2 ⊢
   simp [List.findIdx_cons,hne,h1,h2]
theorem J3c:∀ {l:List (κ×ν)} {a:κ},(∀ p∈l,p.1≠a)→G31 l a=l.length
 | [],_,_=>rfl
 | (b,u)::r,a,h=>by
  have hb:b≠a:=h (b,u) (by simp)
  have:=J3c (l:=r) (a:=a) (fun p hp=>h p (by simp [hp]))
  simp only [G31] at this ⊢
  simp [List.findIdx_cons,hb,this]
end plain

/-! ### One object of the call's own is changed -/
def Jh.alike:Jh→Jh→Prop
 | .map t _,.map t' _=>t=t'
 | .iter m _ _,.iter m' _ _=>m=m'
 | _,_=>False

theorem Step.change {w w':World} {β:H4} {L:Loc} {i b:Nat} {o o':Jh} (hsat:Sat w β L) (hi:lk L i=some o) (hb:β i=some b) (ha:o.alike o')
  (h1:w'.os=w.os) (h2:w'.tape=w.tape) (h3:w'.output=w.output∧w.drawn≤w'.drawn) (h4:w'.heap.size=w.heap.size) (h5:∀ k,k≠b→w'.heap[k]? = w.heap[k]?):Step w β L w' β ((i,o')::L) where
 os:=h1
 tape:=h2
 output:=h3
 size:=by omega
 hid:=fun _ _ _=>Iff.rfl
 stab:=fun b' j hs=>by
  have hne:b'≠b:=fun e=>by subst e; have:=hs.kept i _ hi hb; cases o <;> cases o' <;> simp [Jh.alike] at ha <;> exact this
  refine⟨⟨by rw [h4]; exact hs.lt,hs.seen,fun id o2 hid hid'=>?_⟩,Q2 (w:=w) (h5 b' hne)⟩
  rw [Gh] at hid
  by_cases e:i=id
  ·subst e; rw [hb] at hid'; exact absurd (Option.some.inj hid') (Ne.symm hne)
  ·rw [if_neg e] at hid; exact hs.kept id o2 hid hid'
 far:=fun b' hlt hf=>by
  have hne:b'≠b:=fun e=>by subst e; exact hf i (by rw [hi]; rfl) hb
  refine⟨h5 b' hne,fun id hid=>?_⟩
  rw [Gh] at hid
  by_cases e:i=id
  ·subst e; rw [hb]; exact fun e=>hne (Option.some.inj e).symm
  ·rw [if_neg e] at hid; exact hf id hid
 box:=fun id t' cs hid=>by
  refine⟨rfl,cs,?_⟩
  rw [Gh,if_neg (fun e=>by subst e; rw [hi] at hid; cases hid; cases o' <;> simp [Jh.alike] at ha)]; exact hid
 map:=fun id t' es hid=>by
  refine⟨rfl,?_⟩
  rw [Gh]
  by_cases e:i=id
  ·subst e; rw [hi] at hid; cases hid
   cases o' <;> simp [Jh.alike] at ha
   subst ha; exact⟨_,if_pos rfl⟩
  ·exact⟨es,by rw [if_neg e]; exact hid⟩
 iter:=fun id m n es hid=>by
  refine⟨rfl,?_⟩
  rw [Gh]
  by_cases e:i=id
  ·subst e; rw [hi] at hid; cases hid
   cases o' <;> simp [Jh.alike] at ha
   subst ha; exact⟨_,_,if_pos rfl⟩
  ·exact⟨n,es,by rw [if_neg e]; exact hid⟩
 vec:=fun id t' k ver xs hid=>by
  have e:i≠id:=fun e=>by subst e; rw [hi] at hid; cases hid; cases o' <;> simp [Jh.alike] at ha
  refine⟨ver,xs,by rw [Gh,if_neg e]; exact hid,Nat.le_refl _,fun _=>⟨rfl,rfl,fun b' hb'=>G12 (h5 b' (fun e'=>?_))⟩⟩
  subst e'
  exact e (hsat.inj i id b' (by rw [hi]; rfl) (by rw [hid]; rfl) hb hb')
 spare:=fun id t' k ver hw hid=>by
  have e:i≠id:=fun e=>by subst e; rw [hi] at hid; cases hid; cases o' <;> simp [Jh.alike] at ha
  refine⟨ver,hw,by rw [Gh,if_neg e]; exact hid,Nat.le_refl _,fun _=>⟨rfl,rfl,fun b' hb'=>h5 b' (fun e'=>?_)⟩⟩
  subst e'
  exact e (hsat.inj i id b' (by rw [hi]; rfl) (by rw [hid]; rfl) hb hb')

theorem Sat.change {w w':World} {β:H4} {L:Loc} {i b:Nat} {o o':Jh} (hsat:Sat w β L) (hi:lk L i=some o) (hb:β i=some b) (st:Step w β L w' β ((i,o')::L)) (h4:w'.heap.size=w.heap.size) (h5:∀ k,k≠b→w'.heap[k]? = w.heap[k]?)
  (ho:Gdd w' β ((i,o')::L) (some b) o'):Sat w' β ((i,o')::L):=by
 have hsome:∀ id,(lk ((i,o')::L) id).isSome=true→(lk L id).isSome=true:=fun id h=>by
  rw [Gh] at h
  by_cases e:i=id
  ·subst e; rw [hi]; rfl
  ·rwa [if_neg e] at h
 refine⟨fun b i h=>by rw [h4]; exact hsat.hid b i h,fun id b' hid hb'=>by rw [h4]; exact hsat.bnd id b' (hsome id hid) hb',fun id b' j hid hb'=>hsat.apart id b' j (hsome id hid) hb',fun id id' b' h1 h2=>hsat.inj id id' b' (hsome id h1) (hsome id' h2),fun id ob hid=>?_⟩
 rw [Gh] at hid
 by_cases e:i=id
 ·subst e
  simp at hid; subst hid
  rw [hb]; exact ho
 ·rw [if_neg e] at hid
  refine(hsat.obj id ob hid).step st (fun b' hb'=>h5 b' (fun e'=>?_))
  subst e'
  exact e (hsat.inj i id b' (by rw [hi]; rfl) (by rw [hid]; rfl) hb hb')

/-! ### The operations -/
def Zj (P:Program) (T K E:Nat):Bool:=match P.underlying T with | some (.map k e)=>k==K&&e==E&&Nat.blt T 1000000 | _=>false
theorem Zj.both {P:Program} {T K E:Nat} (h:Zj P T K E=true):P.underlying T=some (.map K E)∧Nat.blt T 1000000=true:=by
 unfold Zj at h; split at h
 ·simp only [Bool.and_eq_true,beq_iff_eq] at h; obtain⟨⟨rfl,rfl⟩,h⟩:=h; exact⟨by assumption,h⟩
 ·cases h
theorem Zj.out {P:Program} {T K E:Nat} (h:Zj P T K E=true):P.underlying T=some (.map K E):=(Zj.both h).1

def Rt:Value→AV
 | .agg vs=>.agg (vs.toList.map .sc)
 | v=>.sc v
theorem H22 {w:World} {S:Nat→Nat→Prop} (v:Value):D w S (Rt v) v:=by
 cases v with
 | agg vs=>
  refine .agg (by simp) fun j u v hu hv=>?_
  simp only [List.getElem?_map,Option.map_eq_some_iff] at hu
  obtain⟨x,hx,rfl⟩:=hu
  rw [Array.getElem?_toList] at hx
  rw [hx] at hv; cases hv; exact .sc
 | _=>exact .sc

section mops
variable {P:Program} {o:Oper} {l:Fr} {L:Loc} {u:AV}

theorem Y6c (i:Nat) {T:Nat} (ho:o.op=.makeMap T none) (hi:lk L i=none) (hcl:Nat.blt T 1000000=true:=by rfl):H0 P o l L (Is (.mp i) ((i,.map T [])::L)):=by
 intro a w β K Q hsat hf hK
 have hr:(execOp a.eval o).run P w=.ok (.value (.map (some w.heap.size))) (w.alloc (.map #[] 0)):=by
  simp [execOp,ho,Instr.makeMap]
 unfold Oper.wp
 rw [hr]
 exact hK _ _ _ _ (upP β i (some w.heap.size)) ⟨rfl,rfl⟩ (hsat.alloc hi _ (fun hs=>⟨_,rfl,.inl ⟨hcl,#[],heap_alloc_new w _,rfl,fun i e k u he=>by simp at he⟩⟩)) (Step.alloc hi hsat.bnd _) (.mp (t:=T) (es:=[]) (by simp [Gh]) (by simp [upP]))

theorem J1d {w:World} {β:H4} {i b:Nat} {t:TypeId} {es:List (Value×AV)} (hsat:Sat w β L) (hi:lk L i=some (.map t es)) (hb:β i=some b) (hcl:Nat.blt t 1000000=true):MapAt w (Jt w β L) b es:=by
 obtain⟨b',hb',h⟩:=hsat.obj i _ hi
 rw [hb] at hb'; cases hb'
 rcases h with ⟨_,h⟩ | ⟨h,_⟩
 ·exact h
 ·rw [hcl] at h; cases h

section typed
variable {κ ν:Type} [DecidableEq κ] {kv:κ→Value} {av:ν→AV}

theorem Q90 {w:World} {S:Nat→Nat→Prop} {K:Nat} {lst:List (κ×ν)} (hk:Gd3 P K kv) (hn:(lst.map (·.1)).Nodup) {He:Array MapEntry} (hsz:He.size=(mapOf kv av lst).length)
  (he:∀ (i:Nat) e k u,He[i]? = some e→(mapOf kv av lst)[i]? = some (k,u)→e.key=k∧D w S u e.val∧e.born=i) (a:κ) :
  ((Instr.findKey K (kv a) He.toList).run P w=.ok none w∧(∀ p∈lst,p.1≠a)∧G2a lst a=none∧G32 lst a=false∧G31 lst a=He.size) ∨
  ∃ e v,(Instr.findKey K (kv a) He.toList).run P w=.ok (some (G31 lst a,e.val)) w∧He[G31 lst a]? = some e∧e.key=kv a∧G2a lst a=some v∧G32 lst a=true∧D w S (av v) e.val∧lst[G31 lst a]? = some (a,v)∧e.born=G31 lst a:=by
 have hlen:He.size=lst.length:=by simpa [mapOf] using hsz
 have hall:∀ e∈He.toList,∃ b,e.key=kv b:=by
  intro e hm
  obtain⟨j,hj,e1⟩:=List.mem_iff_getElem.1 hm
  have hj':j < lst.length:=by simpa [hlen] using hj
  refine⟨lst[j].1,(he j e (kv lst[j].1) (av lst[j].2) ?_ ?_).1⟩
  ·rw [← e1]; simp at hj; simp [hj]
  ·simp [mapOf,hj']
 rcases hk.find w a He.toList hall with ⟨h1,h2⟩ | ⟨j,e,h1,h2,h3⟩
 ·have hno:∀ p∈lst,p.1≠a:=by
   intro p hp e
   obtain⟨j,hj,e1⟩:=List.mem_iff_getElem.1 hp
   have hj':j < He.size:=by omega
   have:=(he j He[j] (kv lst[j].1) (av lst[j].2) (by simp [hj']) (by simp [mapOf,hj])).1
   refine h2 He[j] (Array.getElem_mem_toList hj') ?_
   rw [this,e1,e]
  exact .inl ⟨h1,hno,Qf2 hno,He3 hno,by rw [J3c hno,hlen]⟩
 ·have hj:j < lst.length:=by
   have:=(List.getElem?_eq_some_iff.1 h2).1
   simp at this; omega
  have h2':He[j]? = some e:=by simpa using h2
  obtain⟨k1,k2,k3⟩:=he j e (kv lst[j].1) (av lst[j].2) h2' (by simp [mapOf,hj])
  have hka:lst[j].1=a:=hk.inj _ _ (k1.symm.trans h3)
  have hat:lst[j]? = some (a,lst[j].2):=by rw [List.getElem?_eq_getElem hj,← hka]
  obtain⟨g1,g2⟩:=He4 hn hat
  exact .inr ⟨e,lst[j].2,by rw [g2]; exact h1,by rw [g2]; exact h2',h3,g1,H0a (List.getElem_mem hj) hka,k2,by rw [g2]; exact hat,by rw [g2]; exact k3⟩

theorem J95 {E:Nat} {zv:Value} (hz:(P.info? E).bind (·.zero)=some zv) (w:World):(zeroValue E).run P w=.ok zv w:=by
 cases h1:P.info? E with
 | none=>rw [h1] at hz; cases hz
 | some i=>rw [h1] at hz; simp at hz; simp [zeroValue,typeInfo,h1,hz]

theorem Qc3 {m x:Operand} {T K E i:Nat} {ok:Bool} {lst:List (κ×ν)} {a:κ} (z0:ν) (zv:Value) (ho:o.op=.lookup T m x ok) (hm:ev l m=.mp i) (hi:lk L i=some (.map T (mapOf kv av lst))) (hn:(lst.map (·.1)).Nodup)
  (hx:ev l x=Rt (kv a)) (hk:Gd3 P K kv) (hT:Zj P T K E=true) (hz:(P.info? E).bind (·.zero)=some zv) (hzv:av z0=Rt zv) :
  H0 P o l L (Is (bif ok then .tup [av ((G2a lst a).getD z0),BL (G32 lst a)] else av ((G2a lst a).getD z0)) L):=
 Hi fun A w β hsat hf=>by
  have hv:=hf.ev m
  rw [hm] at hv
  obtain⟨b,hb,hmv⟩:=hv.inv_mp
  obtain⟨He,h1,h2,h3⟩:=J1d hsat hi hb (Zj.both hT).2
  have hxk:A.eval x=kv a:=by
   have h:=hf.ev x
   rw [hx] at h
   cases hka:kv a with
   | agg vs=>
    rw [hka] at h
    obtain⟨ws,hw,hl,hc⟩:=h.inv_agg
    rw [hw]
    congr 1
    apply Array.ext
    ·rw [hl]; simp
    ·intro j hj1 hj2
     have:=hc j (.sc vs[j]) ws[j] (by simp [hj2]) (by simp [hj1])
     exact this.inv_sc
   | _=>rw [hka] at h; exact h.inv_sc
  have hobj:(getObj b).run P w=.ok (.map He He.size) w:=by simp [getObj,Sem.run,h1]
  rcases Q90 (P:=P) hk hn h2 h3 a with ⟨f1,f2,f3,f4,_⟩ | ⟨e,v,f1,f2,f3,f4,f5,f6,_⟩
  ·refine⟨if ok then .tuple #[zv,.bool false] else zv,?_,?_⟩
   ·simp only [execOp,ho,Instr.lookup,underlying,hmv,hxk,Sem.run_bind,run_program,Result.andThen_ok,Zj.out hT,Sem.run_pure,hobj,hk.check,f1,J95 hz]
   ·rw [f3,f4]
    have hzz:V w β L (av z0) zv:=by rw [hzv]; exact .data (H22 zv)
    cases ok
    ·exact hzz
    ·refine .tup rfl fun j u v hu hv=>?_
     match j with
     | 0=>simp at hu hv; subst hu; subst hv; exact hzz
     | 1=>simp at hu hv; subst hu; subst hv; exact .sc
     | j+2=>simp at hu
  ·refine⟨if ok then .tuple #[e.val,.bool true] else e.val,?_,?_⟩
   ·simp only [execOp,ho,Instr.lookup,underlying,hmv,hxk,Sem.run_bind,run_program,Result.andThen_ok,Zj.out hT,Sem.run_pure,hobj,hk.check,f1]
   ·rw [f4,f5]
    cases ok
    ·exact .data f6
    ·refine .tup rfl fun j u v' hu hv=>?_
     match j with
     | 0=>simp at hu hv; subst hu; subst hv; exact .data f6
     | 1=>simp at hu hv; subst hu; subst hv; exact .sc
     | j+2=>simp at hu

theorem J41 {A:Act} {w:World} {β:H4} {x:Operand} {k:Value} (hf:Q8 A w β L l) (hx:ev l x=Rt k):A.eval x=k:=by
 have h:=hf.ev x
 rw [hx] at h
 cases k with
 | agg vs=>
  obtain⟨ws,hw,hl,hc⟩:=h.inv_agg
  rw [hw]
  congr 1
  apply Array.ext
  ·rw [hl]; simp
  ·intro j hj1 hj2
   have:=hc j (.sc vs[j]) ws[j] (by simp [hj2]) (by simp [hj1])
   exact this.inv_sc
 | _=>exact h.inv_sc

theorem Qq {w:World} {b:Nat} {He:Array MapEntry} {c:Nat} (h:w.heap[b]? = some (.map He c)):(getObj b).run P w=.ok (.map He c) w:=by simp [getObj,Sem.run,h]
theorem G0c {w:World} {b:Nat} {He ents':Array MapEntry} {c c':Nat} (h:w.heap[b]? = some (.map He c)):(setObj b (.map ents' c')).run P w=.ok () { w with heap:=w.heap.setIfInBounds b (.map ents' c') }:=by simp [setObj,Sem.run,h]

theorem J94 (w:World) (b:Nat) (o:Obj):({ w with heap:=w.heap.setIfInBounds b o }:World).heap.size=w.heap.size:=by simp
theorem J35 (w:World) (b k:Nat) (o:Obj) (h:k≠b):({ w with heap:=w.heap.setIfInBounds b o }:World).heap[k]? = w.heap[k]? := by
 simp [Array.getElem?_setIfInBounds_ne (Ne.symm h)]
theorem R6e (w:World) (b:Nat) (o:Obj) (h:b < w.heap.size):({ w with heap:=w.heap.setIfInBounds b o }:World).heap[b]? = some o:=by
 simp [h]

theorem H6e {w:World} {β:H4} {i b T:Nat} {es es':List (Value×AV)} {ents':Array MapEntry} (hcl:Nat.blt T 1000000=true) (hsat:Sat w β L) (hi:lk L i=some (.map T es)) (hb:β i=some b)
  (hsz:ents'.size=es'.length) (he:∀ (i:Nat) e k u,ents'[i]? = some e→es'[i]? = some (k,u)→e.key=k∧D w (Jt w β L) u e.val∧e.born=i) :
  let w':World:={ w with heap:=w.heap.setIfInBounds b (.map ents' ents'.size) }
  Sat w' β ((i,.map T es')::L)∧Step w β L w' β ((i,.map T es')::L):=by
 intro w'
 have hlt:b < w.heap.size:=hsat.bnd i b (by rw [hi]; rfl) hb
 have st:Step w β L w' β ((i,.map T es')::L):=Step.change hsat hi hb rfl rfl rfl ⟨rfl,Nat.le_refl _⟩ (J94 w b _) (fun k hk=>J35 w b k _ hk)
 exact⟨Sat.change hsat hi hb st (J94 w b _) (fun k hk=>J35 w b k _ hk) ⟨b,rfl,.inl ⟨hcl,ents',R6e w b _ hlt,hsz,fun j e k u h1 h2=>⟨(he j e k u h1 h2).1,(he j e k u h1 h2).2.1.mono st.stab,(he j e k u h1 h2).2.2⟩⟩⟩,st⟩

theorem He1 {lst:List (κ×ν)} (h:(lst.map (·.1)).Nodup) (a:κ) (v:ν):((Gfc lst a v).map (·.1)).Nodup:=by
 unfold Gfc
 by_cases hh:G32 lst a=true
 ·rw [if_pos hh]
  have:(lst.map fun p=>if p.1=a then (a,v) else p).map (·.1)=lst.map (·.1):=by
   rw [List.map_map]
   refine List.map_congr_left fun p _=>?_
   simp only [Function.comp]
   by_cases e:p.1=a <;> simp [e]
  rw [this]; exact h
 ·rw [if_neg hh]
  rw [List.map_append,List.nodup_append]
  refine⟨h,by simp,fun x hx y hy=>?_⟩
  simp at hy; subst hy
  intro e; subst e
  obtain⟨p,hp,e⟩:=List.mem_map.1 hx
  exact hh (H0a hp e)
theorem Ree {lst:List (κ×ν)} (h:(lst.map (·.1)).Nodup) (a:κ) (z:ν):((H26 lst a z).map (·.1)).Nodup:=by
 unfold H26
 by_cases hh:G32 lst a=true
 ·rw [if_pos hh]; exact h
 ·rw [if_neg hh]
  rw [List.map_append,List.nodup_append]
  refine⟨h,by simp,fun x hx y hy=>?_⟩
  simp at hy; subst hy
  intro e; subst e
  obtain⟨p,hp,e⟩:=List.mem_map.1 hx
  exact hh (H0a hp e)

theorem Y1b {lst:List (κ×ν)} (h:(lst.map (·.1)).Nodup) {a:κ} {j:Nat} {v0 v:ν} (hj:lst[j]? = some (a,v0)):Gfc lst a v=lst.set j (a,v):=by
 have hm:G32 lst a=true:=H0a (List.mem_of_getElem? hj) rfl
 unfold Gfc
 rw [if_pos hm]
 apply List.ext_getElem?
 intro i
 rw [List.getElem?_map,List.getElem?_set]
 by_cases e:j=i
 ·subst e
  have hlt:j < lst.length:=(List.getElem?_eq_some_iff.1 hj).1
  rw [if_pos rfl,if_pos hlt,hj]
  simp
 ·rw [if_neg e]
  cases hi:lst[i]? with
  | none=>rfl
  | some p=>
   obtain⟨b,u⟩:=p
   by_cases e2:b=a
   ·subst e2
    have h1:=(He4 h hi).2
    have h2:=(He4 h hj).2
    omega
   ·simp [e2]

theorem Y07 {m x:Operand} {T K E i:Nat} {lst:List (κ×ν)} {a:κ} (z0:ν) (zv:Value) (ho:o.op=.mapEntry T m x) (hm:ev l m=.mp i) (hi:lk L i=some (.map T (mapOf kv av lst))) (hn:(lst.map (·.1)).Nodup)
  (hx:ev l x=Rt (kv a)) (hk:Gd3 P K kv) (hT:Zj P T K E=true) (hz:(P.info? E).bind (·.zero)=some zv) (hzv:av z0=Rt zv) :
  H0 P o l L (Is (.tup [.junk,I64 (G31 lst a)]) ((i,.map T (mapOf kv av (H26 lst a z0)))::L)):=by
 intro A w β KK Q hsat hf hK
 have hv:=hf.ev m
 rw [hm] at hv
 obtain⟨b,hb,hmv⟩:=hv.inv_mp
 obtain⟨He,h1,h2,h3⟩:=J1d hsat hi hb (Zj.both hT).2
 have hxk:A.eval x=kv a:=J41 hf hx
 have hlen:He.size=lst.length:=by simpa [mapOf] using h2
 have tupV:∀ {w':World} {L':Loc} (v1:Value) (n:Int),V w' β L' (.tup [.junk,I64 n]) (.tuple #[v1,.int .i64 n]):=fun v1 n=>.tup rfl fun j u v' hu hv=>by
  match j with
  | 0=>simp at hu hv; subst hu; exact .junk
  | 1=>simp at hu hv; subst hu; subst hv; exact .sc
  | j+2=>simp at hu
 rcases Q90 (P:=P) (w:=w) hk hn h2 h3 a with ⟨f1,f2,f3,f4,f5⟩ | ⟨e,v0,f1,f2,f3,f4,f5,f6,f7,f8⟩
 ·have hr:(execOp A.eval o).run P w=.ok (.value (.tuple #[zv,.int .i64 He.size])) { w with heap:=w.heap.setIfInBounds b (.map (He.push { key:=kv a,val:=zv,born:=He.size }) (He.push { key:=kv a,val:=zv,born:=He.size }).size) }:=by
   simp only [execOp,ho,Instr.mapEntry,underlying,hmv,hxk,Sem.run_bind,run_program,Result.andThen_ok,Zj.out hT,Sem.run_pure,Qq h1,hk.check,f1,G0c h1,Array.size_push,J95 hz,goInt]
  unfold Oper.wp
  rw [hr]
  have hmp:H26 lst a z0=lst++[(a,z0)]:=by simp [H26,f4]
  obtain⟨s1,s2⟩:=H6e (Zj.both hT).2 hsat hi hb (es':=mapOf kv av (H26 lst a z0)) (ents':=He.push { key:=kv a,val:=zv,born:=He.size }) (by rw [hmp]; simp [mapOf,hlen]) (fun j e k u he hu=>by
   rw [hmp] at hu
   simp only [mapOf,List.map_append,List.map_cons,List.map_nil] at hu
   rcases Nat.lt_or_ge j He.size with hj | hj
   ·rw [Array.getElem?_push,if_neg (by omega)] at he
    rw [List.getElem?_append_left (by simp; omega)] at hu
    exact h3 j e k u he hu
   ·have:j=He.size:=by
     have:=(Array.getElem?_eq_some_iff.1 he).1; simp at this; omega
    subst this
    rw [Array.getElem?_push,if_pos rfl] at he
    cases he
    rw [List.getElem?_append_right (by simp; omega)] at hu
    simp [hlen] at hu
    obtain⟨rfl,rfl⟩:=hu
    exact⟨rfl,by rw [hzv]; exact H22 zv,rfl⟩)
  refine hK _ _ _ _ β ⟨rfl,rfl⟩ s1 s2 ?_
  rw [f5]; exact tupV _ _
 ·have hst:=hk.stays w a
  have hlt:G31 lst a < He.size:=(Array.getElem?_eq_some_iff.1 f2).1
  have hr:(execOp A.eval o).run P w=.ok (.value (.tuple #[e.val,.int .i64 (G31 lst a)])) { w with heap:=w.heap.setIfInBounds b (.map (He.modify (G31 lst a) fun e=>{ e with key:=kv a }) (He.modify (G31 lst a) fun e=>{ e with key:=kv a }).size) }:=by
   have hkk:((He[G31 lst a]?).map (·.key)).getD (kv a)=kv a:=by rw [f2]; exact f3
   have hbb:(Option.map (fun x=>(x.born:Int)) He[G31 lst a]?).getD 0=(G31 lst a:Int):=by rw [f2]; simp [f8]
   simp only [execOp,ho,Instr.mapEntry,underlying,hmv,hxk,Sem.run_bind,run_program,Result.andThen_ok,Zj.out hT,Sem.run_pure,Qq h1,hk.check,f1,hkk,hst,G0c h1,Array.size_modify,hbb,goInt]
  unfold Oper.wp
  rw [hr]
  have hmp:H26 lst a z0=lst:=by simp [H26,f5]
  obtain⟨s1,s2⟩:=H6e (Zj.both hT).2 hsat hi hb (es':=mapOf kv av (H26 lst a z0)) (ents':=He.modify (G31 lst a) fun e=>{ e with key:=kv a }) (by rw [hmp]; simp [mapOf,hlen]) (fun j e' k u he hu=>by
   rw [hmp] at hu
   rw [Array.getElem?_modify] at he
   by_cases ej:G31 lst a=j
   ·subst ej
    rw [if_pos rfl,f2] at he
    simp at he
    subst he
    have:=h3 _ e k u f2 hu
    exact⟨f3.symm.trans this.1,this.2⟩
   ·rw [if_neg ej] at he
    exact h3 j e' k u he hu)
  exact hK _ _ _ _ β ⟨rfl,rfl⟩ s1 s2 (tupV _ _)

theorem Y1c {lst:List (κ×ν)} (hn:(lst.map (·.1)).Nodup) (a:κ) (z:ν):∃ v0,(H26 lst a z)[G31 lst a]? = some (a,v0):=by
 unfold H26
 by_cases h:G32 lst a=true
 ·rw [if_pos h]
  unfold G32 at h
  obtain⟨p,hp,e⟩:=List.any_eq_true.1 h
  obtain⟨j,hj,e2⟩:=List.mem_iff_getElem.1 hp
  have hat:lst[j]? = some (a,p.2):=by
   rw [List.getElem?_eq_getElem hj,e2]
   have:p.1=a:=by simpa using e
   rw [← this]
  rw [(He4 hn hat).2]; exact⟨_,hat⟩
 ·rw [if_neg h]
  have hno:∀ p∈lst,p.1≠a:=fun p hp e=>h (H0a hp e)
  rw [J3c hno]; exact⟨z,by simp⟩

theorem Qf1 {lst:List (κ×ν)} (hn:(lst.map (·.1)).Nodup) (a:κ) (z v:ν):(H26 lst a z).set (G31 lst a) (a,v)=Gfc lst a v:=by
 by_cases h:G32 lst a=true
 ·obtain⟨v0,h0⟩:=Y1c hn a z
  have:H26 lst a z=lst:=by simp [H26,h]
  rw [this] at h0 ⊢
  exact(Y1b hn h0).symm
 ·have hno:∀ p∈lst,p.1≠a:=fun p hp e=>h (H0a hp e)
  have h':G32 lst a=false:=by simpa using h
  simp [H26,Gfc,h',J3c hno]

theorem R3b {m s y:Operand} {T i:Nat} {lst:List (κ×ν)} {a:κ} {v:ν} (z0:ν) (ho:o.op=.entryStore T m s y) (hm:ev l m=.mp i) (hi:lk L i=some (.map T (mapOf kv av (H26 lst a z0)))) (hn:(lst.map (·.1)).Nodup)
  (hs:ev l s=I64 (G31 lst a)) (hy:(ev l y).plain=av v) (hyd:(av v).isData=true) (hcl:Nat.blt T 1000000=true:=by rfl) :
  H0 P o l L (Is .junk ((i,.map T (mapOf kv av (Gfc lst a v)))::L)):=by
 intro A w β KK Q hsat hf hK
 have hv:=hf.ev m
 rw [hm] at hv
 obtain⟨b,hb,hmv⟩:=hv.inv_mp
 obtain⟨He,h1,h2,h3⟩:=J1d hsat hi hb hcl
 have hsv:=hf.ev s
 rw [hs] at hsv
 have hyv:=(hf.ev y).plain
 rw [hy] at hyv
 have hyD:=hyv.toD hyd
 have hlen:He.size=(H26 lst a z0).length:=by simpa [mapOf] using h2
 obtain⟨v0,hat⟩:=Y1c hn a z0
 have hlt:G31 lst a < He.size:=by rw [hlen]; exact(List.getElem?_eq_some_iff.1 hat).1
 have hborn:∀ (j:Nat) (hj:j < He.size),He[j].born=j:=fun j hj=>by
  have hj':j < (H26 lst a z0).length:=by omega
  exact(h3 j He[j] (kv (H26 lst a z0)[j].1) (av (H26 lst a z0)[j].2) (by simp [hj]) (by simp [mapOf,hj'])).2.2
 have hfind:He.findIdx? (fun e=>(e.born:Int)==(G31 lst a:Int))=some (G31 lst a):=by
  rw [Array.findIdx?_eq_some_iff_getElem]
  refine⟨hlt,by rw [hborn _ hlt]; simp,fun j hj=>?_⟩
  rw [hborn j (by omega)]
  simp; omega
 have hr:(execOp A.eval o).run P w=.ok .skip { w with heap:=w.heap.setIfInBounds b (.map (He.modify (G31 lst a) fun e=>{ e with val:=A.eval y }) (He.modify (G31 lst a) fun e=>{ e with val:=A.eval y }).size) }:=by
  simp only [execOp,ho,Instr.entryStore,hmv,hsv.inv_sc,asInt,asIntOf,Sem.run_bind,Result.andThen_ok,Sem.run_pure,Qq h1,hfind,G0c h1,Array.size_modify]
 unfold Oper.wp
 rw [hr]
 obtain⟨s1,s2⟩:=H6e hcl hsat hi hb (es':=mapOf kv av (Gfc lst a v)) (ents':=He.modify (G31 lst a) fun e=>{ e with val:=A.eval y }) (by rw [← Qf1 hn a z0 v]; simp [mapOf,hlen]) (fun j e' k u he hu=>by
  rw [← Qf1 hn a z0 v] at hu
  simp only [mapOf,List.map_set] at hu
  rw [Array.getElem?_modify] at he
  rw [List.getElem?_set] at hu
  by_cases ej:G31 lst a=j
  ·subst ej
   rw [if_pos rfl,Array.getElem?_eq_getElem hlt] at he
   rw [if_pos rfl,if_pos (by simp; omega)] at hu
   simp at he hu
   obtain⟨rfl,rfl⟩:=hu
   subst he
   have:=(h3 (G31 lst a) He[G31 lst a] (kv a) (av v0) (by simp [hlt]) (by simp [mapOf,hat]))
   exact⟨this.1,hyD,this.2.2⟩
  ·rw [if_neg ej] at he hu
   exact h3 j e' k u he hu)
 exact hK _ _ _ _ β ⟨rfl,rfl⟩ s1 s2 .junk
end typed

/-! ### Ranging over a map -/
theorem Ye8 (i:Nat) {x:Operand} {T K E m t:Nat} {es:List (Value×AV)} (ho:o.op=.range T x) (hx:ev l x=.mp m) (hm:lk L m=some (.map t es)) (hi:lk L i=none) (hT:Zj P T K E=true) (hcl:Nat.blt t 1000000=true:=by rfl) :
  H0 P o l L (Is (.it i) ((i,.iter (.mp m) es.length [])::L)):=by
 intro a w β KK Q hsat hf hK
 have hv:=hf.ev x
 rw [hx] at hv
 obtain⟨b,hb,hmv⟩:=hv.inv_mp
 obtain⟨He,h1,h2,h3⟩:=J1d hsat hm hb hcl
 have hr:(execOp a.eval o).run P w=.ok (.value (.pointer (some ⟨w.heap.size,0,none⟩))) (w.alloc (.mapIter (some b) es.length #[] es.length)):=by
  simp only [execOp,ho,Instr.range,underlying,Zj.out hT,Sem.run_bind,Sem.run_pure,run_program,Result.andThen_ok,hmv,Qq h1,run_newObj,h2]
  rfl
 unfold Oper.wp
 rw [hr]
 have hne:i≠m:=fun e=>by subst e; rw [hi] at hm; cases hm
 exact hK _ _ _ _ (upP β i (some w.heap.size)) ⟨rfl,rfl⟩ (hsat.alloc hi _ (fun hs=>⟨_,rfl,b,.mp (by rw [Gh,if_neg hne]; exact hm) (by simp [upP,Ne.symm hne,hb]),heap_alloc_new w _⟩)) (Step.alloc hi hsat.bnd _)
  (.it (m:=.mp m) (n:=es.length) (seen:=[]) (by simp [Gh]) (by simp [upP]))

def Z40 (i m:Nat) (L:Loc) (es:List (Value×AV)) (seen:List Nat):AV→Loc→Prop:=fun u L'=>
 (∃ j k v,es[j]? = some (k,v)∧j ∉ seen∧u=.tup [BL true,Rt k,v]∧L'=(i,.iter (.mp m) es.length (seen++[j]))::L) ∨
 ((∀ j,j < es.length→j∈seen)∧u=.tup [BL false]∧L'=L)

theorem Z1f {x:Operand} {i m t:Nat} {es:List (Value×AV)} {seen:List Nat} (ho:o.op=.next x false) (hx:ev l x=.it i) (hi:lk L i=some (.iter (.mp m) es.length seen)) (hm:lk L m=some (.map t es)) (hcl:Nat.blt t 1000000=true:=by rfl):H0 P o l L (Z40 i m L es seen):=by
 intro a w β KK Q hsat hf hK
 have hv:=hf.ev x
 rw [hx] at hv
 have hit:∃ b,β i=some b∧a.eval x=.pointer (some ⟨b,0,none⟩):=by
  generalize a.eval x=v at hv
  cases hv with
  | data h=>cases h
  | it _ h=>exact⟨_,h,rfl⟩
 obtain⟨b,hb,hxv⟩:=hit
 obtain⟨b',hb',bm,hvm,hob⟩:=hsat.obj i _ hi
 rw [hb] at hb'; cases hb'
 obtain⟨bm',hbm,ebm⟩:=hvm.inv_mp
 cases ebm
 obtain⟨He,h1,h2,h3⟩:=J1d hsat hm hbm hcl
 have hborn:∀ (j:Nat) (hj:j < He.size),He[j].born=j:=fun j hj=>by
  have hj':j < es.length:=by omega
  exact(h3 j He[j] es[j].1 es[j].2 (by simp [hj]) (by simp [hj'])).2.2
 -- what is left
 let left:Array MapEntry:=He.filter fun e=>!seen.toArray.contains e.born
 have hlb:∀ e∈left,∃ (j:Nat) (hj:j < He.size),He[j]=e∧j ∉ seen:=by
  intro e he
  simp only [left,Array.mem_filter] at he
  obtain⟨j,hj,e1⟩:=Array.mem_iff_getElem.1 he.1
  refine⟨j,hj,e1,?_⟩
  have:=he.2
  rw [← e1,hborn j hj] at this
  simpa using this
 have hold:left.filter (fun e=>decide (e.born < es.length))=left:=by
  rw [Array.filter_eq_self]
  intro e he
  obtain⟨j,hj,e1,_⟩:=hlb e he
  rw [← e1,hborn j hj]; simp; omega
 have hnew:left.filter (fun e=>decide (e.born ≥ es.length))=#[]:=by
  rw [Array.filter_eq_empty_iff]
  intro e he
  obtain⟨j,hj,e1,_⟩:=hlb e he
  rw [← e1,hborn j hj]; simp; omega
 have hquiet:(!seen.toArray.isEmpty&&!He.isEmpty&&He.all (fun e=>decide (e.born ≥ es.length)))=false:=by
  by_cases h0:He.size=0
  ·have:He.isEmpty=true:=by simp [Array.isEmpty,h0]
   simp [this]
  ·have:He.all (fun e=>decide (e.born ≥ es.length))=false:=by
    rw [Bool.eq_false_iff]
    intro hall
    rw [Array.all_eq_true] at hall
    have:=hall 0 (by omega)
    rw [hborn 0 (by omega)] at this
    have:=of_decide_eq_true this
    omega
   simp [this]
 have hgetI:(getObj b).run P w=.ok (.mapIter (some bm) es.length seen.toArray es.length) w:=by simp [getObj,Sem.run,hob]
 have hlt:b < w.heap.size:=hsat.bnd i b (by rw [hi]; rfl) hb
 by_cases hempty:left=#[]
 ·-- nothing is left
  have hr:(execOp a.eval o).run P w=.ok (.value (.tuple #[.bool false])) w:=by
   simp only [execOp,ho,Instr.next,hxv,Sem.run_bind,Sem.run_pure,Result.andThen_ok,hgetI,Qq h1,hquiet,Bool.false_eq_true,if_false]
   have e1:(He.filter fun e=>!seen.toArray.contains e.born)=#[]:=hempty
   simp only [e1,Array.filter_empty,Array.isEmpty_empty,if_true,Array.append_empty,Array.map_empty,run_choose]
   rfl
  unfold Oper.wp
  rw [hr]
  refine hK _ _ _ w β (.inr ⟨fun j hj=>?_,rfl,rfl⟩) hsat (Step.refl _ _ _) (.tup rfl fun j u v hu hv=>?_)
  ·by_cases hs:j∈seen
   ·exact hs
   ·exfalso
    have hj':j < He.size:=by omega
    have:He[j]∈left:=by
     simp only [left,Array.mem_filter]
     refine⟨Array.getElem_mem hj',?_⟩
     rw [hborn j hj']; simpa using hs
    rw [hempty] at this; simp at this
  ·match j with
   | 0=>simp at hu hv; subst hu; subst hv; exact .sc
   | j+1=>simp at hu
 ·-- one of those that are left
  have hpos:0 < left.size:=Array.size_pos_iff.2 hempty
  have hcand:((if (left.filter fun e=>decide (e.born < es.length)).isEmpty then #[none] else #[])++((left.filter fun e=>decide (e.born < es.length))++(left.filter fun e=>decide (e.born ≥ es.length))).map some)=left.map some:=by
   rw [hold,hnew]
   have:left.isEmpty=false:=by rw [Array.isEmpty_eq_false_iff]; exact hempty
   rw [this]
   apply Array.ext'
   simp
  have hpick:∀ (c:Nat),c < left.size→∃ (j:Nat) (hj:j < He.size),j ∉ seen∧(left.map some)[c]? = some (some He[j]):=by
   intro c hc
   obtain⟨j,hj,e1,hns⟩:=hlb left[c] (Array.getElem_mem hc)
   exact⟨j,hj,hns,by simp [hc,e1]⟩
  have hch:∃ (c:Nat) (w1:World),(choose (.mapNext (left.map some).size)).run P w=.ok c w1∧c < left.size∧w1.heap=w.heap∧w1.os=w.os∧w1.tape=w.tape∧(w1.output=w.output∧w.drawn≤w1.drawn):=by
   rw [run_choose]
   by_cases hf1:(Question.mapNext (left.map some).size).forced=true
   ·exact⟨0,w,by rw [if_pos hf1],hpos,rfl,rfl,rfl,rfl,Nat.le_refl _⟩
   ·refine⟨_,{ w with drawn:=w.drawn+1 },by rw [if_neg hf1],?_,rfl,rfl,rfl,rfl,Nat.le_succ _⟩
    simp only [Question.cut,Array.size_map]
    exact Nat.mod_lt _ hpos
  obtain⟨c,w1,hc1,hc2,hh,hos,htp,hout⟩:=hch
  obtain⟨j,hj,hns,hcj⟩:=hpick c hc2
  have hj':j < es.length:=by omega
  have hob1:w1.heap[b]? = some (.mapIter (some bm) es.length seen.toArray es.length):=by rw [hh]; exact hob
  have hset:(setObj b (.mapIter (some bm) es.length (seen.toArray.push He[j].born) He.size)).run P w1=.ok () { w1 with heap:=w1.heap.setIfInBounds b (.mapIter (some bm) es.length (seen.toArray.push He[j].born) He.size) }:=by
   simp [setObj,Sem.run,hob1]
  have hr:(execOp a.eval o).run P w=.ok (.value (.tuple #[.bool true,He[j].key,He[j].val])) { w1 with heap:=w1.heap.setIfInBounds b (.mapIter (some bm) es.length (seen.toArray.push He[j].born) He.size) }:=by
   simp only [execOp,ho,Instr.next,hxv,Sem.run_bind,Sem.run_pure,Result.andThen_ok,hgetI,Qq h1,hquiet,Bool.false_eq_true,if_false]
   have e1:(He.filter fun e=>!seen.toArray.contains e.born)=left:=rfl
   rw [e1,hcand,hc1]
   simp only [Result.andThen_ok,hcj,Sem.run_bind,hset,Sem.run_pure]
  unfold Oper.wp
  rw [hr]
  obtain⟨k1,k2,k3⟩:=h3 j He[j] es[j].1 es[j].2 (by simp [hj]) (by simp [hj'])
  have hpush:seen.toArray.push He[j].born=(seen++[j]).toArray:=by rw [hborn j hj]; simp
  have h4:({ w1 with heap:=w1.heap.setIfInBounds b (.mapIter (some bm) es.length (seen.toArray.push He[j].born) He.size) }:World).heap.size=w.heap.size:=by simp [hh]
  have h5:∀ k,k≠b→({ w1 with heap:=w1.heap.setIfInBounds b (.mapIter (some bm) es.length (seen.toArray.push He[j].born) He.size) }:World).heap[k]? = w.heap[k]? := fun k hk=>by
   simp [Array.getElem?_setIfInBounds_ne (Ne.symm hk),hh]
  have st:Step w β L { w1 with heap:=w1.heap.setIfInBounds b (.mapIter (some bm) es.length (seen.toArray.push He[j].born) He.size) } β ((i,.iter (.mp m) es.length (seen++[j]))::L):=
   Step.change hsat hi hb rfl hos htp hout h4 h5
  have hne:i≠m:=fun e=>by subst e; rw [hi] at hm; cases hm
  refine hK _ _ _ _ β (.inl ⟨j,es[j].1,es[j].2,by simp [hj'],hns,rfl,rfl⟩) (Sat.change hsat hi hb st h4 h5 ⟨b,rfl,bm,.mp (by rw [Gh,if_neg hne]; exact hm) hbm,?_⟩) st (.tup rfl fun q u v hu hv=>?_)
  ·rw [hpush]
   simp [hh,hlt,h2]
  ·match q with
   | 0=>simp at hu hv; subst hu; subst hv; exact .sc
   | 1=>simp at hu hv; subst hu; subst hv; rw [← k1]; exact .data (H22 _)
   | 2=>simp at hu hv; subst hu; subst hv; exact .data (k2.mono st.stab)
   | q+3=>simp at hu

theorem Yef {x:Operand} {i m t j:Nat} {es:List (Value×AV)} {seen:List Nat} {k:Value} {v:AV} (ho:o.op=.entry x) (hx:ev l x=.it i) (hi:lk L i=some (.iter (.mp m) es.length (seen++[j]))) (hm:lk L m=some (.map t es)) (hj:es[j]? = some (k,v)) (hcl:Nat.blt t 1000000=true:=by rfl) :
  H0 P o l L (Is (.tup [Rt k,v]) L):=
 Hi fun a w β hsat hf=>by
  have hv:=hf.ev x
  rw [hx] at hv
  have hit:∃ b,β i=some b∧a.eval x=.pointer (some ⟨b,0,none⟩):=by
   generalize a.eval x=v at hv
   cases hv with
   | data h=>cases h
   | it _ h=>exact⟨_,h,rfl⟩
  obtain⟨b,hb,hxv⟩:=hit
  obtain⟨b',hb',bm,hvm,hob⟩:=hsat.obj i _ hi
  rw [hb] at hb'; cases hb'
  obtain⟨bm',hbm,ebm⟩:=hvm.inv_mp
  cases ebm
  obtain⟨He,h1,h2,h3⟩:=J1d hsat hm hbm hcl
  have hjl:j < es.length:=(List.getElem?_eq_some_iff.1 hj).1
  have hj':j < He.size:=by omega
  have hborn:∀ (j:Nat) (hj:j < He.size),He[j].born=j:=fun j hj=>by
   have hj':j < es.length:=by omega
   exact(h3 j He[j] es[j].1 es[j].2 (by simp [hj]) (by simp [hj'])).2.2
  obtain⟨k1,k2,_⟩:=h3 j He[j] k v (by simp [hj']) hj
  have hgetI:(getObj b).run P w=.ok (.mapIter (some bm) es.length (seen++[j]).toArray es.length) w:=by simp [getObj,Sem.run,hob]
  have hback:(seen++[j]).toArray.back? = some j:=by simp
  have hfind:He.find? (fun e=>e.born==j)=some He[j]:=by
   rw [Array.find?_eq_some_iff_getElem]
   refine⟨by rw [hborn j hj']; simp,j,hj',rfl,fun q hq=>?_⟩
   rw [hborn q (by omega)]
   simp; omega
  have hck:(He.size != es.length)=false:=by simp [h2]
  refine⟨.tuple #[He[j].key,He[j].val],?_,.tup rfl fun q u v hu hv=>?_⟩
  ·simp only [execOp,ho,Instr.entry,hxv,Sem.run_bind,Sem.run_pure,Result.andThen_ok,hgetI,hback,Qq h1,hck,Bool.false_eq_true,if_false,hfind]
  ·match q with
   | 0=>simp at hu hv; subst hu; subst hv; rw [← k1]; exact .data (H22 _)
   | 1=>simp at hu hv; subst hu; subst hv; exact .data k2
   | q+2=>simp at hu
end mops
end Go.Proofs.YtidpfkmbfgihlaaGreat
