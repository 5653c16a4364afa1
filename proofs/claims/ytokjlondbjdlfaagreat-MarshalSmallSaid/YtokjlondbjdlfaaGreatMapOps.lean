/- Maps of the call's own: -/
import Derived.Test.YtokjlondbjdlfaaGreatDraw
import Derived.DeepKeys5
import Derived.Laws.StructEq
namespace Go.Proofs.YtokjlondbjdlfaaGreat
open Go.RowKit

structure G6d (P:Program) (k:TypeId) {κ:Type} (kv:κ→Value):Prop where
 inj:∀ a b,kv a=kv b→a=b
 check:∀ (w:World) (em:Bool) a,(Instr.checkKey em 10000 k (kv a)).run P w=.ok () w
 find:∀ (w:World) a (es:List MapEntry),(∀ e∈es,∃ b,e.key=kv b) →
  ((Instr.findKey k (kv a) es).run P w=.ok none w∧∀ e∈es,e.key≠kv a)∨∃ j e,(Instr.findKey k (kv a) es).run P w=.ok (some (j,e.val)) w∧es[j]? = some e∧e.key=kv a
 stays:∀ (w:World) a,(Instr.keyThatStays (kv a) (kv a)).run P w=.ok (kv a) w

theorem G6d.of_int {P:Program} {k:TypeId} {kd:IntKind} (h:H8b P k kd=true):G6d P k (fun n:Int=>Value.int kd n) where
 inj:=fun a b e=>by cases e; rfl
 check:=fun w em a=>by
  show (Instr.checkKey em (9999+1) k (.int kd a)).run P w=.ok () w
  generalize 9999=n
  simp only [Instr.checkKey,underlying,run_program,Sem.run_bind,Result.andThen_ok,H8b.out h,Sem.run_pure]
 find:=fun w a es he=>by
  have key:∀ (es:List MapEntry) (i:Nat),(∀ e∈es,∃ b,e.key=Value.int kd b) →
    (Instr.findNow (.int kd) (.int kd a) es i=some none∧∀ e∈es,e.key≠.int kd a)∨∃ j e,Instr.findNow (.int kd) (.int kd a) es i=some (some (i+j,e.val))∧es[j]? = some e∧e.key=.int kd a:=by
   intro es
   induction es with
   | nil=>intro i _; exact .inl ⟨rfl,by simp⟩
   | cons x r ih=>
    intro i he
    obtain⟨b,hb⟩:=he x (by simp)
    by_cases e:a=b
    ·subst e
     exact .inr ⟨0,x,by simp [Instr.findNow,Instr.sameNow,hb],rfl,hb⟩
    ·have hs:Instr.findNow (.int kd) (.int kd a) (x::r) i=Instr.findNow (.int kd) (.int kd a) r (i+1):=by
      have e':(a==b)=false:=by simp [e]
      simp [Instr.findNow,Instr.sameNow,hb,e']
     rcases ih (i+1) (fun y hy=>he y (by simp [hy])) with ⟨h1,h2⟩ | ⟨j,y,h1,h2,h3⟩
     ·refine .inl ⟨by rw [hs]; exact h1,fun y hy=>?_⟩
      rcases Kr.1 hy with rfl | hy
      ·rw [hb]; intro e'; cases e'; exact e rfl
      ·exact h2 y hy
     ·exact .inr ⟨j+1,y,by rw [hs,h1]; congr 3; omega,by simpa using h2,h3⟩
  rcases key es 0 he with ⟨h1,h2⟩ | ⟨j,e,h1,h2,h3⟩
  ·exact .inl ⟨by simp [Instr.findKey,underlying,H8b.out h,h1],h2⟩
  ·exact .inr ⟨j,e,by simp [Instr.findKey,underlying,H8b.out h,h1],h2,h3⟩
 stays:=fun w a=>by simp [Instr.keyThatStays,Instr.sameBits]

/-! ### A map aQ a list of keys and elements -/
section plain
variable {κ ν:Type} [DecidableEq κ]
def G30 (l:List (κ×ν)) (a:κ):Option ν:=(l.find? fun p=>p.1=a).map (·.2)
def G19 (l:List (κ×ν)) (a:κ):Nat:=l.findIdx fun p=>p.1=a
def G01 (l:List (κ×ν)) (a:κ):Bool:=l.any fun p=>p.1=a
def Gac (l:List (κ×ν)) (a:κ) (v:ν):List (κ×ν):=if G01 l a then l.map fun p=>if p.1=a then (a,v) else p else l++[(a,v)]
end plain
def mapOf {κ ν:Type} (kv:κ→Value) (av:ν→AV) (l:List (κ×ν)):List (Value×AV):=l.map fun p=>(kv p.1,av p.2)

section plain
variable {κ ν:Type} [DecidableEq κ]
theorem J6f {l:List (κ×ν)} {a:κ} (h:∀ p∈l,p.1≠a):G30 l a=none:=by
 unfold G30
 rw [List.find?_eq_none.2 fun p hp=>by simpa using h p hp]; rfl
theorem H13 {l:List (κ×ν)} {a:κ} (h:∀ p∈l,p.1≠a):G01 l a=false:=by
 unfold G01
 rw [List.any_eq_false]; intro p hp; simpa using h p hp
theorem G8b {l:List (κ×ν)} {a:κ} {p:κ×ν} (hp:p∈l) (h:p.1=a):G01 l a=true:=by
 unfold G01
 rw [List.any_eq_true]; exact⟨p,hp,by simpa using h⟩
theorem H57:∀ {l:List (κ×ν)},(l.map (·.1)).Nodup→∀ {j:Nat} {a:κ} {v:ν},l[j]? = some (a,v)→G30 l a=some v∧G19 l a=j
 | [],_,j,a,v,h=>by simp at h
 | (b,u)::r,hn,j,a,v,h=>by
  simp only [List.map_cons,List.nodup_cons] at hn
  cases j with
  | zero=>simp at h; obtain⟨rfl,rfl⟩:=h; simp [G30,G19,List.findIdx_cons]
  | succ j=>
   simp at h
   have h0:b≠a:=fun e=>hn.1 (by subst e; exact Kp.2 ⟨(b,v),K0 h,rfl⟩)
   obtain⟨h1,h2⟩:=H57 hn.2 h
   simp only [G30,G19] at h1 h2 ⊢
   simp [List.findIdx_cons,h0,h1,h2]
theorem H55:∀ {l:List (κ×ν)} {a:κ},(∀ p∈l,p.1≠a)→G19 l a=l.length
 | [],_,_=>rfl
 | (b,u)::r,a,h=>by
  have hb:b≠a:=h (b,u) (by simp)
  have:=H55 (l:=r) (a:=a) (fun p hp=>h p (by simp [hp]))
  simp only [G19] at this ⊢
  simp [List.findIdx_cons,hb,this]
end plain

/-! ### One object of the call's own is changed -/
def J3.alike:J3→J3→Prop
 | .map t _,.map t' _=>t=t'
 | .iter m _ _,.iter m' _ _=>m=m'
 | _,_=>False

theorem Step.change {w w':World} {β:Gx} {L:Loc} {i b:Nat} {o o':J3} (h7:Sat w β L) (hi:lk L i=some o) (hb:β i=some b) (ha:o.alike o')
  (h1:w'.os=w.os) (h2:w'.tape=w.tape) (h3:w'.output=w.output∧w.drawn≤w'.drawn) (h4:w'.heap.size=w.heap.size) (h5:∀ k,k≠b→w'.heap[k]? = w.heap[k]?):Step w β L w' β ((i,o')::L) where
 os:=h1
 tape:=h2
 output:=h3
 size:=by omega
 hid:=fun _ _ _=>Iff.rfl
 stab:=fun b' j hs=>by
  have h0:b'≠b:=fun e=>by subst e; have:=hs.kept i _ hi hb; cases o <;> cases o' <;> simp [J3.alike] at ha <;> exact this
  refine⟨⟨by rw [h4]; exact hs.lt,hs.seen,fun id o2 hid h6=>?_⟩,J4 (w:=w) (h5 b' h0)⟩
  rw [G9] at hid
  by_cases e:i=id
  ·subst e; rw [hb] at h6; exact absurd (Ez h6) (Ne.symm h0)
  ·rw [if_neg e] at hid; exact hs.kept id o2 hid h6
 far:=fun b' h9 hf=>by
  have h0:b'≠b:=fun e=>by subst e; exact hf i (by rw [hi]; rfl) hb
  refine⟨h5 b' h0,fun id hid=>?_⟩
  rw [G9] at hid
  by_cases e:i=id
  ·subst e; rw [hb]; exact fun e=>h0 (Ez e).symm
  ·rw [if_neg e] at hid; exact hf id hid
 box:=fun id t' cs hid=>by
  refine⟨rfl,cs,?_⟩
  rw [G9,if_neg (fun e=>by subst e; rw [hi] at hid; cases hid; cases o' <;> simp [J3.alike] at ha)]; exact hid
 map:=fun id t' es hid=>by
  refine⟨rfl,?_⟩
  rw [G9]
  by_cases e:i=id
  ·subst e; rw [hi] at hid; cases hid
   cases o' <;> simp [J3.alike] at ha
   subst ha; exact⟨_,if_pos rfl⟩
  ·exact⟨es,by rw [if_neg e]; exact hid⟩
 iter:=fun id m n es hid=>by
  refine⟨rfl,?_⟩
  rw [G9]
  by_cases e:i=id
  ·subst e; rw [hi] at hid; cases hid
   cases o' <;> simp [J3.alike] at ha
   subst ha; exact⟨_,_,if_pos rfl⟩
  ·exact⟨n,es,by rw [if_neg e]; exact hid⟩
 vec:=fun id t' k ver xs hid=>by
  have e:i≠id:=fun e=>by subst e; rw [hi] at hid; cases hid; cases o' <;> simp [J3.alike] at ha
  refine⟨ver,xs,by rw [G9,if_neg e]; exact hid,Kb,fun _=>⟨rfl,rfl,fun b' h8=>Y6 (h5 b' (fun e'=>?_))⟩⟩
  subst e'
  exact e (h7.inj i id b' (by rw [hi]; rfl) (by rw [hid]; rfl) hb h8)
 spare:=fun id t' k ver hw hid=>by
  have e:i≠id:=fun e=>by subst e; rw [hi] at hid; cases hid; cases o' <;> simp [J3.alike] at ha
  refine⟨ver,hw,by rw [G9,if_neg e]; exact hid,Kb,fun _=>⟨rfl,rfl,fun b' h8=>h5 b' (fun e'=>?_)⟩⟩
  subst e'
  exact e (h7.inj i id b' (by rw [hi]; rfl) (by rw [hid]; rfl) hb h8)

theorem Sat.change {w w':World} {β:Gx} {L:Loc} {i b:Nat} {o o':J3} (h0:Sat w β L) (hi:lk L i=some o) (hb:β i=some b) (st:Step w β L w' β ((i,o')::L)) (h4:w'.heap.size=w.heap.size) (h5:∀ k,k≠b→w'.heap[k]? = w.heap[k]?)
  (ho:G67 w' β ((i,o')::L) (some b) o'):Sat w' β ((i,o')::L):=by
 have h3:∀ id,(lk ((i,o')::L) id).isSome=true→(lk L id).isSome=true:=fun id h=>by
  rw [G9] at h
  by_cases e:i=id
  ·subst e; rw [hi]; rfl
  ·rwa [if_neg e] at h
 refine⟨fun b i h=>by rw [h4]; exact h0.hid b i h,fun id b' hid h6=>by rw [h4]; exact h0.bnd id b' (h3 id hid) h6,fun id b' j hid h6=>h0.apart id b' j (h3 id hid) h6,fun id id' b' h1 h2=>h0.inj id id' b' (h3 id h1) (h3 id' h2),fun id ob hid=>?_⟩
 rw [G9] at hid
 by_cases e:i=id
 ·subst e
  simp at hid; subst hid
  rw [hb]; exact ho
 ·rw [if_neg e] at hid
  refine(h0.obj id ob hid).step st (fun b' h6=>h5 b' (fun e'=>?_))
  subst e'
  exact e (h0.inj i id b' (by rw [hi]; rfl) (by rw [hid]; rfl) hb h6)

/-! ### The operations -/
def Yf (P:Program) (T K E:Nat):Bool:=match P.underlying T with | some (.map k e)=>k==K&&e==E&&Nat.blt T 1000000 | _=>false
theorem Yf.both {P:Program} {T K E:Nat} (h:Yf P T K E=true):P.underlying T=some (.map K E)∧Nat.blt T 1000000=true:=by
 unfold Yf at h; split at h
 ·simp only [Kk,beq_iff_eq] at h; obtain⟨⟨rfl,rfl⟩,h⟩:=h; exact⟨by assumption,h⟩
 ·cases h
theorem Yf.out {P:Program} {T K E:Nat} (h:Yf P T K E=true):P.underlying T=some (.map K E):=(Yf.both h).1

def Qo:Value→AV
 | .agg vs=>.agg (vs.toList.map .sc)
 | v=>.sc v
theorem G94 {w:World} {S:Nat→Nat→Prop} (v:Value):D w S (Qo v) v:=by
 cases v with
 | agg vs=>
  refine .agg (by simp) fun j u v hu hv=>?_
  simp only [Kf,Option.map_eq_some_iff] at hu
  obtain⟨x,hx,rfl⟩:=hu
  rw [Array.getElem?_toList] at hx
  rw [hx] at hv; cases hv; exact .sc
 | _=>exact .sc

section mops
variable {P:Program} {o:Oper} {l:Fr} {L:Loc} {u:AV}

theorem Qb8 (i:Nat) {T:Nat} (ho:o.op=.makeMap T none) (hi:lk L i=none) (h1:Nat.blt T 1000000=true:=by rfl):Gn P o l L (Is (.mp i) ((i,.map T [])::L)):=by
 intro a w β K Q h0 hf hK
 have hr:(execOp a.eval o).run P w=.ok (.value (.map (some w.heap.size))) (w.alloc (.map #[] 0)):=by
  simp [execOp,ho,Instr.makeMap]
 unfold Oper.wp
 rw [hr]
 exact hK _ _ _ _ (upP β i (some w.heap.size)) ⟨rfl,rfl⟩ (h0.alloc hi _ (fun hs=>⟨_,rfl,.inl ⟨h1,#[],heap_alloc_new w _,rfl,fun i e k u he=>by simp at he⟩⟩)) (Step.alloc hi h0.bnd _) (.mp (t:=T) (es:=[]) (by simp [G9]) (by simp [upP]))

theorem H37 {w:World} {β:Gx} {i b:Nat} {t:TypeId} {es:List (Value×AV)} (h1:Sat w β L) (hi:lk L i=some (.map t es)) (hb:β i=some b) (h2:Nat.blt t 1000000=true):MapAt w (J5 w β L) b es:=by
 obtain⟨b',h0,h⟩:=h1.obj i _ hi
 rw [hb] at h0; cases h0
 rcases h with ⟨_,h⟩ | ⟨h,_⟩
 ·exact h
 ·rw [h2] at h; cases h

section typed
variable {κ ν:Type} [DecidableEq κ] {kv:κ→Value} {av:ν→AV}

theorem J2e {w:World} {S:Nat→Nat→Prop} {K:Nat} {lst:List (κ×ν)} (hk:G6d P K kv) (hn:(lst.map (·.1)).Nodup) {Hh:Array MapEntry} (a0:Hh.size=(mapOf kv av lst).length)
  (he:∀ (i:Nat) e k u,Hh[i]? = some e→(mapOf kv av lst)[i]? = some (k,u)→e.key=k∧D w S u e.val∧e.born=i) (a:κ) :
  ((Instr.findKey K (kv a) Hh.toList).run P w=.ok none w∧(∀ p∈lst,p.1≠a)∧G30 lst a=none∧G01 lst a=false∧G19 lst a=Hh.size) ∨
  ∃ e v,(Instr.findKey K (kv a) Hh.toList).run P w=.ok (some (G19 lst a,e.val)) w∧Hh[G19 lst a]? = some e∧e.key=kv a∧G30 lst a=some v∧G01 lst a=true∧D w S (av v) e.val∧lst[G19 lst a]? = some (a,v)∧e.born=G19 lst a:=by
 have h5:Hh.size=lst.length:=by simpa [mapOf] using a0
 have h9:∀ e∈Hh.toList,∃ b,e.key=kv b:=by
  intro e hm
  obtain⟨j,hj,e1⟩:=List.mem_iff_getElem.1 hm
  have h0:j < lst.length:=by simpa [h5] using hj
  refine⟨lst[j].1,(he j e (kv lst[j].1) (av lst[j].2) ?_ ?_).1⟩
  ·rw [← e1]; simp at hj; simp [hj]
  ·simp [mapOf,h0]
 rcases hk.find w a Hh.toList h9 with ⟨h1,h2⟩ | ⟨j,e,h1,h2,h3⟩
 ·have h4:∀ p∈lst,p.1≠a:=by
   intro p hp e
   obtain⟨j,hj,e1⟩:=List.mem_iff_getElem.1 hp
   have h0:j < Hh.size:=by omega
   have:=(he j Hh[j] (kv lst[j].1) (av lst[j].2) (by simp [h0]) (by simp [mapOf,hj])).1
   refine h2 Hh[j] (Array.getElem_mem_toList h0) ?_
   rw [this,e1,e]
  exact .inl ⟨h1,h4,J6f h4,H13 h4,by rw [H55 h4,h5]⟩
 ·have hj:j < lst.length:=by
   have:=(Ex h2).1
   simp at this; omega
  have h6:Hh[j]? = some e:=by simpa using h2
  obtain⟨k1,k2,k3⟩:=he j e (kv lst[j].1) (av lst[j].2) h6 (by simp [mapOf,hj])
  have h7:lst[j].1=a:=hk.inj _ _ (k1.symm.trans h3)
  have h8:lst[j]? = some (a,lst[j].2):=by rw [Ey hj,← h7]
  obtain⟨g1,g2⟩:=H57 hn h8
  exact .inr ⟨e,lst[j].2,by rw [g2]; exact h1,by rw [g2]; exact h6,h3,g1,G8b (List.getElem_mem hj) h7,k2,by rw [g2]; exact h8,by rw [g2]; exact k3⟩

theorem Ha0 {E:Nat} {zv:Value} (hz:(P.info? E).bind (·.zero)=some zv) (w:World):(zeroValue E).run P w=.ok zv w:=by
 cases h1:P.info? E with
 | none=>rw [h1] at hz; cases hz
 | some i=>rw [h1] at hz; simp at hz; simp [zeroValue,typeInfo,h1,hz]

theorem J4e {m x:Operand} {T K E i:Nat} {ok:Bool} {lst:List (κ×ν)} {a:κ} (z0:ν) (zv:Value) (ho:o.op=.lookup T m x ok) (hm:ev l m=.mp i) (hi:lk L i=some (.map T (mapOf kv av lst))) (hn:(lst.map (·.1)).Nodup)
  (hx:ev l x=Qo (kv a)) (hk:G6d P K kv) (hT:Yf P T K E=true) (hz:(P.info? E).bind (·.zero)=some zv) (h9:av z0=Qo zv) :
  Gn P o l L (Is (bif ok then .tup [av ((G30 lst a).getD z0),BL (G01 lst a)] else av ((G30 lst a).getD z0)) L):=
 H2 fun A w β h8 hf=>by
  have hv:=hf.ev m
  rw [hm] at hv
  obtain⟨b,hb,h4⟩:=hv.inv_mp
  obtain⟨Hh,h1,h2,h3⟩:=H37 h8 hi hb (Yf.both hT).2
  have h5:A.eval x=kv a:=by
   have h:=hf.ev x
   rw [hx] at h
   cases h6:kv a with
   | agg vs=>
    rw [h6] at h
    obtain⟨ws,hw,hl,hc⟩:=h.inv_agg
    rw [hw]
    congr 1
    apply Array.ext
    ·rw [hl]; simp
    ·intro j a0 a1
     have:=hc j (.sc vs[j]) ws[j] (by simp [a1]) (by simp [a0])
     exact this.inv_sc
   | _=>rw [h6] at h; exact h.inv_sc
  have h0:(getObj b).run P w=.ok (.map Hh Hh.size) w:=by simp [getObj,Sem.run,h1]
  rcases J2e (P:=P) hk hn h2 h3 a with ⟨f1,f2,f3,f4,_⟩ | ⟨e,v,f1,f2,f3,f4,f5,f6,_⟩
  ·refine⟨if ok then .tuple #[zv,.bool false] else zv,?_,?_⟩
   ·simp only [execOp,ho,Instr.lookup,underlying,h4,h5,Sem.run_bind,run_program,Result.andThen_ok,Yf.out hT,Sem.run_pure,h0,hk.check,f1,Ha0 hz]
   ·rw [f3,f4]
    have h7:V w β L (av z0) zv:=by rw [h9]; exact .data (G94 zv)
    cases ok
    ·exact h7
    ·refine .tup rfl fun j u v hu hv=>?_
     match j with
     | 0=>simp at hu hv; subst hu; subst hv; exact h7
     | 1=>simp at hu hv; subst hu; subst hv; exact .sc
     | j+2=>simp at hu
  ·refine⟨if ok then .tuple #[e.val,.bool true] else e.val,?_,?_⟩
   ·simp only [execOp,ho,Instr.lookup,underlying,h4,h5,Sem.run_bind,run_program,Result.andThen_ok,Yf.out hT,Sem.run_pure,h0,hk.check,f1]
   ·rw [f4,f5]
    cases ok
    ·exact .data f6
    ·refine .tup rfl fun j u v' hu hv=>?_
     match j with
     | 0=>simp at hu hv; subst hu; subst hv; exact .data f6
     | 1=>simp at hu hv; subst hu; subst hv; exact .sc
     | j+2=>simp at hu

theorem H5a {A:Act} {w:World} {β:Gx} {x:Operand} {k:Value} (hf:Jm A w β L l) (hx:ev l x=Qo k):A.eval x=k:=by
 have h:=hf.ev x
 rw [hx] at h
 cases k with
 | agg vs=>
  obtain⟨ws,hw,hl,hc⟩:=h.inv_agg
  rw [hw]
  congr 1
  apply Array.ext
  ·rw [hl]; simp
  ·intro j h0 h1
   have:=hc j (.sc vs[j]) ws[j] (by simp [h1]) (by simp [h0])
   exact this.inv_sc
 | _=>exact h.inv_sc

theorem Q1 {w:World} {b:Nat} {Hh:Array MapEntry} {c:Nat} (h:w.heap[b]? = some (.map Hh c)):(getObj b).run P w=.ok (.map Hh c) w:=by simp [getObj,Sem.run,h]
theorem Z3 {w:World} {b:Nat} {Hh ents':Array MapEntry} {c c':Nat} (h:w.heap[b]? = some (.map Hh c)):(setObj b (.map ents' c')).run P w=.ok () { w with heap:=w.heap.setIfInBounds b (.map ents' c') }:=by simp [setObj,Sem.run,h]

theorem H9f (w:World) (b:Nat) (o:Obj):({ w with heap:=w.heap.setIfInBounds b o }:World).heap.size=w.heap.size:=by simp
theorem H4e (w:World) (b k:Nat) (o:Obj) (h:k≠b):({ w with heap:=w.heap.setIfInBounds b o }:World).heap[k]? = w.heap[k]? := by
 simp [Array.getElem?_setIfInBounds_ne (Ne.symm h)]
theorem Jc0 (w:World) (b:Nat) (o:Obj) (h:b < w.heap.size):({ w with heap:=w.heap.setIfInBounds b o }:World).heap[b]? = some o:=by
 simp [h]

theorem Gbc {w:World} {β:Gx} {i b T:Nat} {es es':List (Value×AV)} {ents':Array MapEntry} (h3:Nat.blt T 1000000=true) (h0:Sat w β L) (hi:lk L i=some (.map T es)) (hb:β i=some b)
  (h4:ents'.size=es'.length) (he:∀ (i:Nat) e k u,ents'[i]? = some e→es'[i]? = some (k,u)→e.key=k∧D w (J5 w β L) u e.val∧e.born=i) :
  let w':World:={ w with heap:=w.heap.setIfInBounds b (.map ents' ents'.size) }
  Sat w' β ((i,.map T es')::L)∧Step w β L w' β ((i,.map T es')::L):=by
 intro w'
 have h5:b < w.heap.size:=h0.bnd i b (by rw [hi]; rfl) hb
 have st:Step w β L w' β ((i,.map T es')::L):=Step.change h0 hi hb rfl rfl rfl ⟨rfl,Kb⟩ (H9f w b _) (fun k hk=>H4e w b k _ hk)
 exact⟨Sat.change h0 hi hb st (H9f w b _) (fun k hk=>H4e w b k _ hk) ⟨b,rfl,.inl ⟨h3,ents',Jc0 w b _ h5,h4,fun j e k u h1 h2=>⟨(he j e k u h1 h2).1,(he j e k u h1 h2).2.1.mono st.stab,(he j e k u h1 h2).2.2⟩⟩⟩,st⟩

theorem H11 {lst:List (κ×ν)} (h:(lst.map (·.1)).Nodup) (a:κ) (v:ν):((Gac lst a v).map (·.1)).Nodup:=by
 unfold Gac
 by_cases hh:G01 lst a=true
 ·rw [if_pos hh]
  have:(lst.map fun p=>if p.1=a then (a,v) else p).map (·.1)=lst.map (·.1):=by
   rw [List.map_map]
   refine List.map_congr_left fun p _=>?_
   simp only [Function.comp]
   by_cases e:p.1=a <;> simp [e]
  rw [this]; exact h
 ·rw [if_neg hh]
  rw [List.map_append,List.nodup_append]
  refine⟨h,by simp,fun x hx y hy=>?_⟩
  simp at hy; subst hy
  intro e; subst e
  obtain⟨p,hp,e⟩:=Kp.1 hx
  exact hh (G8b hp e)
theorem Q67 {lst:List (κ×ν)} (h:(lst.map (·.1)).Nodup) {a:κ} {j:Nat} {v0 v:ν} (hj:lst[j]? = some (a,v0)):Gac lst a v=lst.set j (a,v):=by
 have hm:G01 lst a=true:=G8b (K0 hj) rfl
 unfold Gac
 rw [if_pos hm]
 apply List.ext_getElem?
 intro i
 rw [Kf,List.getElem?_set]
 by_cases e:j=i
 ·subst e
  have h0:j < lst.length:=(Ex hj).1
  rw [if_pos rfl,if_pos h0,hj]
  simp
 ·rw [if_neg e]
  cases hi:lst[i]? with
  | none=>rfl
  | some p=>
   obtain⟨b,u⟩:=p
   by_cases e2:b=a
   ·subst e2
    have h1:=(H57 h hi).2
    have h2:=(H57 h hj).2
    omega
   ·simp [e2]

theorem Jef {m x y:Operand} {T K E i:Nat} {lst:List (κ×ν)} {a:κ} {v:ν} (ho:o.op=.mapUpdate T m x y) (hm:ev l m=.mp i) (hi:lk L i=some (.map T (mapOf kv av lst))) (hn:(lst.map (·.1)).Nodup)
  (hx:ev l x=Qo (kv a)) (hy:(ev l y).plain=av v) (a0:(av v).isData=true) (hk:G6d P K kv) (hT:Yf P T K E=true) :
  Gn P o l L (Is .junk ((i,.map T (mapOf kv av (Gac lst a v)))::L)):=by
 intro A w β KK Q h4 hf hK
 have hv:=hf.ev m
 rw [hm] at hv
 obtain⟨b,hb,h6⟩:=hv.inv_mp
 obtain⟨Hh,h1,h2,h3⟩:=H37 h4 hi hb (Yf.both hT).2
 have h7:A.eval x=kv a:=H5a hf hx
 have h8:=(hf.ev y).plain
 rw [hy] at h8
 have h9:=h8.toD a0
 have h5:Hh.size=lst.length:=by simpa [mapOf] using h2
 rcases J2e (P:=P) (w:=w) hk hn h2 h3 a with ⟨f1,f2,f3,f4,f5⟩ | ⟨e,v0,f1,f2,f3,f4,f5,f6,f7,f8⟩
 ·have hr:(execOp A.eval o).run P w=.ok .skip { w with heap:=w.heap.setIfInBounds b (.map (Hh.push { key:=kv a,val:=A.eval y,born:=Hh.size }) (Hh.push { key:=kv a,val:=A.eval y,born:=Hh.size }).size) }:=by
   simp only [execOp,ho,Instr.mapUpdate,underlying,h6,h7,Sem.run_bind,run_program,Result.andThen_ok,Yf.out hT,Sem.run_pure,Q1 h1,hk.check,f1,Z3 h1,Array.size_push]
  unfold Oper.wp
  rw [hr]
  have h0:Gac lst a v=lst++[(a,v)]:=by simp [Gac,f4]
  obtain⟨s1,s2⟩:=Gbc (Yf.both hT).2 h4 hi hb (es':=mapOf kv av (Gac lst a v)) (ents':=Hh.push { key:=kv a,val:=A.eval y,born:=Hh.size }) (by rw [h0]; simp [mapOf,h5]) (fun j e k u he hu=>by
   rw [h0] at hu
   simp only [mapOf,List.map_append,List.map_cons,List.map_nil] at hu
   rcases Ep j Hh.size with hj | hj
   ·rw [Array.getElem?_push,if_neg (by omega)] at he
    rw [Kd (by simp; omega)] at hu
    exact h3 j e k u he hu
   ·have:j=Hh.size:=by
     have:=(Ej he).1; simp at this; omega
    subst this
    rw [Array.getElem?_push,if_pos rfl] at he
    cases he
    rw [Kc (by simp; omega)] at hu
    simp [h5] at hu
    obtain⟨rfl,rfl⟩:=hu
    exact⟨rfl,h9,rfl⟩)
  exact hK _ _ _ _ β ⟨rfl,rfl⟩ s1 s2 .junk
 ·have a1:=hk.stays w a
  have a3:G19 lst a < Hh.size:=(Ej f2).1
  have hr:(execOp A.eval o).run P w=.ok .skip { w with heap:=w.heap.setIfInBounds b (.map (Hh.modify (G19 lst a) fun e=>{ e with key:=kv a,val:=A.eval y }) (Hh.modify (G19 lst a) fun e=>{ e with key:=kv a,val:=A.eval y }).size) }:=by
   have a2:((Hh[G19 lst a]?).map (·.key)).getD (kv a)=kv a:=by rw [f2]; exact f3
   simp only [execOp,ho,Instr.mapUpdate,underlying,h6,h7,Sem.run_bind,run_program,Result.andThen_ok,Yf.out hT,Sem.run_pure,Q1 h1,hk.check,f1,a2,a1,Z3 h1,Array.size_modify]
  unfold Oper.wp
  rw [hr]
  have h0:=Q67 (v:=v) hn f7
  obtain⟨s1,s2⟩:=Gbc (Yf.both hT).2 h4 hi hb (es':=mapOf kv av (Gac lst a v)) (ents':=Hh.modify (G19 lst a) fun e=>{ e with key:=kv a,val:=A.eval y }) (by rw [h0]; simp [mapOf,h5]) (fun j e' k u he hu=>by
   rw [h0] at hu
   simp only [mapOf,List.map_set] at hu
   rw [Array.getElem?_modify] at he
   rw [List.getElem?_set] at hu
   by_cases ej:G19 lst a=j
   ·subst ej
    rw [if_pos rfl,f2] at he
    rw [if_pos rfl,if_pos (by simp; omega)] at hu
    simp at he hu
    obtain⟨rfl,rfl⟩:=hu
    subst he
    exact⟨rfl,h9,f8⟩
   ·rw [if_neg ej] at he hu
    exact h3 j e' k u he hu)
  exact hK _ _ _ _ β ⟨rfl,rfl⟩ s1 s2 .junk

end typed

/-! ### Ranging over a map -/
end mops
end Go.Proofs.YtokjlondbjdlfaaGreat
