/-
 Maps of the call's own: Calls whose result is known,closures,the small builtins,slic When two structs or arrays of plain cells are equal,and thei
-/
import Derived.Test.YtokjlondbjdlfaaDraw
import Derived.DeepKeys5
import Derived.Laws.StructEq
namespace Go.Proofs.Ytokjlondbjdlfaa
open Go.RowKit

structure G76 (P:Program) (k:TypeId) {κ:Type} (kv:κ→Value):Prop where
 inj:∀ a b,kv a=kv b→a=b
 check:∀ (w:World) (em:Bool) a,(Instr.checkKey em 10000 k (kv a)).run P w=.ok () w
 find:∀ (w:World) a (es:List MapEntry),(∀ e∈es,∃ b,e.key=kv b) →
  ((Instr.findKey k (kv a) es).run P w=.ok none w∧∀ e∈es,e.key≠kv a)∨∃ j e,(Instr.findKey k (kv a) es).run P w=.ok (some (j,e.val)) w∧es[j]? = some e∧e.key=kv a
 stays:∀ (w:World) a,(Instr.keyThatStays (kv a) (kv a)).run P w=.ok (kv a) w

theorem G76.of_int {P:Program} {k:TypeId} {kd:IntKind} (h:H46 P k kd=true):G76 P k (fun n:Int=>Value.int kd n) where
 inj:=fun a b e=>by cases e; rfl
 check:=fun w em a=>by
  show (Instr.checkKey em (9999+1) k (.int kd a)).run P w=.ok () w
  generalize 9999=n
  simp only [Instr.checkKey,underlying,run_program,Sem.run_bind,Result.andThen_ok,H46.out h,Sem.run_pure]
 find:=fun w a es he=>by
  have key:∀ (es:List MapEntry) (i:Nat),(∀ e∈es,∃ b,e.key=Value.int kd b) →
    (Instr.findNow (.int kd) (.int kd a) es i=some none∧∀ e∈es,e.key≠.int kd a)∨∃ j e,Instr.findNow (.int kd) (.int kd a) es i=some (some (i+j,e.val))∧es[j]? = some e∧e.key=.int kd a:=by
   intro es
   induction es with
   | nil=>intro i _; exact .inl ⟨rfl,by simp⟩
   | cons x r ih=>
    intro i he
    obtain⟨b,hb⟩:=he x (by simp)
    by_cases e:a=b
    ·subst e
     exact .inr ⟨0,x,by simp [Instr.findNow,Instr.sameNow,hb],rfl,hb⟩
    ·have hs:Instr.findNow (.int kd) (.int kd a) (x::r) i=Instr.findNow (.int kd) (.int kd a) r (i+1):=by
      have e':(a==b)=false:=by simp [e]
      simp [Instr.findNow,Instr.sameNow,hb,e']
     rcases ih (i+1) (fun y hy=>he y (by simp [hy])) with ⟨h1,h2⟩ | ⟨j,y,h1,h2,h3⟩
     ·refine .inl ⟨by rw [hs]; exact h1,fun y hy=>?_⟩
      rcases Kp.1 hy with rfl | hy
      ·rw [hb]; intro e'; cases e'; exact e rfl
      ·exact h2 y hy
     ·exact .inr ⟨j+1,y,by rw [hs,h1]; congr 3; omega,by simpa using h2,h3⟩
  rcases key es 0 he with ⟨h1,h2⟩ | ⟨j,e,h1,h2,h3⟩
  ·exact .inl ⟨by simp [Instr.findKey,underlying,H46.out h,h1],h2⟩
  ·exact .inr ⟨j,e,by simp [Instr.findKey,underlying,H46.out h,h1],h2,h3⟩
 stays:=fun w a=>by simp [Instr.keyThatStays,Instr.sameBits]

/-! ### A map aQ a list of keys and elements -/
section plain
variable {κ ν:Type} [DecidableEq κ]
def G2e (l:List (κ×ν)) (a:κ):Option ν:=(l.find? fun p=>p.1=a).map (·.2)
def G1d (l:List (κ×ν)) (a:κ):Nat:=l.findIdx fun p=>p.1=a
def G08 (l:List (κ×ν)) (a:κ):Bool:=l.any fun p=>p.1=a
def Gb7 (l:List (κ×ν)) (a:κ) (v:ν):List (κ×ν):=if G08 l a then l.map fun p=>if p.1=a then (a,v) else p else l++[(a,v)]
end plain
def mapOf {κ ν:Type} (kv:κ→Value) (av:ν→AV) (l:List (κ×ν)):List (Value×AV):=l.map fun p=>(kv p.1,av p.2)

section plain
variable {κ ν:Type} [DecidableEq κ]
theorem J97 {l:List (κ×ν)} {a:κ} (h:∀ p∈l,p.1≠a):G2e l a=none:=by
 unfold G2e
 rw [List.find?_eq_none.2 fun p hp=>by simpa using h p hp]; rfl
theorem H1c {l:List (κ×ν)} {a:κ} (h:∀ p∈l,p.1≠a):G08 l a=false:=by
 unfold G08
 rw [List.any_eq_false]; intro p hp; simpa using h p hp
theorem G91 {l:List (κ×ν)} {a:κ} {p:κ×ν} (hp:p∈l) (h:p.1=a):G08 l a=true:=by
 unfold G08
 rw [List.any_eq_true]; exact⟨p,hp,by simpa using h⟩
theorem H66:∀ {l:List (κ×ν)},(l.map (·.1)).Nodup→∀ {j:Nat} {a:κ} {v:ν},l[j]? = some (a,v)→G2e l a=some v∧G1d l a=j
 | [],_,j,a,v,h=>by simp at h
 | (b,u)::r,hn,j,a,v,h=>by
  simp only [List.map_cons,List.nodup_cons] at hn
  cases j with
  | zero=>simp at h; obtain⟨rfl,rfl⟩:=h; simp [G2e,G1d,List.findIdx_cons]
  | succ j=>
   simp at h
   have h0:b≠a:=fun e=>hn.1 (by subst e; exact Kn.2 ⟨(b,v),Ey h,rfl⟩)
   obtain⟨h1,h2⟩:=H66 hn.2 h
   simp only [G2e,G1d] at h1 h2 ⊢
   simp [List.findIdx_cons,h0,h1,h2]
theorem H64:∀ {l:List (κ×ν)} {a:κ},(∀ p∈l,p.1≠a)→G1d l a=l.length
 | [],_,_=>rfl
 | (b,u)::r,a,h=>by
  have hb:b≠a:=h (b,u) (by simp)
  have:=H64 (l:=r) (a:=a) (fun p hp=>h p (by simp [hp]))
  simp only [G1d] at this ⊢
  simp [List.findIdx_cons,hb,this]
end plain

/-! ### One object of the call's own is changed -/
def J5.alike:J5→J5→Prop
 | .map t _,.map t' _=>t=t'
 | .iter m _ _,.iter m' _ _=>m=m'
 | _,_=>False

theorem Step.change {w w':World} {β:Gx} {L:Loc} {i b:Nat} {o o':J5} (h7:Sat w β L) (hi:lk L i=some o) (hb:β i=some b) (ha:o.alike o')
  (h1:w'.os=w.os) (h2:w'.tape=w.tape) (h3:w'.output=w.output∧w.drawn≤w'.drawn) (h4:w'.heap.size=w.heap.size) (h5:∀ k,k≠b→w'.heap[k]? = w.heap[k]?):Step w β L w' β ((i,o')::L) where
 os:=h1
 tape:=h2
 output:=h3
 size:=by omega
 hid:=fun _ _ _=>Iff.rfl
 stab:=fun b' j hs=>by
  have h0:b'≠b:=fun e=>by subst e; have:=hs.kept i _ hi hb; cases o <;> cases o' <;> simp [J5.alike] at ha <;> exact this
  refine⟨⟨by rw [h4]; exact hs.lt,hs.seen,fun id o2 hid h6=>?_⟩,J7 (w:=w) (h5 b' h0)⟩
  rw [G9] at hid
  by_cases e:i=id
  ·subst e; rw [hb] at h6; exact absurd (Ex h6) (Ne.symm h0)
  ·rw [if_neg e] at hid; exact hs.kept id o2 hid h6
 far:=fun b' h9 hf=>by
  have h0:b'≠b:=fun e=>by subst e; exact hf i (by rw [hi]; rfl) hb
  refine⟨h5 b' h0,fun id hid=>?_⟩
  rw [G9] at hid
  by_cases e:i=id
  ·subst e; rw [hb]; exact fun e=>h0 (Ex e).symm
  ·rw [if_neg e] at hid; exact hf id hid
 box:=fun id t' cs hid=>by
  refine⟨rfl,cs,?_⟩
  rw [G9,if_neg (fun e=>by subst e; rw [hi] at hid; cases hid; cases o' <;> simp [J5.alike] at ha)]; exact hid
 map:=fun id t' es hid=>by
  refine⟨rfl,?_⟩
  rw [G9]
  by_cases e:i=id
  ·subst e; rw [hi] at hid; cases hid
   cases o' <;> simp [J5.alike] at ha
   subst ha; exact⟨_,if_pos rfl⟩
  ·exact⟨es,by rw [if_neg e]; exact hid⟩
 iter:=fun id m n es hid=>by
  refine⟨rfl,?_⟩
  rw [G9]
  by_cases e:i=id
  ·subst e; rw [hi] at hid; cases hid
   cases o' <;> simp [J5.alike] at ha
   subst ha; exact⟨_,_,if_pos rfl⟩
  ·exact⟨n,es,by rw [if_neg e]; exact hid⟩
 vec:=fun id t' k ver xs hid=>by
  have e:i≠id:=fun e=>by subst e; rw [hi] at hid; cases hid; cases o' <;> simp [J5.alike] at ha
  refine⟨ver,xs,by rw [G9,if_neg e]; exact hid,K0,fun _=>⟨rfl,rfl,fun b' h8=>Yd (h5 b' (fun e'=>?_))⟩⟩
  subst e'
  exact e (h7.inj i id b' (by rw [hi]; rfl) (by rw [hid]; rfl) hb h8)
 spare:=fun id t' k ver hw hid=>by
  have e:i≠id:=fun e=>by subst e; rw [hi] at hid; cases hid; cases o' <;> simp [J5.alike] at ha
  refine⟨ver,hw,by rw [G9,if_neg e]; exact hid,K0,fun _=>⟨rfl,rfl,fun b' h8=>h5 b' (fun e'=>?_)⟩⟩
  subst e'
  exact e (h7.inj i id b' (by rw [hi]; rfl) (by rw [hid]; rfl) hb h8)

theorem Sat.change {w w':World} {β:Gx} {L:Loc} {i b:Nat} {o o':J5} (h0:Sat w β L) (hi:lk L i=some o) (hb:β i=some b) (st:Step w β L w' β ((i,o')::L)) (h4:w'.heap.size=w.heap.size) (h5:∀ k,k≠b→w'.heap[k]? = w.heap[k]?)
  (ho:G71 w' β ((i,o')::L) (some b) o'):Sat w' β ((i,o')::L):=by
 have h3:∀ id,(lk ((i,o')::L) id).isSome=true→(lk L id).isSome=true:=fun id h=>by
  rw [G9] at h
  by_cases e:i=id
  ·subst e; rw [hi]; rfl
  ·rwa [if_neg e] at h
 refine⟨fun b i h=>by rw [h4]; exact h0.hid b i h,fun id b' hid h6=>by rw [h4]; exact h0.bnd id b' (h3 id hid) h6,fun id b' j hid h6=>h0.apart id b' j (h3 id hid) h6,fun id id' b' h1 h2=>h0.inj id id' b' (h3 id h1) (h3 id' h2),fun id ob hid=>?_⟩
 rw [G9] at hid
 by_cases e:i=id
 ·subst e
  simp at hid; subst hid
  rw [hb]; exact ho
 ·rw [if_neg e] at hid
  refine(h0.obj id ob hid).step st (fun b' h6=>h5 b' (fun e'=>?_))
  subst e'
  exact e (h0.inj i id b' (by rw [hi]; rfl) (by rw [hid]; rfl) hb h6)

/-! ### The operations -/
def Yq (P:Program) (T K E:Nat):Bool:=match P.underlying T with | some (.map k e)=>k==K&&e==E&&Nat.blt T 1000000 | _=>false
theorem Yq.both {P:Program} {T K E:Nat} (h:Yq P T K E=true):P.underlying T=some (.map K E)∧Nat.blt T 1000000=true:=by
 unfold Yq at h; split at h
 ·simp only [Ki,beq_iff_eq] at h; obtain⟨⟨rfl,rfl⟩,h⟩:=h; exact⟨by assumption,h⟩
 ·cases h
theorem Yq.out {P:Program} {T K E:Nat} (h:Yq P T K E=true):P.underlying T=some (.map K E):=(Yq.both h).1

def Qv:Value→AV
 | .agg vs=>.agg (vs.toList.map .sc)
 | v=>.sc v
theorem G9b {w:World} {S:Nat→Nat→Prop} (v:Value):D w S (Qv v) v:=by
 cases v with
 | agg vs=>
  refine .agg (by simp) fun j u v hu hv=>?_
  simp only [Kd,Option.map_eq_some_iff] at hu
  obtain⟨x,hx,rfl⟩:=hu
  rw [Array.getElem?_toList] at hx
  rw [hx] at hv; cases hv; exact .sc
 | _=>exact .sc

section mops
variable {P:Program} {o:Oper} {l:Fr} {L:Loc} {u:AV}

theorem Qe4 (i:Nat) {T:Nat} (ho:o.op=.makeMap T none) (hi:lk L i=none) (h1:Nat.blt T 1000000=true:=by rfl):Gq P o l L (Is (.mp i) ((i,.map T [])::L)):=by
 intro a w β K Q h0 hf hK
 have hr:(execOp a.eval o).run P w=.ok (.value (.map (some w.heap.size))) (w.alloc (.map #[] 0)):=by
  simp [execOp,ho,Instr.makeMap]
 unfold Oper.wp
 rw [hr]
 exact hK _ _ _ _ (upP β i (some w.heap.size)) ⟨rfl,rfl⟩ (h0.alloc hi _ (fun hs=>⟨_,rfl,.inl ⟨h1,#[],heap_alloc_new w _,rfl,fun i e k u he=>by simp at he⟩⟩)) (Step.alloc hi h0.bnd _) (.mp (t:=T) (es:=[]) (by simp [G9]) (by simp [upP]))

theorem H42 {w:World} {β:Gx} {i b:Nat} {t:TypeId} {es:List (Value×AV)} (h1:Sat w β L) (hi:lk L i=some (.map t es)) (hb:β i=some b) (h2:Nat.blt t 1000000=true):MapAt w (J8 w β L) b es:=by
 obtain⟨b',h0,h⟩:=h1.obj i _ hi
 rw [hb] at h0; cases h0
 rcases h with ⟨_,h⟩ | ⟨h,_⟩
 ·exact h
 ·rw [h2] at h; cases h

section typed
variable {κ ν:Type} [DecidableEq κ] {kv:κ→Value} {av:ν→AV}

theorem J55 {w:World} {S:Nat→Nat→Prop} {K:Nat} {lst:List (κ×ν)} (hk:G76 P K kv) (hn:(lst.map (·.1)).Nodup) {Hi:Array MapEntry} (a0:Hi.size=(mapOf kv av lst).length)
  (he:∀ (i:Nat) e k u,Hi[i]? = some e→(mapOf kv av lst)[i]? = some (k,u)→e.key=k∧D w S u e.val∧e.born=i) (a:κ) :
  ((Instr.findKey K (kv a) Hi.toList).run P w=.ok none w∧(∀ p∈lst,p.1≠a)∧G2e lst a=none∧G08 lst a=false∧G1d lst a=Hi.size) ∨
  ∃ e v,(Instr.findKey K (kv a) Hi.toList).run P w=.ok (some (G1d lst a,e.val)) w∧Hi[G1d lst a]? = some e∧e.key=kv a∧G2e lst a=some v∧G08 lst a=true∧D w S (av v) e.val∧lst[G1d lst a]? = some (a,v)∧e.born=G1d lst a:=by
 have h5:Hi.size=lst.length:=by simpa [mapOf] using a0
 have h9:∀ e∈Hi.toList,∃ b,e.key=kv b:=by
  intro e hm
  obtain⟨j,hj,e1⟩:=List.mem_iff_getElem.1 hm
  have h0:j < lst.length:=by simpa [h5] using hj
  refine⟨lst[j].1,(he j e (kv lst[j].1) (av lst[j].2) ?_ ?_).1⟩
  ·rw [← e1]; simp at hj; simp [hj]
  ·simp [mapOf,h0]
 rcases hk.find w a Hi.toList h9 with ⟨h1,h2⟩ | ⟨j,e,h1,h2,h3⟩
 ·have h4:∀ p∈lst,p.1≠a:=by
   intro p hp e
   obtain⟨j,hj,e1⟩:=List.mem_iff_getElem.1 hp
   have h0:j < Hi.size:=by omega
   have:=(he j Hi[j] (kv lst[j].1) (av lst[j].2) (by simp [h0]) (by simp [mapOf,hj])).1
   refine h2 Hi[j] (Array.getElem_mem_toList h0) ?_
   rw [this,e1,e]
  exact .inl ⟨h1,h4,J97 h4,H1c h4,by rw [H64 h4,h5]⟩
 ·have hj:j < lst.length:=by
   have:=(Ev h2).1
   simp at this; omega
  have h6:Hi[j]? = some e:=by simpa using h2
  obtain⟨k1,k2,k3⟩:=he j e (kv lst[j].1) (av lst[j].2) h6 (by simp [mapOf,hj])
  have h7:lst[j].1=a:=hk.inj _ _ (k1.symm.trans h3)
  have h8:lst[j]? = some (a,lst[j].2):=by rw [Ew hj,← h7]
  obtain⟨g1,g2⟩:=H66 hn h8
  exact .inr ⟨e,lst[j].2,by rw [g2]; exact h1,by rw [g2]; exact h6,h3,g1,G91 (List.getElem_mem hj) h7,k2,by rw [g2]; exact h8,by rw [g2]; exact k3⟩

theorem Haf {E:Nat} {zv:Value} (hz:(P.info? E).bind (·.zero)=some zv) (w:World):(zeroValue E).run P w=.ok zv w:=by
 cases h1:P.info? E with
 | none=>rw [h1] at hz; cases hz
 | some i=>rw [h1] at hz; simp at hz; simp [zeroValue,typeInfo,h1,hz]

theorem J76 {m x:Operand} {T K E i:Nat} {ok:Bool} {lst:List (κ×ν)} {a:κ} (z0:ν) (zv:Value) (ho:o.op=.lookup T m x ok) (hm:ev l m=.mp i) (hi:lk L i=some (.map T (mapOf kv av lst))) (hn:(lst.map (·.1)).Nodup)
  (hx:ev l x=Qv (kv a)) (hk:G76 P K kv) (hT:Yq P T K E=true) (hz:(P.info? E).bind (·.zero)=some zv) (h9:av z0=Qv zv) :
  Gq P o l L (Is (bif ok then .tup [av ((G2e lst a).getD z0),BL (G08 lst a)] else av ((G2e lst a).getD z0)) L):=
 H4 fun A w β h8 hf=>by
  have hv:=hf.ev m
  rw [hm] at hv
  obtain⟨b,hb,h4⟩:=hv.inv_mp
  obtain⟨Hi,h1,h2,h3⟩:=H42 h8 hi hb (Yq.both hT).2
  have h5:A.eval x=kv a:=by
   have h:=hf.ev x
   rw [hx] at h
   cases h6:kv a with
   | agg vs=>
    rw [h6] at h
    obtain⟨ws,hw,hl,hc⟩:=h.inv_agg
    rw [hw]
    congr 1
    apply Array.ext
    ·rw [hl]; simp
    ·intro j a0 a1
     have:=hc j (.sc vs[j]) ws[j] (by simp [a1]) (by simp [a0])
     exact this.inv_sc
   | _=>rw [h6] at h; exact h.inv_sc
  have h0:(getObj b).run P w=.ok (.map Hi Hi.size) w:=by simp [getObj,Sem.run,h1]
  rcases J55 (P:=P) hk hn h2 h3 a with ⟨f1,f2,f3,f4,_⟩ | ⟨e,v,f1,f2,f3,f4,f5,f6,_⟩
  ·refine⟨if ok then .tuple #[zv,.bool false] else zv,?_,?_⟩
   ·simp only [execOp,ho,Instr.lookup,underlying,h4,h5,Sem.run_bind,run_program,Result.andThen_ok,Yq.out hT,Sem.run_pure,h0,hk.check,f1,Haf hz]
   ·rw [f3,f4]
    have h7:V w β L (av z0) zv:=by rw [h9]; exact .data (G9b zv)
    cases ok
    ·exact h7
    ·refine .tup rfl fun j u v hu hv=>?_
     match j with
     | 0=>simp at hu hv; subst hu; subst hv; exact h7
     | 1=>simp at hu hv; subst hu; subst hv; exact .sc
     | j+2=>simp at hu
  ·refine⟨if ok then .tuple #[e.val,.bool true] else e.val,?_,?_⟩
   ·simp only [execOp,ho,Instr.lookup,underlying,h4,h5,Sem.run_bind,run_program,Result.andThen_ok,Yq.out hT,Sem.run_pure,h0,hk.check,f1]
   ·rw [f4,f5]
    cases ok
    ·exact .data f6
    ·refine .tup rfl fun j u v' hu hv=>?_
     match j with
     | 0=>simp at hu hv; subst hu; subst hv; exact .data f6
     | 1=>simp at hu hv; subst hu; subst hv; exact .sc
     | j+2=>simp at hu

theorem H69 {A:Act} {w:World} {β:Gx} {x:Operand} {k:Value} (hf:Jm A w β L l) (hx:ev l x=Qv k):A.eval x=k:=by
 have h:=hf.ev x
 rw [hx] at h
 cases k with
 | agg vs=>
  obtain⟨ws,hw,hl,hc⟩:=h.inv_agg
  rw [hw]
  congr 1
  apply Array.ext
  ·rw [hl]; simp
  ·intro j h0 h1
   have:=hc j (.sc vs[j]) ws[j] (by simp [h1]) (by simp [h0])
   exact this.inv_sc
 | _=>exact h.inv_sc

theorem Q7 {w:World} {b:Nat} {Hi:Array MapEntry} {c:Nat} (h:w.heap[b]? = some (.map Hi c)):(getObj b).run P w=.ok (.map Hi c) w:=by simp [getObj,Sem.run,h]
theorem Zf {w:World} {b:Nat} {Hi ents':Array MapEntry} {c c':Nat} (h:w.heap[b]? = some (.map Hi c)):(setObj b (.map ents' c')).run P w=.ok () { w with heap:=w.heap.setIfInBounds b (.map ents' c') }:=by simp [setObj,Sem.run,h]

theorem Hae (w:World) (b:Nat) (o:Obj):({ w with heap:=w.heap.setIfInBounds b o }:World).heap.size=w.heap.size:=by simp
theorem H5d (w:World) (b k:Nat) (o:Obj) (h:k≠b):({ w with heap:=w.heap.setIfInBounds b o }:World).heap[k]? = w.heap[k]? := by
 simp [Array.getElem?_setIfInBounds_ne (Ne.symm h)]
theorem Jeb (w:World) (b:Nat) (o:Obj) (h:b < w.heap.size):({ w with heap:=w.heap.setIfInBounds b o }:World).heap[b]? = some o:=by
 simp [h]

theorem Gc7 {w:World} {β:Gx} {i b T:Nat} {es es':List (Value×AV)} {ents':Array MapEntry} (h3:Nat.blt T 1000000=true) (h0:Sat w β L) (hi:lk L i=some (.map T es)) (hb:β i=some b)
  (h4:ents'.size=es'.length) (he:∀ (i:Nat) e k u,ents'[i]? = some e→es'[i]? = some (k,u)→e.key=k∧D w (J8 w β L) u e.val∧e.born=i) :
  let w':World:={ w with heap:=w.heap.setIfInBounds b (.map ents' ents'.size) }
  Sat w' β ((i,.map T es')::L)∧Step w β L w' β ((i,.map T es')::L):=by
 intro w'
 have h5:b < w.heap.size:=h0.bnd i b (by rw [hi]; rfl) hb
 have st:Step w β L w' β ((i,.map T es')::L):=Step.change h0 hi hb rfl rfl rfl ⟨rfl,K0⟩ (Hae w b _) (fun k hk=>H5d w b k _ hk)
 exact⟨Sat.change h0 hi hb st (Hae w b _) (fun k hk=>H5d w b k _ hk) ⟨b,rfl,.inl ⟨h3,ents',Jeb w b _ h5,h4,fun j e k u h1 h2=>⟨(he j e k u h1 h2).1,(he j e k u h1 h2).2.1.mono st.stab,(he j e k u h1 h2).2.2⟩⟩⟩,st⟩

theorem H1a {lst:List (κ×ν)} (h:(lst.map (·.1)).Nodup) (a:κ) (v:ν):((Gb7 lst a v).map (·.1)).Nodup:=by
 unfold Gb7
 by_cases hh:G08 lst a=true
 ·rw [if_pos hh]
  have:(lst.map fun p=>if p.1=a then (a,v) else p).map (·.1)=lst.map (·.1):=by
   rw [List.map_map]
   refine List.map_congr_left fun p _=>?_
   simp only [Function.comp]
   by_cases e:p.1=a <;> simp [e]
  rw [this]; exact h
 ·rw [if_neg hh]
  rw [List.map_append,List.nodup_append]
  refine⟨h,by simp,fun x hx y hy=>?_⟩
  simp at hy; subst hy
  intro e; subst e
  obtain⟨p,hp,e⟩:=Kn.1 hx
  exact hh (G91 hp e)
theorem Q95 {lst:List (κ×ν)} (h:(lst.map (·.1)).Nodup) {a:κ} {j:Nat} {v0 v:ν} (hj:lst[j]? = some (a,v0)):Gb7 lst a v=lst.set j (a,v):=by
 have hm:G08 lst a=true:=G91 (Ey hj) rfl
 unfold Gb7
 rw [if_pos hm]
 apply List.ext_getElem?
 intro i
 rw [Kd,List.getElem?_set]
 by_cases e:j=i
 ·subst e
  have h0:j < lst.length:=(Ev hj).1
  rw [if_pos rfl,if_pos h0,hj]
  simp
 ·rw [if_neg e]
  cases hi:lst[i]? with
  | none=>rfl
  | some p=>
   obtain⟨b,u⟩:=p
   by_cases e2:b=a
   ·subst e2
    have h1:=(H66 h hi).2
    have h2:=(H66 h hj).2
    omega
   ·simp [e2]

theorem Q1e {m x y:Operand} {T K E i:Nat} {lst:List (κ×ν)} {a:κ} {v:ν} (ho:o.op=.mapUpdate T m x y) (hm:ev l m=.mp i) (hi:lk L i=some (.map T (mapOf kv av lst))) (hn:(lst.map (·.1)).Nodup)
  (hx:ev l x=Qv (kv a)) (hy:(ev l y).plain=av v) (a0:(av v).isData=true) (hk:G76 P K kv) (hT:Yq P T K E=true) :
  Gq P o l L (Is .junk ((i,.map T (mapOf kv av (Gb7 lst a v)))::L)):=by
 intro A w β KK Q h4 hf hK
 have hv:=hf.ev m
 rw [hm] at hv
 obtain⟨b,hb,h6⟩:=hv.inv_mp
 obtain⟨Hi,h1,h2,h3⟩:=H42 h4 hi hb (Yq.both hT).2
 have h7:A.eval x=kv a:=H69 hf hx
 have h8:=(hf.ev y).plain
 rw [hy] at h8
 have h9:=h8.toD a0
 have h5:Hi.size=lst.length:=by simpa [mapOf] using h2
 rcases J55 (P:=P) (w:=w) hk hn h2 h3 a with ⟨f1,f2,f3,f4,f5⟩ | ⟨e,v0,f1,f2,f3,f4,f5,f6,f7,f8⟩
 ·have hr:(execOp A.eval o).run P w=.ok .skip { w with heap:=w.heap.setIfInBounds b (.map (Hi.push { key:=kv a,val:=A.eval y,born:=Hi.size }) (Hi.push { key:=kv a,val:=A.eval y,born:=Hi.size }).size) }:=by
   simp only [execOp,ho,Instr.mapUpdate,underlying,h6,h7,Sem.run_bind,run_program,Result.andThen_ok,Yq.out hT,Sem.run_pure,Q7 h1,hk.check,f1,Zf h1,Array.size_push]
  unfold Oper.wp
  rw [hr]
  have h0:Gb7 lst a v=lst++[(a,v)]:=by simp [Gb7,f4]
  obtain⟨s1,s2⟩:=Gc7 (Yq.both hT).2 h4 hi hb (es':=mapOf kv av (Gb7 lst a v)) (ents':=Hi.push { key:=kv a,val:=A.eval y,born:=Hi.size }) (by rw [h0]; simp [mapOf,h5]) (fun j e k u he hu=>by
   rw [h0] at hu
   simp only [mapOf,List.map_append,List.map_cons,List.map_nil] at hu
   rcases En j Hi.size with hj | hj
   ·rw [Array.getElem?_push,if_neg (by omega)] at he
    rw [Kb (by simp; omega)] at hu
    exact h3 j e k u he hu
   ·have:j=Hi.size:=by
     have:=(Eh he).1; simp at this; omega
    subst this
    rw [Array.getElem?_push,if_pos rfl] at he
    cases he
    rw [Ka (by simp; omega)] at hu
    simp [h5] at hu
    obtain⟨rfl,rfl⟩:=hu
    exact⟨rfl,h9,rfl⟩)
  exact hK _ _ _ _ β ⟨rfl,rfl⟩ s1 s2 .junk
 ·have a1:=hk.stays w a
  have a3:G1d lst a < Hi.size:=(Eh f2).1
  have hr:(execOp A.eval o).run P w=.ok .skip { w with heap:=w.heap.setIfInBounds b (.map (Hi.modify (G1d lst a) fun e=>{ e with key:=kv a,val:=A.eval y }) (Hi.modify (G1d lst a) fun e=>{ e with key:=kv a,val:=A.eval y }).size) }:=by
   have a2:((Hi[G1d lst a]?).map (·.key)).getD (kv a)=kv a:=by rw [f2]; exact f3
   simp only [execOp,ho,Instr.mapUpdate,underlying,h6,h7,Sem.run_bind,run_program,Result.andThen_ok,Yq.out hT,Sem.run_pure,Q7 h1,hk.check,f1,a2,a1,Zf h1,Array.size_modify]
  unfold Oper.wp
  rw [hr]
  have h0:=Q95 (v:=v) hn f7
  obtain⟨s1,s2⟩:=Gc7 (Yq.both hT).2 h4 hi hb (es':=mapOf kv av (Gb7 lst a v)) (ents':=Hi.modify (G1d lst a) fun e=>{ e with key:=kv a,val:=A.eval y }) (by rw [h0]; simp [mapOf,h5]) (fun j e' k u he hu=>by
   rw [h0] at hu
   simp only [mapOf,List.map_set] at hu
   rw [Array.getElem?_modify] at he
   rw [List.getElem?_set] at hu
   by_cases ej:G1d lst a=j
   ·subst ej
    rw [if_pos rfl,f2] at he
    rw [if_pos rfl,if_pos (by simp; omega)] at hu
    simp at he hu
    obtain⟨rfl,rfl⟩:=hu
    subst he
    exact⟨rfl,h9,f8⟩
   ·rw [if_neg ej] at he hu
    exact h3 j e' k u he hu)
  exact hK _ _ _ _ β ⟨rfl,rfl⟩ s1 s2 .junk

end typed

/-! ### Ranging over a map -/
end mops
set_option linter.unusedVariables false
set_option linter.unusedSimpArgs false

section
variable {P:Program} {o:Oper} {l:Fr} {L:Loc} {u:AV}

theorem Gq.is {R:AV→Loc→Prop} (h:Gq P o l L R) {L':Loc} (hR:∀ r M,R r M→r=u∧M=L'):Gq P o l L (Is u L'):=
  fun a w β K Q hs hf hK=>h a w β K Q hs hf fun r M v w' β' hr=>hK r M v w' β' (hR r M hr)

theorem Gt {f:FuncId} {xs:List Operand} {args:List AV} {ts:Array TypeId} (ho:o.op=.call { callee:=.value (.func f),args:=xs.toArray,argTypes:=ts }) (hc:Pure P f args (·=u)) (hB:Hr P f=true) (ha:Zp l xs args):Gq P o l L (Is u L):=
  (R39 hc hB ha ho).is fun r M h=>⟨h.2,h.1⟩

section small
variable {x y:Operand} {T T':TypeId} {k:IntKind} {m n:Int} {ts:Array TypeId}
theorem Qb4 (ho:o.op=.call { callee:=.builtin .min,args:=#[x,y],argTypes:=ts }) (hx:ev l x=.sc (.int k m)) (hy:ev l y=.sc (.int k n)):Gq P o l L (Is (.sc (.int k (min m n))) L):=
  H4 fun a w β h0 hf=>by
    have h1:=hf.ev x
    have h2:=hf.ev y
    rw [hx] at h1; rw [hy] at h2
    refine⟨_,?_,.sc⟩
    have e:(if n < m then n else m)=min m n:=by simp only [Int.min_def]; split <;> split <;> omega
    simp [execOp,ho,resolve,invoke,builtin,Builtin.min_,Builtin.min2,h1.inv_sc,h2.inv_sc,e]
theorem Gab {i off:Nat} (ho:o.op=.nilCheck x) (hx:ev l x=.ptr i off):Gq P o l L (Is (.ptr i off) L):=
  H4 fun ac w β h0 hf=>by
    have h1:=hf.ev x
    rw [hx] at h1
    obtain⟨b,_,e⟩:=h1.inv_ptr
    exact⟨ac.eval x,by rw [e]; simp [execOp,ho,e],h1⟩
theorem H57 {cs:List AV} (ho:o.op=.nilCheck x) (hx:ev l x=.dptr cs):Gq P o l L (Is (.dptr cs) L):=
  H4 fun ac w β h0 hf=>by
    have h1:=hf.ev x
    rw [hx] at h1
    have h2:=h1.inv_dptr
    refine⟨ac.eval x,?_,h1⟩
    generalize hv:ac.eval x=v at h2
    cases h2
    simp [execOp,ho,hv]
theorem J74 {f:FuncId} {xs:List Operand} {cs:List AV} (ho:o.op=.makeFunc (.func f) #[] xs.toArray) (hx:xs.map (ev l)=cs):Gq P o l L (Is (.fn f cs) L):=
  H4 fun ac w β h0 hf=>by
    refine⟨.func (.func f) #[] (xs.map ac.eval).toArray,by simp [execOp,ho,Instr.makeFunc],?_⟩
    subst hx
    refine .fn (vs:=(xs.map ac.eval).toArray) (by simp) fun j u v hu hv=>?_
    simp only [Kd,Option.map_eq_some_iff,List.getElem?_toArray] at hu hv
    obtain⟨p,hp,rfl⟩:=hu
    obtain⟨q,hq,rfl⟩:=hv
    rw [hp] at hq; cases hq
    exact hf.ev p
end small

/-! ### Parts of slices -/
theorem H6b {k:Nat}:∀ {xs:List AV},(∀ x∈xs,x.cells.length=k)→∀ m,flat (xs.drop m)=(flat xs).drop (m*k)
  | [],_,m=>by simp [flat]
  | x::r,h,0=>by simp
  | x::r,h,m+1=>by
    have h1:=h x (by simp)
    rw [List.drop_succ_cons,H6b (fun y hy=>h y (by simp [hy])) m]
    simp only [flat]
    rw [List.drop_append,h1]
    have e:(m+1)*k=k+m*k:=by rw [Nat.succ_mul]; omega
    rw [e]
    have e1:List.drop (k+m*k) x.cells=[]:=by simp [h1]
    rw [e1]; simp
theorem G2c {k:Nat}:∀ {xs:List AV},(∀ x∈xs,x.cells.length=k)→∀ m,flat (xs.take m)=(flat xs).take (m*k)
  | [],_,m=>by simp [flat]
  | x::r,h,0=>by simp [flat]
  | x::r,h,m+1=>by
    have h1:=h x (by simp)
    rw [List.take_succ_cons]
    simp only [flat]
    rw [G2c (fun y hy=>h y (by simp [hy])) m,List.take_append,h1]
    have e:(m+1)*k=k+m*k:=by rw [Nat.succ_mul]; omega
    rw [e]
    have e1:List.take (k+m*k) x.cells=x.cells:=by rw [List.take_of_length_le]; omega
    rw [e1]; simp

theorem D.part {w:World} {S:Nat→Nat→Prop} {k m n:Nat} {xs:List AV} {a:Option Addr} {len cap:Nat} (h:D w S (.list k xs) (.slice a len cap)) (h2:m≤n) (hn:n≤xs.length) :
    D w S (.list k ((xs.drop m).take (n - m))) (.slice (if cap=m then a else a.map (·.add (m*k))) (n - m) (cap - m)):=by
  have h1:=h.len
  obtain⟨ao,c,he,h5,h6⟩:=h1
  injection he with e1 e2 e3
  subst e2; subst e3
  rcases Nat.eq_or_lt_of_le h2 with e | h7
  · subst e
    simp only [Nat.sub_self,List.take_zero]
    exact .nil (by omega)
  · have h3:¬ cap=m:=by omega
    rw [if_neg h3]
    generalize hx:xs=ys at *
    cases h with
    | nil _=>simp at hn; omega
    | @list _ b off _ _ vals h4 hm hk hS h=>
      have hl:(List.take (n - m) (List.drop m ys)).length=n - m:=by simp; omega
      have h0:flat (List.take (n - m) (List.drop m ys))=((flat ys).drop (m*k)).take ((n - m)*k):=by
        rw [G2c (fun y hy=>hk y (List.mem_of_mem_drop hy)),H6b hk]
      have h8:=Hm hk
      have h9:m*k+(n - m)*k≤ys.length*k:=by rw [← Nat.add_mul]; exact Nat.mul_le_mul_right _ (by omega)
      have e:(some (⟨b,off,none⟩:Addr)).map (·.add (m*k))=some ⟨b,off+m*k,none⟩:=by simp [Addr.add]
      rw [e]
      have key:D w S (.list k (List.take (n - m) (List.drop m ys))) (.slice (some ⟨b,off+m*k,none⟩) (List.take (n - m) (List.drop m ys)).length (cap - m)):=by
       refine .list (fun j=>vals (m*k+j)) (by omega) (by omega) (fun x hx=>hk x (List.mem_of_mem_drop (List.mem_of_mem_take hx))) (fun j hj=>?_) (fun j u hu=>?_)
       · rw [h0] at hj
         simp only [List.length_take,List.length_drop] at hj
         have:=hS (m*k+j) (by omega)
         rw [← Nat.add_assoc] at this
         exact this
       · rw [h0] at hu
         rw [Ke] at hu
         split at hu
         · rw [Kf] at hu
           exact h _ u hu
         · cases hu
      rwa [hl] at key

theorem Gbc {T E k:Nat} (hT:sliceB P T E k=true) (a:Option Addr) (len cap m n:Nat) (lo hi:Option Value) (w:World) (h0:m≤n) (hn:n≤len) (hc:len≤cap)
    (h4:(lo=none∧m=0)∨∃ kd,lo=some (.int kd m)) (h5:(hi=none∧n=len)∨∃ kd,hi=some (.int kd n)) :
    (Instr.sliceAt T (.slice a len cap) lo hi none).run P w=.ok (.slice (if cap=m then a else a.map (·.add (m*k))) (n - m) (cap - m)) w:=by
  obtain⟨h1,h2⟩:=sliceB.out hT
  have h3:=Jd h2 w
  have hb:∀ (kd:IntKind) (i:Nat) (y:Nat) (c:BoundsCode),i≤y→(Instr.sliceBound (.int kd (i:Int)) y c).run P w=.ok i w:=fun kd i y c hi=>by
    have:(0:Int)≤i∧(i:Int)≤y:=⟨by omega,by omega⟩
    simp [Instr.sliceBound,asIntOf,this]
  have hs:(Instr.sliceBounds true len cap lo hi none).run P w=.ok (m,n,cap) w:=by
    rcases h4 with ⟨rfl,rfl⟩ | ⟨kd,rfl⟩ <;> rcases h5 with ⟨rfl,rfl⟩ | ⟨kd',rfl⟩
    · simp [Instr.sliceBounds]
    · simp [Instr.sliceBounds,hb _ n cap _ (by omega)]
    · simp [Instr.sliceBounds,hb _ m n _ h0]
    · simp [Instr.sliceBounds,hb _ m n _ h0,hb _ n cap _ (by omega)]
  simp [Instr.sliceAt,Instr.slice,run_underlying h1,hs,h3]

theorem Qb1 {x:Operand} {T E k m n:Nat} {lo hi:Option Operand} {xs:List AV} (ho:o.op=.slice T x lo hi none) (hT:sliceB P T E k=true) (hx:Jh (ev l x)=some (k,xs))
    (h2:(lo=none∧m=0)∨∃ kd p,lo=some p∧ev l p=.sc (.int kd m)) (h3:(hi=none∧n=xs.length)∨∃ kd p,hi=some p∧ev l p=.sc (.int kd n)) (h0:m≤n) (hn:n≤xs.length) :
    Gq P o l L (Is (.list k ((xs.drop m).take (n - m))) L):=
  H4 fun a w β h5 hf=>by
    have h1:=(hf.ev x).Jh hx
    obtain⟨ao,cap,he,h4,h6⟩:=h1.len
    rw [he] at h1
    refine⟨_,?_,.data (h1.part h0 hn)⟩
    simp only [execOp,ho,he,Sem.run_bind,Option.map_none]
    rw [Gbc hT ao xs.length cap m n _ _ w h0 hn h4]
    · rfl
    · rcases h2 with ⟨rfl,rfl⟩ | ⟨kd,p,rfl,hp⟩
      · exact .inl ⟨rfl,rfl⟩
      · refine .inr ⟨kd,?_⟩
        have:=hf.ev p; rw [hp] at this
        simp [this.inv_sc]
    · rcases h3 with ⟨rfl,rfl⟩ | ⟨kd,p,rfl,hp⟩
      · exact .inl ⟨rfl,rfl⟩
      · refine .inr ⟨kd,?_⟩
        have:=hf.ev p; rw [hp] at this
        simp [this.inv_sc]
theorem Qdf {x p:Operand} {T E k m:Nat} {kd:IntKind} {mi:Int} {xs:List AV} (ho:o.op=.slice T x (some p) none none) (hx:Jh (ev l x)=some (k,xs)) (hp:ev l p=.sc (.int kd mi)) (hT:sliceB P T E k=true) (hm:mi=(m:Int)) (h0:m≤xs.length) :
    Gq P o l L (Is (.list k (xs.drop m)) L):=by
  subst hm
  have h:=Qb1 (L:=L) ho hT hx (.inr ⟨kd,p,rfl,hp⟩) (.inl ⟨rfl,rfl⟩) h0 (K0)
  have e:(xs.drop m).take (xs.length - m)=xs.drop m:=List.take_of_length_le (by simp)
  rwa [e] at h
theorem Qe0 {x p:Operand} {T E k n:Nat} {kd:IntKind} {ni:Int} {xs:List AV} (ho:o.op=.slice T x none (some p) none) (hx:Jh (ev l x)=some (k,xs)) (hp:ev l p=.sc (.int kd ni)) (hT:sliceB P T E k=true) (hn:ni=(n:Int)) (h0:n≤xs.length) :
    Gq P o l L (Is (.list k (xs.take n)) L):=by
  subst hn
  have h:=Qb1 (L:=L) (m:=0) ho hT hx (.inl ⟨rfl,rfl⟩) (.inr ⟨kd,p,rfl,hp⟩) (Nat.zero_le _) h0
  simpa using h
end

/-! ### A local variable that is not written any more -/
inductive Frz (i:Nat) (cs:List AV) (ok:Nat→Bool):AV→AV→Prop
  | conv {u u':AV} (h:Conv ok u u'):Frz i cs ok u u'
  | ptr {off:Nat}:Frz i cs ok (.ptr i off) (.dptr (cs.drop off))
def Q7a (i:Nat) (cs:List AV) (ok:Nat→Bool) (l:Fr):Fr→Prop
  | []=>True
  | (t,u)::r=>Frz i cs ok (look l t) u∧Q7a i cs ok l r
theorem Q7a.get {i:Nat} {cs:List AV} {ok:Nat→Bool} {l:Fr}:∀ {l':Fr},Q7a i cs ok l l'→∀ t,Frz i cs ok (look l t) (look l' t)
  | [],_,t=>.conv .junk
  | (t',u)::r,h,t=>by
    by_cases e:t'=t
    · subst e; simpa [look] using h.1
    · have hb:Nat.beq t' t=false:=by
        cases hb:Nat.beq t' t with
        | false=>rfl
        | true=>exact absurd (Ek hb) e
      simpa [look,hb] using h.2.get t

theorem V.freeze {w:World} {β:Gx} {L L':Loc} {i off:Nat} {t:TypeId} {cs:List AV} (h0:Sat w β L) (hi:lk L i=some (.box t cs)) (hd:Yu (fun _=>false) cs=true) (h6:Ha0 L L') (h7:lk L' i=none) {v:Value}
    (h:V w β L (.ptr i off) v):V w β L' (.dptr (cs.drop off)) v:=by
  obtain⟨b,hb,rfl⟩:=h.inv_ptr
  obtain⟨vs,h1,h2,h3⟩:=H4b h0 hi hb
  have h8:b < w.heap.size:=h0.bnd i b (by rw [hi]; rfl) hb
  refine .data (.dptr (fun j=>(vs[off+j]?).getD undef) (fun j hj=>⟨⟨h8,h0.apart i b _ (by rw [hi]; rfl) hb,fun id o' h5 h9=>?_⟩,?_⟩) (fun j u hu=>?_))
  · obtain⟨o1,a0,_⟩:=h6.like id o' h5
    have:=h0.inj id i b (by rw [a0]; rfl) (by rw [hi]; rfl) h9 hb
    subst this
    rw [h7] at h5; cases h5
  · simp only [List.length_drop] at hj
    have h4:off+j < vs.size:=by omega
    simp [World.cell?,h1,h4]
  · rw [Kf] at hu
    have h4:off+j < vs.size:=by rw [h2]; exact(Ev hu).1
    have hv:=h3 (off+j) u vs[off+j] hu (by simp [h4])
    have hm:u∈cs:=Ey hu
    have hD:=(hv.toD (Yj hd u hm)).mono (S':=J8 w β L') fun b' i' hs=>⟨h6.stab hs,rfl⟩
    simpa [h4] using hD

theorem Q3.freeze {N:Cfg} {w0 w:World} {β0 β:Gx} {L0 L L':Loc} {a:Act} {l l':Fr} (hs:Q3 N w0 β0 L0 a w β l L) (i:Nat) {t:TypeId} {cs:List AV} (hi:lk L i=some (.box t cs)) (hd:Yu (fun _=>false) cs=true)
    (h2:lk L' i=none) (hl:G85 (fun j=>(lk L' j).isSome) L L') (hb:allIn L' N.base=true) (hf:Q7a i cs (fun j=>(lk L' j).isSome) l l'):Q3 N w0 β0 L0 a w β l' L':=by
  have h0:Fits N.base l L [] L':=⟨trivial,hl,hb⟩
  have h1:=hs.fits h0
  refine⟨h1.sat,h1.step,⟨fun t'=>?_⟩,h1.size,h1.base,h1.defers⟩
  have hv:=hs.frame.tmp t'
  generalize hu:look l t'=u at hv
  have hz:=hf.get t'
  rw [hu] at hz
  generalize look l' t'=u' at hz
  cases hz with
  | conv hc=>exact hv.conv h0.drop hc
  | ptr=>exact hv.freeze hs.sat hi hd h0.drop h2
theorem H2 {P:Program} {N:Cfg} {c:Code} {Q:Post} {l:Fr} {L:Loc} (l':Fr) (L':Loc) (i:Nat) {t:TypeId} {cs:List AV} (hi:lk L i=some (.box t cs)) (hd:Yu (fun _=>false) cs=true)
    (h0:lk L' i=none) (hl:G85 (fun j=>(lk L' j).isSome) L L') (hb:allIn L' N.base=true) (hf:Q7a i cs (fun j=>(lk L' j).isSome) l l') (hk:JC P N c Q l' L'):JC P N c Q l L:=
  fun n w0 β0 L0 a w β hs=>hk n w0 β0 L0 a w β (hs.freeze i hi hd h0 hl hb hf)
theorem fzQ {P:Program} {N:Cfg} {c:Code} {Q:Post} {l:Fr} {L:Loc} (l':Fr) (L':Loc) (i:Nat) {t:TypeId} {cs:List AV} (hi:lk L i=some (.box t cs)) (hd:Yu (fun _=>false) cs=true)
    (h0:lk L' i=none) (hl:G85 (fun j=>(lk L' j).isSome) L L') (hb:allIn L' N.base=true) (hk:JC P N c Q l' L') (hf:Q7a i cs (fun j=>(lk L' j).isSome) l l':=by repeat' (first | exact .ptr | constructor)):JC P N c Q l L:=H2 l' L' i hi hd h0 hl hb hf hk
set_option linter.unusedVariables false
set_option linter.unusedSimpArgs false

def J4e (P:Program) (T:TypeId) (x y:Value):Option Bool:=
  match P.underlying T,x,y with
  | some .bool,.bool a,.bool b=>some (a==b)
  | some (.int _),.int k a,.int k' b=>if k=k' then some (a==b) else none
  | some .string,.string a,.string b=>some (a==b)
  | _,_,_=>none

def both:Option Bool→Option Bool→Option Bool
  | some a,some b=>some (a&&b)
  | _,_=>none

def seg (P:Program) (T:TypeId) (xs:List Value) (off:Nat):Option (List Value):=
  let r:=(xs.drop off).take (P.cellsOf T)
  if r.length=P.cellsOf T then some r else none

def Hc4 (P:Program):Nat→TypeId→List Value→List Value→Option Bool
  | 0,_,_,_=>none
  | m+1,T,xs,ys=>
    match P.underlying T with
    | some (.array n e)=>if (P.info? e).isSome then (List.range n).foldr (fun i r=>both (match seg P e xs (i*P.cellsOf e),seg P e ys (i*P.cellsOf e) with
        | some a,some b=>Hc4 P m e a b
        | _,_=>none) r) (some true) else none
    | some (.struct fs) => if P.stoodInHeld T then none else fs.toList.foldr (fun f r => if f.name = "_" then none else both (match seg P f.type xs f.offset, seg P f.type ys f.offset with
        | some a,some b=>Hc4 P m f.type a b
        | _,_=>none) r) (some true)
    | _=>match xs,ys with
      | [x],[y]=>J4e P T x y
      | _,_=>none

section
variable {P:Program} (w:World)

def G17 (P:Program) (T:TypeId):Bool:=match P.underlying T with | some (.struct _) | some (.array _ _)=>true | _=>false
def Reads (P:Program) (T:TypeId) (x:Value) (xs:List Value):Prop:=if G17 P T then x=.agg xs.toArray else xs=[x]

theorem Ja8 {a b:Option Bool} {r:Bool} (h:both a b=some r):∃ p q,a=some p∧b=some q∧r=(p&&q):=by
  unfold both at h
  split at h
  · cases h; exact⟨_,_,rfl,rfl,rfl⟩
  · cases h

theorem H17 {T off:Nat} {xs:Array Value} {s:List Value} (hi:(P.info? T).isSome=true) (hu:∃ d,P.underlying T=some d) (h:seg P T xs.toList off=some s) (h1:G17 P T=false→∃ x,s=[x]) :
    ∃ a,(part T xs off).run P w=.ok a w∧Reads P T a s:=by
  obtain⟨i,hi⟩:=Eg hi
  obtain⟨d,hu⟩:=hu
  unfold seg at h
  simp only at h
  split at h
  · rename_i hl
    cases h
    have hc:P.cellsOf T=i.size:=by simp [Program.cellsOf,hi]
    by_cases ha:G17 P T=true
    · refine⟨.agg (xs.extract off (off+i.size)),?_,?_⟩
      · have hg:(isAgg T).run P w=.ok true w:=by
          unfold G17 at ha
          split at ha
          · rename_i fs e; simp [isAgg,run_underlying e]
          · rename_i n e' e; simp [isAgg,run_underlying e]
          · cases ha
        simp [part,hg,run_sizeOf w hi,hc]
      · unfold Reads
        rw [if_pos ha,hc]
        congr 1
        apply Array.ext'
        simp [List.take_drop,Nat.add_comm]
    · have h2:G17 P T=false:=by simpa using ha
      obtain⟨x,hx⟩:=h1 h2
      refine⟨x,?_,?_⟩
      · have hg:(isAgg T).run P w=.ok false w:=by
          unfold G17 at h2
          cases d <;> simp [hu] at h2 <;> simp [isAgg,run_underlying hu]
        have h0:xs[off]? = some x:=by
          have:((xs.toList.drop off).take (P.cellsOf T))[0]? = some x:=by rw [hx]; rfl
          rw [Ke] at this
          split at this
          · simpa [Kf] using this
          · cases this
        simp [part,hg,h0]
      · unfold Reads
        rw [if_neg ha]
        exact hx
  · cases h

theorem Ja2 {m T:Nat} {xs ys:List Value} {r:Bool} (ha:G17 P T=false) (h:Hc4 P (m+1) T xs ys=some r):∃ x y,xs=[x]∧ys=[y]∧J4e P T x y=some r:=by
  unfold Hc4 at h
  split at h
  · rename_i e; simp [G17,e] at ha
  · rename_i e; simp [G17,e] at ha
  · split at h
    · exact⟨_,_,rfl,rfl,h⟩
    · cases h

theorem Gca {T:TypeId} {d:TypeDesc} (h:P.underlying T=some d):(P.info? T).isSome=true:=by
  obtain⟨i,hi⟩:=info_of_underlying h
  simp [hi]

theorem Q03 {m T:Nat} {xs ys:List Value} {r:Bool} (h:Hc4 P m T xs ys=some r):∃ d,P.underlying T=some d:=by
  cases m with
  | zero=>cases h
  | succ m=>
    unfold Hc4 at h
    cases hu:P.underlying T with
    | some d=>exact⟨d,rfl⟩
    | none=>
      rw [hu] at h
      simp only at h
      split at h
      · unfold J4e at h; rw [hu] at h; cases h
      · cases h

theorem Hb3 (d:Nat):∀ (m:Nat) (T:TypeId) (x y:Value) (xs ys:List Value) (r:Bool) (w:World),Hc4 P m T xs ys=some r→Reads P T x xs→Reads P T y ys→(Op.equalIn (d+m) T x y).run P w=.ok r w
  | 0,_,_,_,_,_,_,_,h,_,_=>by cases h
  | m+1,T,x,y,xs,ys,r,w,h,hx,hy=>by
    have step:∀ (T' off:Nat) (X Y:Array Value) (p:Bool) (w:World),(match seg P T' X.toList off,seg P T' Y.toList off with
        | some a,some b=>Hc4 P m T' a b
        | _,_=>none)=some p→∃ a b,(part T' X off).run P w=.ok a w∧(part T' Y off).run P w=.ok b w∧(Op.equalIn (d+m) T' a b).run P w=.ok p w:=by
      intro T' off X Y p w hp
      split at hp
      · rename_i a b h1 h2
        have hu:=Q03 hp
        obtain⟨dd,h0⟩:=hu
        have hi:=Gca h0
        have h3:G17 P T'=false→∃ x y,a=[x]∧b=[y]∧J4e P T' x y=some p:=fun ha=>by
          cases m with
          | zero=>cases hp
          | succ m'=>exact Ja2 ha hp
        obtain⟨u,h7,h8⟩:=H17 w hi ⟨dd,h0⟩ h1 (fun ha=>by obtain⟨x,y,e,_,_⟩:=h3 ha; exact⟨x,e⟩)
        obtain⟨v,h9,a0⟩:=H17 w hi ⟨dd,h0⟩ h2 (fun ha=>by obtain⟨x,y,_,e,_⟩:=h3 ha; exact⟨y,e⟩)
        exact⟨u,v,h7,h9,Hb3 d m T' u v a b p w hp h8 a0⟩
      · cases hp
    have hh:=h
    unfold Hc4 at h
    split at h
    · rename_i n e hu
      have ha:G17 P T=true:=by simp [G17,hu]
      unfold Reads at hx hy
      rw [if_pos ha] at hx hy
      subst hx; subst hy
      split at h
      · rename_i hi
        obtain⟨i,hi⟩:=Eg hi
        rw [show d+(m+1)=(d+m)+1 from rfl,run_equalIn_array w (d+m) xs.toArray ys.toArray hu hi]
        generalize List.range n=is at h
        clear hh
        induction is generalizing r with
        | nil=>simp at h; subst h; simp [Op.eqItems]
        | cons j is ih=>
          rw [List.foldr_cons] at h
          obtain⟨p,q,hp,hq,rfl⟩:=Ja8 h
          obtain⟨a,b,p1,p2,p3⟩:=step e (j*P.cellsOf e) xs.toArray ys.toArray p w hp
          simp only [Op.eqItems,Sem.run_bind,p1,p2,p3,Result.andThen_ok]
          cases p
          · simp
          · simpa using ih q hq
      · cases h
    · rename_i fs hu
      have ha:G17 P T=true:=by simp [G17,hu]
      unfold Reads at hx hy
      rw [if_pos ha] at hx hy
      subst hx; subst hy
      split at h
      · cases h
      · rename_i a1
        have h4:P.fieldsOf T=fs:=by simp [Program.fieldsOf,hu]
        rw [show d+(m+1)=(d+m)+1 from rfl,run_equalIn_struct w (d+m) T xs.toArray ys.toArray (by rw [h4]; exact hu) (by simpa using a1),h4]
        generalize fs.toList=fl at h
        clear hh
        induction fl generalizing r with
        | nil=>simp at h; subst h; simp [Op.eqFields]
        | cons f fl ih=>
          rw [List.foldr_cons] at h
          split at h
          · cases h
          · rename_i hn
            obtain⟨p,q,hp,hq,rfl⟩:=Ja8 h
            obtain⟨a,b,p1,p2,p3⟩:=step f.type f.offset xs.toArray ys.toArray p w hp
            unfold Op.eqFields
            rw [if_pos hn]
            simp only [Sem.run_bind,p1,p2,p3,Result.andThen_ok]
            cases p
            · simp
            · simpa using ih q hq
    · rename_i h5 h6
      have ha:G17 P T=false:=by
        unfold G17
        split
        · rename_i e; exact absurd e (h6 _)
        · rename_i e; exact absurd e (h5 _ _)
        · rfl
      obtain⟨x',y',e1,e2,hl⟩:=Ja2 ha hh
      unfold Reads at hx hy
      rw [ha] at hx hy
      simp only [Bool.false_eq_true,if_false] at hx hy
      rw [e1] at hx; rw [e2] at hy
      cases hx; cases hy
      rw [show d+(m+1)=(d+m)+1 from rfl]
      unfold J4e at hl
      split at hl
      · rename_i e; cases hl; exact run_equalIn_bool w _ _ _ _ e
      · rename_i e
        split at hl
        · rename_i ek; subst ek; cases hl; exact run_equalIn_int w _ _ _ _ _ _ e
        · cases hl
      · rename_i a b e; cases hl
        rw [run_equalIn_string w _ _ _ _ e,beq_toListBytes]
      · cases hl

def J0b (P:Program):Nat→TypeId→List Value→Bool
  | 0,_,_=>false
  | m+1,T,xs=>
    match P.underlying T with
    | some (.array n e)=>(P.info? e).isSome&&(List.range n).all (fun i=>match seg P e xs (i*P.cellsOf e) with
        | some a=>J0b P m e a
        | none=>false)
    | some (.struct fs) => fs.toList.all (fun f => f.name != "_" && match seg P f.type xs f.offset with
        | some a=>J0b P m f.type a
        | none=>false)
    | some .bool | some (.int _) | some .string=>match xs with
      | [_]=>true
      | _=>false
    | _=>false

theorem Qd6 {m T:Nat} {xs:List Value} (h:J0b P m T xs=true):∃ d,P.underlying T=some d∧(G17 P T=false→∃ x,xs=[x]):=by
  cases m with
  | zero=>cases h
  | succ m=>
    unfold J0b at h
    split at h
    · rename_i e; exact⟨_,e,fun h=>by simp [G17,e] at h⟩
    · rename_i e; exact⟨_,e,fun h=>by simp [G17,e] at h⟩
    all_goals first
      | (rename_i e
         split at h
         · exact⟨_,e,fun _=>⟨_,rfl⟩⟩
         · cases h)
      | cases h

theorem J8f (em:Bool) (d:Nat):∀ (m:Nat) (T:TypeId) (x:Value) (xs:List Value) (w:World),J0b P m T xs=true→Reads P T x xs→(Instr.checkKey em (d+m) T x).run P w=.ok () w
  | 0,_,_,_,_,h,_=>by cases h
  | m+1,T,x,xs,w,h,hx=>by
    have step:∀ (T' off:Nat) (X:Array Value) (w:World),(match seg P T' X.toList off with
        | some a=>J0b P m T' a
        | none=>false)=true→∃ a,(part T' X off).run P w=.ok a w∧(Instr.checkKey em (d+m) T' a).run P w=.ok () w:=by
      intro T' off X w hp
      split at hp
      · rename_i a h1
        obtain⟨dd,h0,h3⟩:=Qd6 hp
        obtain⟨u,h4,h5⟩:=H17 w (Gca h0) ⟨dd,h0⟩ h1 h3
        exact⟨u,h4,J8f em d m T' u a w hp h5⟩
      · cases hp
    unfold J0b at h
    split at h
    · rename_i n e hu
      have ha:G17 P T=true:=by simp [G17,hu]
      unfold Reads at hx
      rw [if_pos ha] at hx
      subst hx
      simp only [Ki] at h
      obtain⟨i,hi⟩:=Eg h.1
      have h2:=h.2
      have hc:i.size=P.cellsOf e:=by simp [Program.cellsOf,hi]
      rw [show d+(m+1)=(d+m)+1 from rfl,Instr.checkKey]
      simp only [Sem.run_bind,run_underlying hu,Result.andThen_ok]
      simp only [Std.Legacy.Range.forIn_eq_forIn_range',Std.Legacy.Range.size,Nat.sub_zero,Nat.add_one_sub_one,Nat.div_one]
      rw [List.range_eq_range'] at h2
      generalize List.range' 0 n=is at h2
      induction is with
      | nil=>simp
      | cons j is ih=>
        simp only [List.all_cons,Ki] at h2
        obtain⟨a,p1,p2⟩:=step e (j*P.cellsOf e) xs.toArray w h2.1
        simp only [List.forIn_cons,Sem.run_bind,run_sizeOf w hi,Result.andThen_ok,p1,p2,Sem.run_pure]
        exact ih h2.2
    · rename_i fs hu
      have ha:G17 P T=true:=by simp [G17,hu]
      unfold Reads at hx
      rw [if_pos ha] at hx
      subst hx
      rw [show d+(m+1)=(d+m)+1 from rfl,Instr.checkKey]
      simp only [Sem.run_bind,run_underlying hu,Result.andThen_ok]
      rw [← Array.forIn_toList]
      generalize fs.toList=fl at h
      induction fl with
      | nil=>simp
      | cons f fl ih=>
        simp only [List.all_cons,Ki,bne_iff_ne,ne_eq] at h
        obtain⟨a,p1,p2⟩:=step f.type f.offset xs.toArray w h.1.2
        have hn:=h.1.1
        simp only [List.forIn_cons,Sem.run_bind,ne_eq,hn,not_false_eq_true,if_true,p1,p2,Result.andThen_ok,Sem.run_pure]
        exact ih h.2
    all_goals first
      | (rename_i hu
         rw [show d+(m+1)=(d+m)+1 from rfl,Instr.checkKey]
         simp [run_underlying hu]; done)
      | cases h

theorem G76.of_eq {k:TypeId} {κ:Type} [DecidableEq κ] (kv:κ→List Value) (h0:G17 P k=true) (inj:∀ a b,kv a=kv b→a=b) (m:Nat) (hm:m≤10000) (h6:∀ a b,Hc4 P m k (kv a) (kv b)=some (decide (a=b))) (h8:∀ a,J0b P m k (kv a)=true)
    (h5:∀ a,Instr.sameBits 10000 (.agg (kv a).toArray) (.agg (kv a).toArray)=true):G76 P k (fun a=>.agg (kv a).toArray) where
  inj:=fun a b h=>inj a b (by simpa using h)
  check:=fun w em a=>by
    have:=J8f em (10000 - m) m k (.agg (kv a).toArray) (kv a) w (h8 a) (by unfold Reads; rw [if_pos h0])
    rwa [Nat.sub_add_cancel hm] at this
  find:=fun w a es he=>by
    obtain⟨dd,h4⟩:=Q03 (h6 a a)
    have h9:∀ (es:List MapEntry),es≠[]→Instr.findNow dd (.agg (kv a).toArray) es 0=none:=fun es a0=>by
      cases es with
      | nil=>exact absurd rfl a0
      | cons x r=>
        have:Instr.sameNow dd (.agg (kv a).toArray) x.key=none:=by
          unfold Instr.sameNow; split <;> simp_all
        simp [Instr.findNow,this]
    have key:∀ (es:List MapEntry) (i:Nat),(∀ e∈es,∃ b,e.key=Value.agg (kv b).toArray) →
        ((Instr.findAsking k (.agg (kv a).toArray) es i).run P w=.ok none w∧∀ e∈es,e.key≠.agg (kv a).toArray)∨∃ j e,(Instr.findAsking k (.agg (kv a).toArray) es i).run P w=.ok (some (i+j,e.val)) w∧es[j]? = some e∧e.key=.agg (kv a).toArray:=by
      intro es
      induction es with
      | nil=>intro i _; exact .inl ⟨rfl,by simp⟩
      | cons x r ih=>
        intro i he
        obtain⟨b,hb⟩:=he x (by simp)
        have hq:(Op.equal k (.agg (kv a).toArray) x.key).run P w=.ok (decide (a=b)) w:=by
          rw [hb]
          have:=Hb3 (10000 - m) m k (.agg (kv a).toArray) (.agg (kv b).toArray) (kv a) (kv b) _ w (h6 a b) (by unfold Reads; rw [if_pos h0]) (by unfold Reads; rw [if_pos h0])
          rwa [Nat.sub_add_cancel hm] at this
        by_cases e:a=b
        · subst e
          refine .inr ⟨0,x,?_,rfl,hb⟩
          simp [Instr.findAsking,hq]
        · have hs:(Instr.findAsking k (.agg (kv a).toArray) (x::r) i).run P w=(Instr.findAsking k (.agg (kv a).toArray) r (i+1)).run P w:=by
            simp [Instr.findAsking,hq,e]
          rcases ih (i+1) (fun y hy=>he y (by simp [hy])) with ⟨h1,h2⟩ | ⟨j,y,h1,h2,h3⟩
          · refine .inl ⟨by rw [hs]; exact h1,fun y hy=>?_⟩
            rcases Kp.1 hy with rfl | hy
            · rw [hb]; intro e'; exact e (inj b a (by simpa using e')).symm
            · exact h2 y hy
          · exact .inr ⟨j+1,y,by rw [hs,h1]; congr 3; omega,by simpa using h2,h3⟩
    cases h7:es with
    | nil=>exact .inl ⟨by simp [Instr.findKey,run_underlying h4,Instr.findNow],by simp⟩
    | cons x r=>
      rw [← h7]
      have hn:=h9 es (by simp [h7])
      rcases key es 0 he with ⟨h1,h2⟩ | ⟨j,e,h1,h2,h3⟩
      · exact .inl ⟨by simp [Instr.findKey,run_underlying h4,hn,h1],h2⟩
      · exact .inr ⟨j,e,by simp [Instr.findKey,run_underlying h4,hn,h1],h2,h3⟩
  stays:=fun w a=>by simp [Instr.keyThatStays,h5 a]

/-! ### Equality of aggregates aQ an operation -/
variable {o:Oper} {l:Fr} {L:Loc}
def scs (vs:List Value):List AV:=vs.map .sc
theorem V.inv_scs {β:Gx} {vs:List Value} {x:Value} {w:World} (h:V w β L (.agg (scs vs)) x):x=.agg vs.toArray:=by
  obtain⟨us,rfl,hl,hu⟩:=h.inv_agg
  congr 1
  apply Array.ext
  · simpa [scs] using hl
  · intro i h1 h2
    have h3:i < vs.length:=by simpa using h2
    have:=(hu i (.sc vs[i]) us[i] (by simp [scs,h3]) (by simp [h1])).inv_sc
    simpa using this

theorem R71 {x y:Operand} {T T':TypeId} {vs us:List Value} {r:Bool} (m:Nat) (hm:Nat.ble m 10000=true) (hq:Hc4 P m T vs us=some r) (h0:G17 P T=true) (hg:P.eqGuardType P.depth T=false)
    (ho:o.op=.binOp .neq T x y T') (hx:ev l x=.agg (scs vs)) (hy:ev l y=.agg (scs us)):Gq P o l L (Is (.sc (.bool (!r))) L):=
  H4 fun a w β h5 hf=>by
    have h1:=hf.ev x
    have h2:=hf.ev y
    rw [hx] at h1; rw [hy] at h2
    have e1:=V.inv_scs h1
    have e2:=V.inv_scs h2
    refine⟨_,?_,.sc⟩
    have h3:=Hb3 (10000 - m) m T (.agg vs.toArray) (.agg us.toArray) vs us r w hq (by unfold Reads; rw [if_pos h0]) (by unfold Reads; rw [if_pos h0])
    rw [Nat.sub_add_cancel (Nat.le_of_ble_eq_true hm)] at h3
    have h4:(binOp .neq T (.agg vs.toArray) (.agg us.toArray)).run P w=.ok (.bool (!r)) w:=by
      simp only [binOp,Op.equal,Op.maxDepth,Sem.run_bind,h3,Result.andThen_ok,Sem.run_pure]
    simp [execOp,ho,e1,e2,run_eqGuard_agg w .neq T x y _ _ hg,h4]
end
end Go.Proofs.Ytokjlondbjdlfaa
