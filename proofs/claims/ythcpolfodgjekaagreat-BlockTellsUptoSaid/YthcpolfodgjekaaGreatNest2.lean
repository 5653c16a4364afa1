/-
 Slices that begin as an empty literal and are appended to; appends of whole lists to an own slice; the least of three numbers. Is a slice nil: known alone of one that has elements. Appending to a part from the front of a slice of the call's own,within what it holds: the cells behind are written over. A slice of slices of the call's own,whose last slice still grows. Drawn orders whose last operation,behind all the others,is given apart. The typed steps of slices of slices whose last slice grows.
-/
import Derived.Test.YthcpolfodgjekaaGreatMore2
set_option linter.unusedSimpArgs false
namespace Go.Proofs.YthcpolfodgjekaaGreat
open Go.RowKit

theorem Je7 {P:Program} {o:Oper} {a:Act} {w:World} {T E k:Nat} (ho:o.op=.buildSlice T 0 #[]) (hT:sliceB P T E k=true):(execOp a.eval o).run P w=.ok (.value (.slice (some ⟨w.heap.size,0,none⟩) 0 0)) (w.alloc (.cells #[] E)):=by
 have hsz:=Qq (sliceB.out hT).2 w
 simp [execOp,ho,Instr.buildSlice,underlying,(sliceB.out hT).1,run_program,Sem.run_bind,Result.andThen_ok,hsz,newRow,Instr.fill]
 exact congrArg (fun x=>w.alloc (Obj.cells x E)) (Array.toList_inj.1 (by simp))

theorem own_new {w:World} {β:H7} {L:Loc} {i:Nat} (E k:Nat) (vs:Array Value) (cap:Nat) (hcap:cap≤maxLen) (hrow:(w.alloc (.cells vs E)).ownsRow 0 E k (.slice (some ⟨w.heap.size,0,none⟩) 0 cap) 0 []) (hsat:Sat w β L) (hi:lk L i=none) :
  Step w β L (w.alloc (.cells vs E)) (Q5 β i (some w.heap.size)) ((i,.spare E k 0 0)::L)∧Sat (w.alloc (.cells vs E)) (Q5 β i (some w.heap.size)) ((i,.spare E k 0 0)::L) ∧
  V (w.alloc (.cells vs E)) (Q5 β i (some w.heap.size)) ((i,.spare E k 0 0)::L) (.own i 0 k []) (.slice (some ⟨w.heap.size,0,none⟩) 0 cap):=by
 have hne:∀ id,(lk L id).isSome=true→i≠id:=fun id h e=>by subst e; rw [hi] at h; cases h
 have hlt:∀ b,b < w.heap.size→(w.alloc (.cells vs E)).heap[b]? = w.heap[b]? := fun b hb=>Qg w _ hb
 have hsz:w.heap.size < (w.alloc (.cells vs E)).heap.size:=by simp
 have st:Step w β L (w.alloc (.cells vs E)) (Q5 β i (some w.heap.size)) ((i,.spare E k 0 0)::L):=by
  refine⟨rfl,rfl,⟨rfl,Nat.le_refl _⟩,Nat.le_of_lt hsz,fun _ _ _=>Iff.rfl,fun b j hs=>⟨⟨Nat.lt_trans hs.lt hsz,hs.seen,fun id ob hid hb=>?_⟩,World.cell?_of_block (w:=w) (hlt b hs.lt)⟩,fun b hb hfar=>⟨hlt b hb,fun id hid e=>?_⟩,fun id t cs hid=>?_,fun id t cs hid=>?_,fun id t n cs hid=>?_,fun id t k' ver xs hid=>?_,fun id t k' ver hw hid=>?_⟩
  ·rw [Gs] at hid
   by_cases e:i=id
   ·subst e; simp only [Q5,if_true] at hb; cases hb; exact absurd hs.lt (Nat.lt_irrefl _)
   ·rw [if_neg e] at hid; simp only [Q5,if_neg (Ne.symm e)] at hb; exact hs.kept id ob hid hb
  ·rw [Gs] at hid
   by_cases e':i=id
   ·subst e'; simp only [Q5,if_true] at e; cases e; exact absurd hb (Nat.lt_irrefl _)
   ·rw [if_neg e'] at hid; simp only [Q5,if_neg (Ne.symm e')] at e; exact hfar id hid e
  all_goals
   have e:=hne id (by rw [hid]; rfl)
  ·exact⟨by simp [Q5,Ne.symm e],cs,by rw [Gs,if_neg e]; exact hid⟩
  ·exact⟨by simp [Q5,Ne.symm e],cs,by rw [Gs,if_neg e]; exact hid⟩
  ·exact⟨by simp [Q5,Ne.symm e],n,cs,by rw [Gs,if_neg e]; exact hid⟩
  ·exact⟨ver,xs,by rw [Gs,if_neg e]; exact hid,Nat.le_refl _,fun _=>⟨rfl,by simp [Q5,Ne.symm e],fun b hb=>G45 (hlt b (hsat.bnd id b (by rw [hid]; rfl) hb))⟩⟩
  ·exact⟨ver,hw,by rw [Gs,if_neg e]; exact hid,Nat.le_refl _,fun _=>⟨rfl,by simp [Q5,Ne.symm e],fun b hb=>hlt b (hsat.bnd id b (by rw [hid]; rfl) hb)⟩⟩
 refine⟨st,⟨fun b j h=>Nat.lt_trans (hsat.hid b j h) hsz,fun id b hid hb=>?_,fun id b j hid hb hh=>?_,fun id id' b h1 h2 h3 h4=>?_,fun id ob hid=>?_⟩,?_⟩
 ·rw [Gs] at hid
  by_cases e:i=id
  ·subst e; simp only [Q5,if_true] at hb; cases hb; exact hsz
  ·rw [if_neg e] at hid; simp only [Q5,if_neg (Ne.symm e)] at hb; exact Nat.lt_trans (hsat.bnd id b hid hb) hsz
 ·rw [Gs] at hid
  by_cases e:i=id
  ·subst e; simp only [Q5,if_true] at hb; cases hb; exact absurd (hsat.hid _ _ hh) (Nat.lt_irrefl _)
  ·rw [if_neg e] at hid; simp only [Q5,if_neg (Ne.symm e)] at hb; exact hsat.apart id b j hid hb hh
 ·by_cases e:i=id
  ·by_cases e':i=id'
   ·rw [← e,e']
   ·subst e
    rw [Gs,if_neg e'] at h2
    simp only [Q5,if_true] at h3
    simp only [Q5,if_neg (Ne.symm e')] at h4
    cases h3
    exact absurd (hsat.bnd id' _ h2 h4) (Nat.lt_irrefl _)
  ·by_cases e':i=id'
   ·subst e'
    rw [Gs,if_neg e] at h1
    simp only [Q5,if_true] at h4
    simp only [Q5,if_neg (Ne.symm e)] at h3
    cases h4
    exact absurd (hsat.bnd id _ h1 h3) (Nat.lt_irrefl _)
   ·rw [Gs,if_neg e] at h1
    rw [Gs,if_neg e'] at h2
    simp only [Q5,if_neg (Ne.symm e)] at h3
    simp only [Q5,if_neg (Ne.symm e')] at h4
    exact hsat.inj id id' b h1 h2 h3 h4
 ·rw [Gs] at hid
  by_cases e:i=id
  ·subst e; simp at hid; subst hid
   exact .inr ⟨w.heap.size,by simp [Q5],vs,heap_alloc_new w _,by simp⟩
  ·rw [if_neg e] at hid
   simp only [Q5,if_neg (Ne.symm e)]
   exact(hsat.obj id ob hid).step st (fun b hb=>hlt b (hsat.bnd id b (by rw [hid]; rfl) hb))
 ·exact .own (.nil hcap) ⟨E,0,0,by rw [Gs,if_pos rfl],Nat.le_refl _,fun _=>⟨rfl,by simp [Value.ownBlock,Q5],[],hrow,fun j u hu=>by simp [flat] at hu⟩⟩

theorem own_lit {w:World} {β:H7} {L:Loc} {i:Nat} (E k:Nat) (hsat:Sat w β L) (hi:lk L i=none) :
  Step w β L (w.alloc (.cells #[] E)) (Q5 β i (some w.heap.size)) ((i,.spare E k 0 0)::L)∧Sat (w.alloc (.cells #[] E)) (Q5 β i (some w.heap.size)) ((i,.spare E k 0 0)::L) ∧
  V (w.alloc (.cells #[] E)) (Q5 β i (some w.heap.size)) ((i,.spare E k 0 0)::L) (.own i 0 k []) (.slice (some ⟨w.heap.size,0,none⟩) 0 0):=
 own_new E k #[] 0 (Nat.zero_le _) (World.ownsRow_lit w #[] 0 (Nat.zero_le _) (Nat.zero_le _) (by simp)) hsat hi

def J4b (P:Program) (T f off:Nat):Bool:=
 match P.underlying T with
 | some (.struct fs)=>match fs[f]? with
  | some fld=>fld.offset==off&&Yf P fld.type
  | none=>false
 | _=>false
theorem J4b.out {P:Program} {T f off:Nat} (h:J4b P T f off=true):∃ fs fld,P.underlying T=some (.struct fs)∧fs[f]? = some fld∧fld.offset=off∧Yf P fld.type=true:=by
 unfold J4b at h
 split at h
 ·rename_i fs h1
  split at h
  ·rename_i fld h2
   simp only [Bool.and_eq_true,beq_iff_eq] at h
   exact⟨fs,fld,h1,h2,h.1,h.2⟩
  ·cases h
 ·cases h

def arrNB (P:Program) (T n k:Nat):Bool:=
 match P.underlying T with
 | some (.array m e)=>m==n&&Ys P e k
 | _=>false
theorem arrNB.out {P:Program} {T n k:Nat} (h:arrNB P T n k=true):∃ e,P.underlying T=some (.array n e)∧Ys P e k=true:=by
 unfold arrNB at h
 split at h
 ·rename_i m e h1
  simp only [Bool.and_eq_true,beq_iff_eq] at h
  obtain⟨rfl,h2⟩:=h
  exact⟨_,h1,h2⟩
 ·cases h
section ops
variable {P:Program} {N:G4f} {o:Oper} {l:Fr} {L L':Loc} {u:AV} {α:Type}

theorem Q7c (i E k:Nat) {T:Nat} (ho:o.op=.buildSlice T 0 #[]) (hi:lk L i=none) (hT:sliceB P T E k=true):H4 P o l L (Is (.own i 0 k []) ((i,.spare E k 0 0)::L)):=by
 intro a w β K Q hsat hf hK
 unfold Oper.wp
 rw [Je7 (E:=E) (k:=k) ho hT]
 obtain⟨st,sat,hv⟩:=own_lit E k hsat hi
 exact hK _ _ _ _ _ ⟨rfl,rfl⟩ sat st hv

theorem Jaf (w:World) (base:Nat) (t ty e:TypeId) (i:TypeInfo) (size:Nat) (ht:P.underlying t=some (.slice e)) (hi:P.info? e=some i)
  (v:Value) (n:Nat) (xs:List Value) (hown:w.ownsRow base e size v n xs) (ao:Option Addr) (c:Nat) :
  (Builtin.append_ #[t,t] ty #[v,.slice ao 0 c]).run P w=.ok v w:=by
 rcases hown.2 with ⟨rfl,rfl⟩ | ⟨g,cap,cur,rfl,_,_,hnc,_⟩
 ·cases ao <;> simp [Builtin.append_,run_underlying ht,sizeOf,typeInfo,hi,Builtin.lenOf,Builtin.firstCells,loadCells,loadCellsFrom]
 ·cases ao <;> simp [Builtin.append_,run_underlying ht,sizeOf,typeInfo,hi,Builtin.lenOf,Builtin.firstCells,hnc,storeCells,loadCells,loadCellsFrom]

theorem A_append0 {s x:Operand} {T E k by_ i ver n:Nat} {kx:Nat} {xs:List AV} (ho:o.op=.call { callee:=.builtin .append,args:=#[s,x],argTypes:=#[T,T] }) (hs:ev l s=.own i ver k xs) (hi:lk L i=some (.spare E k ver n)) (hx:Qe (ev l x)=some (kx,[]))
  (hT:sliceB P T E k=true) (hE:Z5 P E k by_=true):H4 P o l L (Is (.own i ver k xs) L):=
 Hq fun a w β hsat hf=>by
  have hv:=hf.ev s
  rw [hs] at hv
  have hxd:=(hf.ev x).Qe hx
  obtain⟨ao,cap,hxv,_⟩:=hxd.len
  obtain⟨inf,z,e1,e2,e3,e4,e5,e6⟩:=Z5.out hE
  have hv':=hv
  cases hv with
  | data h=>cases h
  | own hd hp=>
   obtain⟨t,ver',hw,h1,h2,h3⟩:=hp
   rw [hi] at h1
   cases h1
   obtain⟨rfl,hob,vals,hown,hvD⟩:=h3 rfl
   have hr:=Jaf (P:=P) w 0 T o.type E inf k (sliceB.out hT).1 e1 (a.eval s) _ _ hown ao cap
   exact⟨a.eval s,by simp [execOp,ho,resolve,invoke,builtin,hxv,hr],hv'⟩

theorem Ge7 {L:Loc} {s x:Operand} {T E k by_ i kx:Nat} {f:α→AV} {xs ys:List α} (ho:o.op=.call { callee:=.builtin .append,args:=#[s,x],argTypes:=#[T,T] }) (hs:ev l s=OW i k f xs) (hi:lk L i=some (.spare E k xs.length xs.length)) (hx:Qe (ev l x)=some (kx,ys.map f))
  (hT:sliceB P T E k=true) (hE:Z5 P E k by_=true) (hb:decide ((xs.length+ys.length)*by_≤140737488355328∧xs.length+ys.length≤maxLen)=true) (hcell:∀ y,(f y).flatOk=true) (hk:kx=k∨ys=[]) :
  H4 P o l L (Is (OW i k f (xs++ys)) ((i,.spare E k (xs++ys).length (xs++ys).length)::L)):=by
 have hb':=of_decide_eq_true hb
 by_cases h0:ys=[]
 ·subst h0
  have h:=A_append0 (P:=P) (o:=o) (by_:=by_) ho hs hi (by simpa using hx) hT hE
  rw [List.append_nil]
  intro a w β K Q hsat hf hK
  refine h a w β K Q hsat hf (fun u L1 v w1 β1 hu hs1 st1 hv1=>?_)
  obtain⟨rfl,rfl⟩:=hu
  have hle:H44 L1 ((i,.spare E k xs.length xs.length)::L1):=fun j=>by
   rw [Gs]
   by_cases e:i=j
   ·subst e; rw [if_pos rfl,hi]
   ·rw [if_neg e]
  exact hK _ _ v w1 β1 ⟨rfl,rfl⟩ (hs1.locEq hle) (st1.locEq hle) (hv1.locEq hle)
 ·have h:=J81 (ver1:=(xs++ys).length) (xs:=xs.map f) (ys:=ys.map f) ho hs hi hx hT hE (by simpa using hb'.1) (by simpa using hb'.2) (fun y hy=>by
   obtain⟨z,_,rfl⟩:=List.mem_map.1 hy
   exact hcell z) (hk.imp id (fun e=>by rw [e]; rfl)) (by
   have:=List.length_pos_iff.2 h0
   rw [List.length_append]; omega)
  simpa only [OW,List.map_append,List.length_append,List.length_map] using h
def arr1B (P:Program) (T n:Nat):Bool:=
 match P.underlying T with
 | some (.array m e)=>m==n&&(Yf P e&&Ys P e 1)
 | _=>false
theorem arr1B.out {P:Program} {T n:Nat} (h:arr1B P T n=true):∃ e,P.underlying T=some (.array n e)∧Yf P e=true∧Ys P e 1=true:=by
 unfold arr1B at h
 split at h
 ·rename_i m e h1
  simp only [Bool.and_eq_true,beq_iff_eq] at h
  obtain⟨rfl,h2,h3⟩:=h
  exact⟨_,h1,h2,h3⟩
 ·cases h
theorem Hf8 {x ix:Operand} {T n j:Nat} {kd:IntKind} {z:Int} {cs:List AV} (hT:arr1B P T n=true) (ho:o.op=.index T x ix) (hx:ev l x=.agg cs) (hi:ev l ix=.sc (.int kd z)) (hz:z=(j:Int)) (hjn:Nat.blt j n=true) (hn:cs[j]? = some u):H4 P o l L (Is u L):=
 Hq fun a w β _ hf=>by
  have h1:=hf.ev x
  rw [hx] at h1
  have h2:=hf.ev ix
  rw [hi] at h2
  obtain⟨vs,he,hl,hv⟩:=h1.inv_agg
  have hlt:j < vs.size:=by
   rw [hl]
   rcases Nat.lt_or_ge j cs.length with h | h
   ·exact h
   ·simp [List.getElem?_eq_none h] at hn
  obtain⟨e,g1,g2,g3⟩:=arr1B.out hT
  have hs:=Qq g3 w
  have hjn':j < n:=by rw [Nat.blt_eq] at hjn; exact hjn
  have hb:(0:Int)≤(j:Int)∧(j:Int) < (n:Int):=by omega
  subst hz
  exact⟨vs[j],by simp [execOp,ho,Instr.index,asIntOf,underlying,g1,he,h2.inv_sc,hb,hs,asAgg,part,Gfc g2,hlt]; intro hc; omega,hv j u _ hn (by simp [hlt])⟩
end ops
end Go.Proofs.YthcpolfodgjekaaGreat
set_option linter.unusedSimpArgs false
namespace Go.Proofs.YthcpolfodgjekaaGreat
open Go.RowKit

theorem run_eqNil {P:Program} {T E k:Nat} (hT:sliceB P T E k=true) (a:Option Addr) (n c:Nat) (w:World):(Op.equal T (.slice a n c) (.slice none 0 0)).run P w=.ok a.isNone w:=by
 have h:=(sliceB.out hT).1
 unfold Op.equal
 generalize hd:Op.maxDepth=d
 obtain⟨d,rfl⟩:∃ m,d=m+1:=⟨Op.maxDepth - 1,by rw [← hd]; rfl⟩
 clear hd
 cases a with
 | none=>rw [Op.equalIn]; simp [underlying,h]
 | some a=>rw [Op.equalIn]; simp [underlying,h]

def nilB {α β:Type} [DecidableEq β] (xs:List α) (k:Bool→Option β):Option β:=
 match xs with
 | []=>if k true=k false then k false else none
 | _=>k false
theorem J43 {α β γ:Type} [DecidableEq β] {xs:List α} {k:Bool→Option β} {r:β} {f:α→γ} (h:nilB xs k=some r) (b:Bool) (hb:b=true→xs.map f=[]):k b=some r:=by
 cases xs with
 | nil=>
  have h:(if k true=k false then k false else none)=some r:=h
  by_cases e:k true=k false
  ·rw [if_pos e] at h
   cases b with
   | true=>rw [e]; exact h
   | false=>exact h
  ·rw [if_neg e] at h; cases h
 | cons x l=>
  cases b with
  | true=>have:=hb rfl; cases this
  | false=>exact h
section
variable {P:Program} {o:Oper} {l:Fr} {L:Loc}
theorem Jc3 {x:Operand} {T T' E k k':Nat} {xs:List AV} (hT:sliceB P T E k'=true) (ho:o.op=.binOp .eql T x (.const (.slice none 0 0)) T') (hx:Qe (ev l x)=some (k,xs)):H4 P o l L (fun u L'=>∃ b:Bool,(b=true→xs=[])∧u=BL b∧L'=L):=by
 intro a w β K Q hsat hf hK
 have hd:=(hf.ev x).Qe hx
 have key:∀ ao n c,a.eval x=.slice ao n c→(execOp a.eval o).run P w=.ok (.value (.bool ao.isNone)) w:=fun ao n c e=>by
  have e2:a.eval (.const (.slice none 0 0))=.slice none 0 0:=rfl
  simp [execOp,ho,eqGuard,binOp,e,e2,run_eqNil hT]
 generalize hv:a.eval x=v at hd
 cases hd with
 | nil h=>
  rename_i cap ao
  unfold Oper.wp
  rw [key _ _ _ hv]
  exact hK _ _ _ _ _ ⟨ao.isNone,fun _=>rfl,rfl,rfl⟩ hsat (Step.refl _ _ _) .sc
 | list vals hcap hm hk hS h=>
  unfold Oper.wp
  rw [key _ _ _ hv]
  exact hK _ _ _ _ _ ⟨false,fun e=>(by cases e),rfl,rfl⟩ hsat (Step.refl _ _ _) .sc
theorem A_vnil2 (i E k:Nat) {x:Operand} {ver:Nat} {xs:List AV} (ho:o.op=.assign x) (hx:ev l x=.sc (.slice none 0 0)) (hi:lk L i=some (.vec E k ver xs)):H4 P o l L (Is (.vec i (ver+1) k 0) ((i,.vec E k (ver+1) [])::L)):=by
 intro a w β K Q hsat hf hK
 have hv:=hf.ev x
 rw [hx] at hv
 have hr:(execOp a.eval o).run P w=.ok (.value (.slice none 0 0)) w:=by simp [execOp,ho,hv.inv_sc]
 unfold Oper.wp
 rw [hr]
 obtain⟨st,sat⟩:=Zn (w':=w) (t:=E) (k:=k) (ver1:=ver+1) (xs':=[]) (ob':=none) hsat (.inr ⟨ver,xs,hi,by omega,fun e=>by omega⟩) rfl rfl ⟨rfl,Nat.le_refl _⟩ (Nat.le_refl _) (fun _ _ _=>rfl) (.inl rfl)
 exact hK _ _ _ w _ ⟨rfl,rfl⟩ (sat ⟨by simp,.inl ⟨rfl,rfl⟩⟩) st (.vec ⟨E,ver+1,[],by rw [Gs,if_pos rfl],Nat.le_refl _,fun _=>⟨rfl,.inl ⟨rfl,rfl,by simp [Q5]⟩⟩⟩ rfl)
theorem A_vlit2 (i E k:Nat) {T ver:Nat} {xs:List AV} (ho:o.op=.buildSlice T 0 #[]) (hi:lk L i=some (.vec E k ver xs)) (hT:sliceB P T E k=true):H4 P o l L (Is (.vec i (ver+1) k 0) ((i,.vec E k (ver+1) [])::L)):=by
 intro a w β K Q hsat hf hK
 unfold Oper.wp
 rw [Je7 (E:=E) (k:=k) ho hT]
 have hsz:w.heap.size < (w.alloc (.cells #[] E)).heap.size:=by simp
 obtain⟨st,sat⟩:=Zn (w':=w.alloc (.cells #[] E)) (t:=E) (k:=k) (ver1:=ver+1) (xs':=[]) (ob':=some w.heap.size) hsat (.inr ⟨ver,xs,hi,by omega,fun e=>by omega⟩) rfl rfl ⟨rfl,Nat.le_refl _⟩ (Nat.le_of_lt hsz) (fun b hb _=>Qg w _ hb) (.inr (.inr ⟨_,rfl,Nat.le_refl _,hsz⟩))
 have hn:=heap_alloc_new w (.cells #[] E)
 exact hK _ _ _ _ _ ⟨rfl,rfl⟩ (sat ⟨by simp,.inr ⟨_,rfl,#[],hn,by simp,fun j u v hu=>by simp [flat] at hu⟩⟩) st (.vec ⟨E,ver+1,[],by rw [Gs,if_pos rfl],Nat.le_refl _,fun _=>⟨rfl,.inr ⟨w.heap.size,0,rfl,by simp [Q5],Nat.le_refl _,Nat.zero_le _,by simp only [World.shape?,hn,Option.bind_some]; simp⟩⟩⟩ rfl)
end
end Go.Proofs.YthcpolfodgjekaaGreat
namespace Go.Proofs.YthcpolfodgjekaaGreat
open Go.RowKit

section
variable {P:Program} {o:Oper} {l:Fr} {L:Loc}
end
end Go.Proofs.YthcpolfodgjekaaGreat
set_option linter.unusedSimpArgs false
namespace Go.Proofs.YthcpolfodgjekaaGreat
open Go.RowKit
set_option linter.unusedVariables false

section moves
variable {w w':World} {β:H7} {L:Loc} {i t k ver1 hw1:Nat}
end moves

section ops
variable {P:Program} {N:G4f} {Q:Post} {o:Oper} {ops:Array Oper} {rest:List Oper} {l:Fr} {L:Loc}

end ops

section freeze
variable {P:Program} {N:G4f} {Q:Post} {l l':Fr} {L L':Loc}

inductive FrzN (i ver n:Nat) (pre:List AV) (last:AV) (ys:List AV) (ok:Nat→Bool):AV→AV→Prop
 | conv {u u':AV} (h:Conv ok u u'):FrzN i ver n pre last ys ok u u'
 | nst:FrzN i ver n pre last ys ok (.nst i ver n pre last) (.list 1 ys)
def Jaa (i ver n:Nat) (pre:List AV) (last:AV) (ys:List AV) (ok:Nat→Bool) (l:Fr):Fr→Prop
 | []=>True
 | (t,u)::r=>FrzN i ver n pre last ys ok (look l t) u∧Jaa i ver n pre last ys ok l r
theorem Jaa.get {i ver n:Nat} {pre:List AV} {last:AV} {ys:List AV} {ok:Nat→Bool} {l:Fr}:∀ {l':Fr},Jaa i ver n pre last ys ok l l'→∀ t,FrzN i ver n pre last ys ok (look l t) (look l' t)
 | [],_,t=>.conv .junk
 | (s,u)::r,h,t=>by
  simp only [look]
  cases hb:Nat.beq s t with
  | true=>have:=Nat.eq_of_beq_eq_true hb; subst this; exact h.1
  | false=>exact Jaa.get h.2 t

end freeze

/-! ### Typed -/
section typed
variable {α:Type}
end typed
end Go.Proofs.YthcpolfodgjekaaGreat
namespace Go.Proofs.YthcpolfodgjekaaGreat
open Go.RowKit
set_option linter.unusedVariables false

section sound
variable {P:Program} {N:G4f} {ops:List Oper} {ws los his:List Nat} {Ls:List Loc} {l0:Fr} {val:Nat→AV}

end sound
end Go.Proofs.YthcpolfodgjekaaGreat
namespace Go.Proofs.YthcpolfodgjekaaGreat
open Go.RowKit
set_option linter.unusedVariables false

section typed
variable {P:Program} {N:G4f} {Q:Post} {o:Oper} {ops:Array Oper} {rest:List Oper} {l:Fr} {L:Loc} {α:Type}

end typed
end Go.Proofs.YthcpolfodgjekaaGreat
