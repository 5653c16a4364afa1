/-
 Slices that begin as an empty literal and are appended to; appends of whole lists to an own slice; the least of three numbers.
-/
import Derived.Test.YtecjdioomlhhiaaGreatMore2
set_option linter.unusedSimpArgs false
namespace Go.Proofs.YtecjdioomlhhiaaGreat
open Go.RowKit

theorem Jeb {P:Program} {o:Oper} {a:Act} {w:World} {T E k:Nat} (ho:o.op=.buildSlice T 0 #[]) (hT:sliceB P T E k=true):(execOp a.eval o).run P w=.ok (.value (.slice (some ⟨w.heap.size,0,none⟩) 0 0)) (w.alloc (.cells #[] E)):=by
 have hsz:=Qr (sliceB.out hT).2 w
 simp [execOp,ho,Instr.buildSlice,underlying,(sliceB.out hT).1,run_program,Sem.run_bind,Result.andThen_ok,hsz,newRow,Instr.fill]
 exact congrArg (fun x=>w.alloc (Obj.cells x E)) (Array.toList_inj.1 (by simp))

theorem R5d {w:World} {β:H5} {L:Loc} {i:Nat} (E k:Nat) (vs:Array Value) (cap:Nat) (hcap:cap≤maxLen) (hrow:(w.alloc (.cells vs E)).ownsRow 0 E k (.slice (some ⟨w.heap.size,0,none⟩) 0 cap) 0 []) (hsat:Sat w β L) (hi:lk L i=none) :
  Step w β L (w.alloc (.cells vs E)) (upP β i (some w.heap.size)) ((i,.spare E k 0 0)::L)∧Sat (w.alloc (.cells vs E)) (upP β i (some w.heap.size)) ((i,.spare E k 0 0)::L) ∧
  V (w.alloc (.cells vs E)) (upP β i (some w.heap.size)) ((i,.spare E k 0 0)::L) (.own i 0 k []) (.slice (some ⟨w.heap.size,0,none⟩) 0 cap):=by
 have hne:∀ id,(lk L id).isSome=true→i≠id:=fun id h e=>by subst e; rw [hi] at h; cases h
 have hlt:∀ b,b < w.heap.size→(w.alloc (.cells vs E)).heap[b]? = w.heap[b]? := fun b hb=>Q6 w _ hb
 have hsz:w.heap.size < (w.alloc (.cells vs E)).heap.size:=by simp
 have st:Step w β L (w.alloc (.cells vs E)) (upP β i (some w.heap.size)) ((i,.spare E k 0 0)::L):=by
  refine⟨rfl,rfl,⟨rfl,Nat.le_refl _⟩,Nat.le_of_lt hsz,fun _ _ _=>Iff.rfl,fun b j hs=>⟨⟨Nat.lt_trans hs.lt hsz,hs.seen,fun id ob hid hb=>?_⟩,World.cell?_of_block (w:=w) (hlt b hs.lt)⟩,fun b hb hfar=>⟨hlt b hb,fun id hid e=>?_⟩,fun id t cs hid=>?_,fun id t cs hid=>?_,fun id t n cs hid=>?_,fun id t k' ver xs hid=>?_,fun id t k' ver hw hid=>?_⟩
  ·rw [Gr] at hid
   by_cases e:i=id
   ·subst e; simp only [upP,if_true] at hb; cases hb; exact absurd hs.lt (Nat.lt_irrefl _)
   ·rw [if_neg e] at hid; simp only [upP,if_neg (Ne.symm e)] at hb; exact hs.kept id ob hid hb
  ·rw [Gr] at hid
   by_cases e':i=id
   ·subst e'; simp only [upP,if_true] at e; cases e; exact absurd hb (Nat.lt_irrefl _)
   ·rw [if_neg e'] at hid; simp only [upP,if_neg (Ne.symm e')] at e; exact hfar id hid e
  all_goals
   have e:=hne id (by rw [hid]; rfl)
  ·exact⟨by simp [upP,Ne.symm e],cs,by rw [Gr,if_neg e]; exact hid⟩
  ·exact⟨by simp [upP,Ne.symm e],cs,by rw [Gr,if_neg e]; exact hid⟩
  ·exact⟨by simp [upP,Ne.symm e],n,cs,by rw [Gr,if_neg e]; exact hid⟩
  ·exact⟨ver,xs,by rw [Gr,if_neg e]; exact hid,Nat.le_refl _,fun _=>⟨rfl,by simp [upP,Ne.symm e],fun b hb=>G40 (hlt b (hsat.bnd id b (by rw [hid]; rfl) hb))⟩⟩
  ·exact⟨ver,hw,by rw [Gr,if_neg e]; exact hid,Nat.le_refl _,fun _=>⟨rfl,by simp [upP,Ne.symm e],fun b hb=>hlt b (hsat.bnd id b (by rw [hid]; rfl) hb)⟩⟩
 refine⟨st,⟨fun b j h=>Nat.lt_trans (hsat.hid b j h) hsz,fun id b hid hb=>?_,fun id b j hid hb hh=>?_,fun id id' b h1 h2 h3 h4=>?_,fun id ob hid=>?_⟩,?_⟩
 ·rw [Gr] at hid
  by_cases e:i=id
  ·subst e; simp only [upP,if_true] at hb; cases hb; exact hsz
  ·rw [if_neg e] at hid; simp only [upP,if_neg (Ne.symm e)] at hb; exact Nat.lt_trans (hsat.bnd id b hid hb) hsz
 ·rw [Gr] at hid
  by_cases e:i=id
  ·subst e; simp only [upP,if_true] at hb; cases hb; exact absurd (hsat.hid _ _ hh) (Nat.lt_irrefl _)
  ·rw [if_neg e] at hid; simp only [upP,if_neg (Ne.symm e)] at hb; exact hsat.apart id b j hid hb hh
 ·by_cases e:i=id
  ·by_cases e':i=id'
   ·rw [← e,e']
   ·subst e
    rw [Gr,if_neg e'] at h2
    simp only [upP,if_true] at h3
    simp only [upP,if_neg (Ne.symm e')] at h4
    cases h3
    exact absurd (hsat.bnd id' _ h2 h4) (Nat.lt_irrefl _)
  ·by_cases e':i=id'
   ·subst e'
    rw [Gr,if_neg e] at h1
    simp only [upP,if_true] at h4
    simp only [upP,if_neg (Ne.symm e)] at h3
    cases h4
    exact absurd (hsat.bnd id _ h1 h3) (Nat.lt_irrefl _)
   ·rw [Gr,if_neg e] at h1
    rw [Gr,if_neg e'] at h2
    simp only [upP,if_neg (Ne.symm e)] at h3
    simp only [upP,if_neg (Ne.symm e')] at h4
    exact hsat.inj id id' b h1 h2 h3 h4
 ·rw [Gr] at hid
  by_cases e:i=id
  ·subst e; simp at hid; subst hid
   exact .inr ⟨w.heap.size,by simp [upP],vs,heap_alloc_new w _,by simp⟩
  ·rw [if_neg e] at hid
   simp only [upP,if_neg (Ne.symm e)]
   exact(hsat.obj id ob hid).step st (fun b hb=>hlt b (hsat.bnd id b (by rw [hid]; rfl) hb))
 ·exact .own (.nil hcap) ⟨E,0,0,by rw [Gr,if_pos rfl],Nat.le_refl _,fun _=>⟨rfl,by simp [Value.ownBlock,upP],[],hrow,fun j u hu=>by simp [flat] at hu⟩⟩

theorem Rfa {w:World} {β:H5} {L:Loc} {i:Nat} (E k:Nat) (hsat:Sat w β L) (hi:lk L i=none) :
  Step w β L (w.alloc (.cells #[] E)) (upP β i (some w.heap.size)) ((i,.spare E k 0 0)::L)∧Sat (w.alloc (.cells #[] E)) (upP β i (some w.heap.size)) ((i,.spare E k 0 0)::L) ∧
  V (w.alloc (.cells #[] E)) (upP β i (some w.heap.size)) ((i,.spare E k 0 0)::L) (.own i 0 k []) (.slice (some ⟨w.heap.size,0,none⟩) 0 0):=
 R5d E k #[] 0 (Nat.zero_le _) (World.ownsRow_lit w #[] 0 (Nat.zero_le _) (Nat.zero_le _) (by simp)) hsat hi

def J4f (P:Program) (T f off:Nat):Bool:=
 match P.underlying T with
 | some (.struct fs)=>match fs[f]? with
  | some fld=>fld.offset==off&&Ym P fld.type
  | none=>false
 | _=>false
theorem J4f.out {P:Program} {T f off:Nat} (h:J4f P T f off=true):∃ fs fld,P.underlying T=some (.struct fs)∧fs[f]? = some fld∧fld.offset=off∧Ym P fld.type=true:=by
 unfold J4f at h
 split at h
 ·rename_i fs h1
  split at h
  ·rename_i fld h2
   simp only [Bool.and_eq_true,beq_iff_eq] at h
   exact⟨fs,fld,h1,h2,h.1,h.2⟩
  ·cases h
 ·cases h

def Q65 (P:Program) (T n k:Nat):Bool:=
 match P.underlying T with
 | some (.array m e)=>m==n&&Zh P e k
 | _=>false
theorem Q65.out {P:Program} {T n k:Nat} (h:Q65 P T n k=true):∃ e,P.underlying T=some (.array n e)∧Zh P e k=true:=by
 unfold Q65 at h
 split at h
 ·rename_i m e h1
  simp only [Bool.and_eq_true,beq_iff_eq] at h
  obtain⟨rfl,h2⟩:=h
  exact⟨_,h1,h2⟩
 ·cases h
section ops
variable {P:Program} {N:Cfg} {o:Oper} {l:Fr} {L L':Loc} {u:AV} {α:Type}

theorem Qf9 (i E k:Nat) {T:Nat} (ho:o.op=.buildSlice T 0 #[]) (hi:lk L i=none) (hT:sliceB P T E k=true):H1 P o l L (Is (.own i 0 k []) ((i,.spare E k 0 0)::L)):=by
 intro a w β K Q hsat hf hK
 unfold Oper.wp
 rw [Jeb (E:=E) (k:=k) ho hT]
 obtain⟨st,sat,hv⟩:=Rfa E k hsat hi
 exact hK _ _ _ _ _ ⟨rfl,rfl⟩ sat st hv

theorem Ja4 (w:World) (base:Nat) (t ty e:TypeId) (i:TypeInfo) (size:Nat) (ht:P.underlying t=some (.slice e)) (hi:P.info? e=some i)
  (v:Value) (n:Nat) (xs:List Value) (hown:w.ownsRow base e size v n xs) (ao:Option Addr) (c:Nat) :
  (Builtin.append_ #[t,t] ty #[v,.slice ao 0 c]).run P w=.ok v w:=by
 rcases hown.2 with ⟨rfl,rfl⟩ | ⟨g,cap,cur,rfl,_,_,hnc,_⟩
 ·cases ao <;> simp [Builtin.append_,run_underlying ht,sizeOf,typeInfo,hi,Builtin.lenOf,Builtin.firstCells,loadCells,loadCellsFrom]
 ·cases ao <;> simp [Builtin.append_,run_underlying ht,sizeOf,typeInfo,hi,Builtin.lenOf,Builtin.firstCells,hnc,storeCells,loadCells,loadCellsFrom]

theorem Rbb {s x:Operand} {T E k by_ i ver n:Nat} {kx:Nat} {xs:List AV} (ho:o.op=.call { callee:=.builtin .append,args:=#[s,x],argTypes:=#[T,T] }) (hs:ev l s=.own i ver k xs) (hi:lk L i=some (.spare E k ver n)) (hx:Qd (ev l x)=some (kx,[]))
  (hT:sliceB P T E k=true) (hE:Zi P E k by_=true):H1 P o l L (Is (.own i ver k xs) L):=
 Hq fun a w β hsat hf=>by
  have hv:=hf.ev s
  rw [hs] at hv
  have hxd:=(hf.ev x).Qd hx
  obtain⟨ao,cap,hxv,_⟩:=hxd.len
  obtain⟨inf,z,e1,e2,e3,e4,e5,e6⟩:=Zi.out hE
  have hv':=hv
  cases hv with
  | data h=>cases h
  | own hd hp=>
   obtain⟨t,ver',hw,h1,h2,h3⟩:=hp
   rw [hi] at h1
   cases h1
   obtain⟨rfl,hob,vals,hown,hvD⟩:=h3 rfl
   have hr:=Ja4 (P:=P) w 0 T o.type E inf k (sliceB.out hT).1 e1 (a.eval s) _ _ hown ao cap
   exact⟨a.eval s,by simp [execOp,ho,resolve,invoke,builtin,hxv,hr],hv'⟩

theorem Gf4 {L:Loc} {s x:Operand} {T E k by_ i kx:Nat} {f:α→AV} {xs ys:List α} (ho:o.op=.call { callee:=.builtin .append,args:=#[s,x],argTypes:=#[T,T] }) (hs:ev l s=OW i k f xs) (hi:lk L i=some (.spare E k xs.length xs.length)) (hx:Qd (ev l x)=some (kx,ys.map f))
  (hT:sliceB P T E k=true) (hE:Zi P E k by_=true) (hb:decide ((xs.length+ys.length)*by_≤140737488355328∧xs.length+ys.length≤maxLen)=true) (hcell:∀ y,(f y).flatOk=true) (hk:kx=k∨ys=[]) :
  H1 P o l L (Is (OW i k f (xs++ys)) ((i,.spare E k (xs++ys).length (xs++ys).length)::L)):=by
 have hb':=of_decide_eq_true hb
 by_cases h0:ys=[]
 ·subst h0
  have h:=Rbb (P:=P) (o:=o) (by_:=by_) ho hs hi (by simpa using hx) hT hE
  rw [List.append_nil]
  intro a w β K Q hsat hf hK
  refine h a w β K Q hsat hf (fun u L1 v w1 β1 hu hs1 st1 hv1=>?_)
  obtain⟨rfl,rfl⟩:=hu
  have hle:H49 L1 ((i,.spare E k xs.length xs.length)::L1):=fun j=>by
   rw [Gr]
   by_cases e:i=j
   ·subst e; rw [if_pos rfl,hi]
   ·rw [if_neg e]
  exact hK _ _ v w1 β1 ⟨rfl,rfl⟩ (hs1.locEq hle) (st1.locEq hle) (hv1.locEq hle)
 ·have h:=J73 (ver1:=(xs++ys).length) (xs:=xs.map f) (ys:=ys.map f) ho hs hi hx hT hE (by simpa using hb'.1) (by simpa using hb'.2) (fun y hy=>by
   obtain⟨z,_,rfl⟩:=List.mem_map.1 hy
   exact hcell z) (hk.imp id (fun e=>by rw [e]; rfl)) (by
   have:=List.length_pos_iff.2 h0
   rw [List.length_append]; omega)
  simpa only [OW,List.map_append,List.length_append,List.length_map] using h
def Q66 (P:Program) (T n:Nat):Bool:=
 match P.underlying T with
 | some (.array m e)=>m==n&&(Ym P e&&Zh P e 1)
 | _=>false
theorem Q66.out {P:Program} {T n:Nat} (h:Q66 P T n=true):∃ e,P.underlying T=some (.array n e)∧Ym P e=true∧Zh P e 1=true:=by
 unfold Q66 at h
 split at h
 ·rename_i m e h1
  simp only [Bool.and_eq_true,beq_iff_eq] at h
  obtain⟨rfl,h2,h3⟩:=h
  exact⟨_,h1,h2,h3⟩
 ·cases h
theorem Gce {x ix:Operand} {T n j:Nat} {kd:IntKind} {z:Int} {cs:List AV} (hT:Q66 P T n=true) (ho:o.op=.index T x ix) (hx:ev l x=.agg cs) (hi:ev l ix=.sc (.int kd z)) (hz:z=(j:Int)) (hjn:Nat.blt j n=true) (hn:cs[j]? = some u):H1 P o l L (Is u L):=
 Hq fun a w β _ hf=>by
  have h1:=hf.ev x
  rw [hx] at h1
  have h2:=hf.ev ix
  rw [hi] at h2
  obtain⟨vs,he,hl,hv⟩:=h1.inv_agg
  have hlt:j < vs.size:=by
   rw [hl]
   rcases Nat.lt_or_ge j cs.length with h | h
   ·exact h
   ·simp [List.getElem?_eq_none h] at hn
  obtain⟨e,g1,g2,g3⟩:=Q66.out hT
  have hs:=Qr g3 w
  have hjn':j < n:=by rw [Nat.blt_eq] at hjn; exact hjn
  have hb:(0:Int)≤(j:Int)∧(j:Int) < (n:Int):=by omega
  subst hz
  exact⟨vs[j],by simp [execOp,ho,Instr.index,asIntOf,underlying,g1,he,h2.inv_sc,hb,hs,asAgg,part,H08 g2,hlt]; intro hc; omega,hv j u _ hn (by simp [hlt])⟩
end ops
end Go.Proofs.YtecjdioomlhhiaaGreat
