/-
 What the functions return that range over maps: the order in which a map is ranged over does not matter. What iterators yield: lists,collected by models of the same shape. Iterators: places where ways meet,steps that are guarded,and calls of yield that are.
-/
import Derived.Test.YthcpolfodgjekaaGreatXA
import Derived.Test.YthcpolfodgjekaaGreatRangeF
set_option maxRecDepth 100000
namespace Go.Proofs.YthcpolfodgjekaaGreat
open Go.RowKit

theorem J7f (s:H2) (r:Bool):J05 r (Gd1 s (fun r_=>r_=r)) (H1b s):=by
 unfold Gd1 H1b
 refine Gae (fun _=>H29) (fun _=>?_)
 refine H2a (fun x i s nx nx' hnx=>?_) (fun s=>?_)
 ·refine rel_jp (fun K K' hK=>Gae (fun _=>hK _) (fun _=>hK _)) (fun j=>?_)
  refine G79 (fun v=>rel_chk (fun v=>G79 (fun q=>?_)))
  exact Gae (fun _=>H29) (fun _=>hnx _)
 ·refine H2a (fun x i s nx nx' hnx=>?_) (fun s=>?_)
  ·refine Gae (fun _=>H29) (fun _=>?_)
   refine H2a (fun x i s nx nx' hnx=>?_) (fun s=>hnx _)
   refine G79 (fun v=>G79 (fun v=>?_))
   exact Gae (fun _=>H29) (fun _=>G79 (fun v=>rel_chk (fun v=>hnx _)))
  ·exact rel_any (c:=fun x:Hf×Int=>decide (1 < x.2)) (e:=false) (e':=true)
abbrev G96:=H1b
def Q09:=PLift.up (Q13 G96 (fun s r h=>J7f s r h))
end Go.Proofs.YthcpolfodgjekaaGreat
set_option maxRecDepth 100000
namespace Go.Proofs.YthcpolfodgjekaaGreat
open Go.RowKit

def H45 {α:Type} (r l:List α) (m:Option Unit) (g:Option (List α)):Prop:=g=some r→l <+: r∧m=some ()

theorem Hf6 {α β:Type} {r l:List α} {o:Option β} {m:β→Option Unit} {g:β→Option (List α)} (h:∀ v,H45 r l (m v) (g v)):H45 r l (bnd o m) (bnd o g):=by
 cases o with
 | none=>intro e; cases e
 | some v=>exact h v
theorem col_need {α:Type} {r l:List α} {b:Bool} {m:Option Unit} {g:Option (List α)} (h:H45 r l m g):H45 r l (need b m) (need b g):=by
 cases b with
 | false=>intro e; cases e
 | true=>exact h
theorem Q01 {α β:Type} {r:List α} {b:β→Nat→Nat→(Nat→Option Unit)→Option Unit} {b':β→Nat→List α→(List α→Option (List α))→Option (List α)} {k:Nat→Option Unit} {k':List α→Option (List α)}
  (hb:∀ x i l nx nx',(∀ l',H45 r l' (nx l'.length) (nx' l'))→H45 r l (b x i l.length nx) (b' x i l nx')) (hk:∀ l,H45 r l (k l.length) (k' l)) (xs:List β):∀ (i:Nat) (l:List α),H45 r l (each b k xs i l.length) (each b' k' xs i l):=by
 induction xs with
 | nil=>intro i l; exact hk l
 | cons x xs ih=>intro i l; exact hb x i l _ _ (fun l'=>ih (i+1) l')
theorem col_upto {α:Type} {r:List α} {b:Nat→Nat→(Nat→Option Unit)→Option Unit} {b':Nat→List α→(List α→Option (List α))→Option (List α)} {k:Nat→Option Unit} {k':List α→Option (List α)}
  (hb:∀ i l nx nx',(∀ l',H45 r l' (nx l'.length) (nx' l'))→H45 r l (b i l.length nx) (b' i l nx')) (hk:∀ l,H45 r l (k l.length) (k' l)) (n:Nat):∀ (i:Nat) (l:List α),H45 r l (upto b k n i l.length) (upto b' k' n i l):=by
 induction n with
 | zero=>intro i l; exact hk l
 | succ n ih=>intro i l; exact hb i l _ _ (fun l'=>ih (i+1) l')
theorem col_yield {α:Type} [DecidableEq α] {r l:List α} {x:α} {m:Option Unit} {g:Option (List α)} (h:H45 r (l++[x]) m g):H45 r l (need (decide (r[l.length]? = some x)) m) g:=by
 intro e
 obtain⟨hp,hm⟩:=h e
 refine⟨(List.prefix_append l [x]).trans hp,?_⟩
 obtain⟨t,rfl⟩:=hp
 have:((l++[x])++t)[l.length]? = some x:=by simp
 unfold need; rw [decide_eq_true this]; exact hm
theorem col_end {α:Type} {r l:List α}:H45 r l (need (decide (l.length=r.length)) (some ())) (some l):=by
 intro e; cases e
 refine⟨List.prefix_refl _,?_⟩
 unfold need; rw [decide_eq_true rfl]; rfl
theorem col_out {α:Type} {r:List α} {m:Option Unit} {g:Option (List α)} (h:H45 r [] m g) (e:g=some r):m=some ():=(h e).2

def Hda (p1:H2) (p2:Int):Option (List Slot):=
 each (fun y2 i2 (s2:List Slot) nx2=>
  need (decide ((max y2.Tiers 0)≤9223372036854775807)) <|
  upto (fun i8 (s8:List Slot) nx8=>
   bnd (G55 p2) fun r14=>
   each (fun y29 _ (s29:List Slot) nx29=>nx29 (s29++[Slot.mk (i2:Int) (i8:Int) y29]))
   (fun(s29:List Slot)=>nx8 s29) r14 0 s8)
  (fun(s8:List Slot)=>nx2 s8) (max y2.Tiers 0).toNat 0 s2)
 (fun(s2:List Slot)=>some s2) p1.Columns 0 []
def J75:=PLift.up (J79 Hda (fun s size r h=>col_out (by
 unfold Gd0
 refine Q01 (fun y2 i2 s2 nx nx' hnx=>?_) (fun s=>col_end) _ 0 []
 refine col_need (col_upto (fun i8 s8 nx nx' hnx=>?_) (fun s=>hnx _) _ _ _)
 refine Hf6 (fun v=>?_)
 refine Q01 (fun y29 i29 s29 nx nx' hnx=>?_) (fun s=>hnx _) _ _ _
 refine col_yield ?_
 have:=hnx (s29++[Slot.mk (i2:Int) (i8:Int) y29])
 rw [List.length_append] at this
 exact this) h))
end Go.Proofs.YthcpolfodgjekaaGreat
set_option linter.unusedSimpArgs false
namespace Go.Proofs.YthcpolfodgjekaaGreat
open Go.RowKit

section code
variable {E:Hb5} {P:Program} {N:G4f} {Q:Gf4} {l:Fr} {L:Loc} {k:Nat}
theorem JI_seqJ {x y:Code} {X:Type} (I:X→Prop) (F:X→Fr) (M:X→Loc) (κ:X→Nat)
  (h1:∀ K:Fr→Loc→Nat→Prop,(∀ l L k' v,I v→Fits N.base l L (F v) (M v)→k'=κ v→K l L k')→JI E P N x (Q.seq K) l L k)
  (h2:∀ v,I v→JI E P N y Q (F v) (M v) (κ v)):JI E P N (.seq x y) Q l L k:=
 G09 fun K hK=>h1 K fun l L k' v hv hf hk=>hK l L k' (JI_fits hf (by subst hk; exact h2 v hv))
end code

section ops
variable {E:Hb5} {P:Program} {N:G4f} {ops:Array Oper} {o:Oper} {rest:List Oper} {Q:Gf4} {l:Fr} {L L':Loc} {u:AV} {k:Nat}
theorem Gb2 {j dj d:Nat} {want c:Bool} {gv:AV} (us:Fr) (hE:E.Ok P) (hg:o.guard=some (j,want)) (hj:(ops[j]?).bind (·.dst)=some dj) (hgv:look l dj=gv) (hgd:Hb1 gv want c) (hus:J0b c l us) (h:c=true→H4 P o (us++l) L (Is u L)) (hk:JIL E P N ops rest Q ((d,.opt c u)::l) L k)
  (hjn:Nat.blt dj N.n=true:=by rfl) (hd:o.dst=some d:=by rfl) (hn:Nat.blt d N.n=true:=by rfl) (hnd:G67 o=true:=by rfl) :
  JIL E P N ops (o::rest) Q l L k:=by
 subst hgv
 intro n a w β hs
 have hw:=hgd.wanted (ops:=ops) hs.frame (Nat.lt_of_lt_of_le (by simpa [Nat.blt_eq] using hjn) hs.size) hg hj
 have hlt:d < a.tmps.size:=Nat.lt_of_lt_of_le (by simpa [Nat.blt_eq] using hn) hs.size
 refine wpListIn_step fun K hK=>?_
 rw [hw]
 cases c with
 | true=>
  rw [if_pos rfl]
  refine H1e hnd (h rfl a w β K _ hs.sat (hs.frame.un hus) ?_)
  intro u' L'' v w' β' hr hsat hst hv
  obtain⟨rfl,rfl⟩:=hr
  rw [hd]
  exact hK _ _ (hk n _ w' β' (hs.step hE hst hsat ((hs.frame.step hst).put hlt (.opt (fun _=>hv) (fun e=>by cases e))) (Act.put_size ..) (Act.put_defers' ..)))
 | false=>
  rw [if_neg (by simp),hd]
  exact⟨fun _ _=>trivial,hK _ _ (hk n _ w β ⟨hs.sat,hs.frame.put hlt (.opt (fun e=>by cases e) (fun _=>rfl)),by rw [Act.put_size]; exact hs.size,by rw [Act.put_defers']; exact hs.defers,hs.old,hs.own,hs.gh,hs.vis⟩)⟩
theorem Qba {j dj d:Nat} {want c:Bool} {gv:AV} {x:Operand} {xs:List Operand} {us:List AV} {ts:Array TypeId} (hE:E.Ok P) (ho:o.op=.call { callee:=.value x,args:=xs.toArray,argTypes:=ts }) 
  (hg:o.guard=some (j,want)) (hj:(ops[j]?).bind (·.dst)=some dj) (hgv:look l dj=gv) (hgd:Hb1 gv want c)
  (us0:Fr) (hus:J0b c l us0) (hx:c=true→ev (us0++l) x=.sc (.func (.yield E.lp) #[] #[])) (ha:c=true→J58 (us0++l) xs us) (hy:c=true→E.ys[k]? = some us) (hk:JIL E P N ops rest Q ((d,.opt c (BL true))::l) L (bif c then k+1 else k)) (hjn:Nat.blt dj N.n=true) (hd:o.dst=some d) (hn:Nat.blt d N.n=true):JIL E P N ops (o::rest) Q l L k:=by
 subst hgv
 intro n a w β hs
 have hw:=hgd.wanted (ops:=ops) hs.frame (Nat.lt_of_lt_of_le (by simpa [Nat.blt_eq] using hjn) hs.size) hg hj
 have hlt:d < a.tmps.size:=Nat.lt_of_lt_of_le (by simpa [Nat.blt_eq] using hn) hs.size
 refine wpListIn_step fun K hK=>?_
 rw [hw]
 cases c with
 | false=>
  rw [if_neg (by simp),hd]
  exact⟨fun _ _=>trivial,hK _ _ (hk n _ w β ⟨hs.sat,hs.frame.put hlt (.opt (fun e=>by cases e) (fun _=>rfl)),by rw [Act.put_size]; exact hs.size,by rw [Act.put_defers']; exact hs.defers,hs.old,hs.own,hs.gh,hs.vis⟩)⟩
 | true=>
 rw [if_pos rfl]
 have ha:=ha rfl
 have hfr:=hs.frame.un hus
 obtain⟨X,T,hJ,hX,hT⟩:=hs.gh
 have hv:=hfr.ev x
 rw [hx rfl] at hv
 have hxe:=hv.inv_sc
 obtain⟨fn,tmps,assign,body,hr,hR⟩:=hE.round (n - 1) k us X T (fun b i=>T b i∨(E.W0.heap.size≤b∧Q6 w β L b i)) w (xs.toArray.map a.eval) (hy rfl) hJ (fun b i h=>.inl h) (fun b i h hn=>h.elim (fun h=>(hn h).elim) fun h=>⟨h.1,fun hx=>h.2.seen ((hX b hx).2 i),h.2.lt⟩) (by simp [ha.length]) (fun j u v hu hv=>by
  simp only [Array.getElem?_map,List.getElem?_toArray,Option.map_eq_some_iff] at hv
  obtain⟨y,hy,rfl⟩:=hv
  obtain⟨h1,h2⟩:=ha.get hy hu
  have:=hfr.ev y
  rw [h1] at this
  exact(this.toD h2).mono fun b i hs'=>⟨(Nat.lt_or_ge b E.W0.heap.size).elim (fun h=>.inl (hs.vis b i h hs'.seen)) (fun h=>.inr (.inr ⟨h,hs'⟩)),rfl⟩)
 refine⟨fun _ _=>trivial,?_⟩
 have hrun:(execOp a.eval o).run P w=.ok (.round E.lp fn tmps assign body) w:=by
  have h0:(execOp a.eval o).run P w=(Instr.yield E.lp (xs.toArray.map a.eval)).run P w:=by
   simp [execOp,ho,resolve,hxe,Deferred.ofValue,invoke]
   done
  rw [h0,hr]
 rw [show o.semAt Fence.wide.round a.eval=execOp a.eval o from rfl,hrun,Oper.uponIn_round]
 refine⟨fun e=>(by cases e),hR.mono fun e w' h=>?_⟩
 obtain⟨rfl,X',hJ',ht,hX',hlt'⟩:=h
 have hTs:∀ b i,(T b i∨(E.W0.heap.size≤b∧Q6 w β L b i))→Q6 w β L b i:=fun b i h=>h.elim (hT b i) (·.2)
 obtain⟨h1,h2,h3⟩:=StI.round (T:=fun _ _=>False) hs.sat (fun b h=>⟨(hX b h).1,fun i _=>(hX b h).2 i⟩) (fun id b h1 h2 hx=>hs.sat.apart id b 0 h1 h2 ((hX b hx).2 0)) ht (fun _ _ h=>h.elim) hX' hlt'
 rw [hd]
 refine hK _ _ (hk n _ w' _ ⟨h1,(hs.frame.stepW h2).put hlt (.opt (fun _=>.sc) (fun e=>by cases e)),by rw [Act.put_size]; exact hs.size,by rw [Act.put_defers']; exact hs.defers,Nat.le_trans hs.old ht.size,hs.own,⟨X',_,hJ',fun b h=>⟨(h3 b h).1,fun i=>(h3 b h).2 i id⟩,fun b i h=>(h2.stab b i (hTs b i h)).1⟩,fun b i hb hn=>hs.vis b i hb fun h=>hn (.inl h)⟩)
theorem yld_atG {α:Type} [DecidableEq α] {f:α→List AV} {ys:List α} {x:α} {c:Bool} (hys:E.ys=ys.map f) (h:((!c)||decide (ys[k]? = some x))=true):c=true→E.ys[k]? = some (f x):=fun hc=>by
 subst hc
 exact yld_at (E:=E) (k:=k) hys (by simpa using h)
end ops

/-! ### A slice of one's own that is begun anew -/
theorem Je5 {w:World} {β:H7} {L:Loc} {i E k g hw:Nat} (hi:lk L i=some (.spare E k g hw)):Step w β L w (Q5 β i none) ((i,.spare E k (g+1) 0)::L):=by
 refine⟨rfl,rfl,⟨rfl,Nat.le_refl _⟩,Nat.le_refl _,fun _ _ _=>Iff.rfl,fun b j hs=>⟨⟨hs.lt,hs.seen,fun id ob hid hb=>?_⟩,rfl⟩,fun b hb hfar=>⟨rfl,fun id hid e=>?_⟩,fun id t cs hid=>?_,fun id t cs hid=>?_,fun id t n cs hid=>?_,fun id t k' ver xs hid=>?_,fun id t k' ver hw' hid=>?_⟩
 ·rw [Gs] at hid
  by_cases e:i=id
  ·subst e; simp [Q5] at hb
  ·rw [if_neg e] at hid; simp only [Q5,if_neg (Ne.symm e)] at hb; exact hs.kept id ob hid hb
 ·rw [Gs] at hid
  by_cases e':i=id
  ·subst e'; simp [Q5] at e
  ·rw [if_neg e'] at hid; simp only [Q5,if_neg (Ne.symm e')] at e; exact hfar id hid e
 ·have e:i≠id:=fun e=>by subst e; rw [hi] at hid; cases hid
  exact⟨by simp [Q5,Ne.symm e],cs,by rw [Gs,if_neg e]; exact hid⟩
 ·have e:i≠id:=fun e=>by subst e; rw [hi] at hid; cases hid
  exact⟨by simp [Q5,Ne.symm e],cs,by rw [Gs,if_neg e]; exact hid⟩
 ·have e:i≠id:=fun e=>by subst e; rw [hi] at hid; cases hid
  exact⟨by simp [Q5,Ne.symm e],n,cs,by rw [Gs,if_neg e]; exact hid⟩
 ·have e:i≠id:=fun e=>by subst e; rw [hi] at hid; cases hid
  exact⟨ver,xs,by rw [Gs,if_neg e]; exact hid,Nat.le_refl _,fun _=>⟨rfl,by simp [Q5,Ne.symm e],fun _ _=>rfl⟩⟩
 ·by_cases e:i=id
  ·subst e
   rw [hi] at hid; cases hid
   exact⟨g+1,0,by rw [Gs,if_pos rfl],Nat.le_succ _,fun h=>by omega⟩
  ·exact⟨ver,hw',by rw [Gs,if_neg e]; exact hid,Nat.le_refl _,fun _=>⟨rfl,by simp [Q5,Ne.symm e],fun _ _=>rfl⟩⟩
theorem sat_reset {w:World} {β:H7} {L:Loc} {i E k g hw:Nat} (hsat:Sat w β L) (hi:lk L i=some (.spare E k g hw)):Sat w (Q5 β i none) ((i,.spare E k (g+1) 0)::L):=by
 have hs:=(Je5 (w:=w) (β:=β) hi).weak
 have hin:∀ id,i≠id→(lk ((i,Jn.spare E k (g+1) 0)::L) id)=lk L id:=fun id e=>by rw [Gs,if_neg e]
 refine⟨hsat.hid,fun id b hid hb=>?_,fun id b j hid hb=>?_,fun id id' b h1 h2 h3 h4=>?_,fun id ob hid=>?_⟩
 ·by_cases e:i=id
  ·subst e; simp [Q5] at hb
  ·rw [hin id e] at hid; simp only [Q5,if_neg (Ne.symm e)] at hb; exact hsat.bnd id b hid hb
 ·by_cases e:i=id
  ·subst e; simp [Q5] at hb
  ·rw [hin id e] at hid; simp only [Q5,if_neg (Ne.symm e)] at hb; exact hsat.apart id b j hid hb
 ·by_cases e:i=id
  ·subst e; simp [Q5] at h3
  ·by_cases e':i=id'
   ·subst e'; simp [Q5] at h4
   ·rw [hin id e] at h1; rw [hin id' e'] at h2
    simp only [Q5,if_neg (Ne.symm e)] at h3; simp only [Q5,if_neg (Ne.symm e')] at h4
    exact hsat.inj id id' b h1 h2 h3 h4
 ·by_cases e:i=id
  ·subst e
   rw [Gs,if_pos rfl] at hid; cases hid
   exact .inl ⟨by simp [Q5],rfl⟩
  ·rw [hin id e] at hid
   have:=(hsat.obj id ob hid).stepW hs (fun b hb=>rfl)
   have eb:(Q5 β i none) id=β id:=by simp [Q5,Ne.symm e]
   rw [eb]; exact this
theorem Y6.resetCell {N:G4f} {w0 w:World} {β0 β:H7} {L0 L:Loc} {a:Act} {l:Fr} (hs:Y6 N w0 β0 L0 a w β l L) (i j id E k g:Nat) {hw:Nat} {t:TypeId} {cs cs':List AV} (hi:lk L i=some (.box t cs)) (hid:lk L id=some (.spare E k g hw)) (hj:cs[j]? = some (.sc (.slice none 0 0)))
  (hcs:cs.set j (.own id (g+1) k [])=cs'):∃ β',Y6 N w0 β0 L0 a w β' l ((i,.box t cs')::(id,.spare E k (g+1) 0)::L):=by
 have st:=Je5 (w:=w) (β:=β) hid
 have h1:Y6 N w0 β0 L0 a w (Q5 β id none) l ((id,.spare E k (g+1) 0)::L):=⟨sat_reset hs.sat hid,hs.step.trans st,hs.frame.step st,hs.size,hs.base,hs.defers.step st⟩
 have hne:id≠i:=fun e=>by subst e; rw [hi] at hid; cases hid
 refine⟨_,h1.redescribe (i:=i) (t:=t) (cs:=cs) (by rw [Gs,if_neg hne]; exact hi) (by rw [← hcs]; simp) fun vs q u v hall hsz hu hv=>?_⟩
 rw [← hcs] at hu
 by_cases e:j=q
 ·subst e
  have hjl:j < cs.length:=(List.getElem?_eq_some_iff.1 hj).1
  simp [List.getElem?_set,hjl] at hu
  subst hu
  have:=hall j _ v hj hv
  rw [this.inv_sc]
  exact .own (.nil (Nat.zero_le _)) ⟨E,g+1,0,by rw [Gs,if_pos rfl],Nat.le_refl _,fun _=>⟨rfl,by simp [Value.ownBlock,Q5],[],⟨by simp,.inl ⟨rfl,rfl⟩⟩,fun j u hu=>by simp [flat] at hu⟩⟩
 ·rw [List.getElem?_set_ne e] at hu
  exact hall q u v hu hv
theorem Q78 {P:Program} {N:G4f} {ops:Array Oper} {rest:List Oper} {Q:Post} {l:Fr} {L:Loc} (i j id E k g:Nat) {hw:Nat} {t:TypeId} {cs cs':List AV} (hi:lk L i=some (.box t cs)) (hid:lk L id=some (.spare E k g hw)) (hj:cs[j]? = some (.sc (.slice none 0 0)))
  (hcs:cs.set j (.own id (g+1) k [])=cs') (hk:JL P N ops rest Q l ((i,.box t cs')::(id,.spare E k (g+1) 0)::L)):JL P N ops rest Q l L:=
 fun n w0 β0 L0 a w β hs=>by
  obtain⟨β',h⟩:=hs.resetCell i j id E k g hi hid hj hcs
  exact hk n w0 β0 L0 a w β' h
section mem
variable {P:Program} {o:Oper} {l:Fr} {L:Loc}
theorem A_appendG {α:Type} {g:Nat} {s x:Operand} {T E k by_ i kx:Nat} {f:α→AV} {xs ys:List α} (ho:o.op=.call { callee:=.builtin .append,args:=#[s,x],argTypes:=#[T,T] }) (hs:ev l s=.own i g k (xs.map f)) (hi:lk L i=some (.spare E k g xs.length)) (hx:Qe (ev l x)=some (kx,ys.map f))
  (hT:sliceB P T E k=true) (hE:Z5 P E k by_=true) (hb:decide ((xs.length+ys.length)*by_≤140737488355328∧xs.length+ys.length≤maxLen)=true) (hcell:∀ y,(f y).flatOk=true) (hk:kx=k∨ys=[]) :
  H4 P o l L (Is (.own i (g+1) k ((xs++ys).map f)) ((i,.spare E k (g+1) (xs++ys).length)::L)):=by
 have hb':=of_decide_eq_true hb
 have h:=Q81 (xs:=xs.map f) (ys:=ys.map f) ho hs hi hx hT hE (by simpa using hb'.1) (by simpa using hb'.2) (fun y hy=>by
  obtain⟨z,_,rfl⟩:=List.mem_map.1 hy
  exact hcell z) (hk.imp id (fun e=>by rw [e]; rfl))
 simpa only [List.map_append,List.length_append,List.length_map] using h
end mem
end Go.Proofs.YthcpolfodgjekaaGreat
