/-
 What the functions return that range over maps: the order in which a map is ranged over does not matter. What iterators yield: lists,collected by models of the same shape. Iterators: places where ways meet,steps that are guarded,and calls of yield that are.
-/
import Derived.Test.YthcpolfodgjekaaGreatXA
import Derived.Test.YthcpolfodgjekaaGreatLent
set_option maxRecDepth 100000
namespace Go.Proofs.YthcpolfodgjekaaGreat
open Go.RowKit

theorem Jaf (s:H0) (r:Bool):Rel r (Gfa s (fun r_=>r_=r)) (H4c s):=by
 unfold Gfa H4c
 refine Gcb (fun _=>H5c) (fun _=>?_)
 refine H5d (fun x i s nx nx' hnx=>?_) (fun s=>?_)
 ·refine Y17 (fun K K' hK=>Gcb (fun _=>hK _) (fun _=>hK _)) (fun j=>?_)
  refine G8d (fun v=>Qc4 (fun v=>G8d (fun q=>?_)))
  exact Gcb (fun _=>H5c) (fun _=>hnx _)
 ·refine H5d (fun x i s nx nx' hnx=>?_) (fun s=>?_)
  ·refine Gcb (fun _=>H5c) (fun _=>?_)
   refine H5d (fun x i s nx nx' hnx=>?_) (fun s=>hnx _)
   refine G8d (fun v=>G8d (fun v=>?_))
   exact Gcb (fun _=>H5c) (fun _=>G8d (fun v=>Qc4 (fun v=>hnx _)))
  ·exact Y48 (c:=fun x:Hn×Int=>decide (1 < x.2)) (e:=false) (e':=true)
abbrev Gb0:=H4c
def Q51:=PLift.up (Q5b Gb0 (fun s r h=>Jaf s r h))

def H75 {α:Type} (r l:List α) (m:Option Unit) (g:Option (List α)):Prop:=g=some r→l <+: r∧m=some ()

theorem J21 {α β:Type} {r l:List α} {o:Option β} {m:β→Option Unit} {g:β→Option (List α)} (h:∀ v,H75 r l (m v) (g v)):H75 r l (bnd o m) (bnd o g):=by
 cases o with
 | none=>intro e; cases e
 | some v=>exact h v
theorem Y2e {α:Type} {r l:List α} {b:Bool} {m:Option Unit} {g:Option (List α)} (h:H75 r l m g):H75 r l (need b m) (need b g):=by
 cases b with
 | false=>intro e; cases e
 | true=>exact h
theorem Q45 {α β:Type} {r:List α} {b:β→Nat→Nat→(Nat→Option Unit)→Option Unit} {b':β→Nat→List α→(List α→Option (List α))→Option (List α)} {k:Nat→Option Unit} {k':List α→Option (List α)}
  (hb:∀ x i l nx nx',(∀ l',H75 r l' (nx l'.length) (nx' l'))→H75 r l (b x i l.length nx) (b' x i l nx')) (hk:∀ l,H75 r l (k l.length) (k' l)) (xs:List β):∀ (i:Nat) (l:List α),H75 r l (each b k xs i l.length) (each b' k' xs i l):=by
 induction xs with
 | nil=>intro i l; exact hk l
 | cons x xs ih=>intro i l; exact hb x i l _ _ (fun l'=>ih (i+1) l')
theorem Y2d {α:Type} {r:List α} {b:Nat→Nat→(Nat→Option Unit)→Option Unit} {b':Nat→List α→(List α→Option (List α))→Option (List α)} {k:Nat→Option Unit} {k':List α→Option (List α)}
  (hb:∀ i l nx nx',(∀ l',H75 r l' (nx l'.length) (nx' l'))→H75 r l (b i l.length nx) (b' i l nx')) (hk:∀ l,H75 r l (k l.length) (k' l)) (n:Nat):∀ (i:Nat) (l:List α),H75 r l (upto b k n i l.length) (upto b' k' n i l):=by
 induction n with
 | zero=>intro i l; exact hk l
 | succ n ih=>intro i l; exact hb i l _ _ (fun l'=>ih (i+1) l')
theorem Qae {α:Type} [DecidableEq α] {r l:List α} {x:α} {m:Option Unit} {g:Option (List α)} (h:H75 r (l++[x]) m g):H75 r l (need (decide (r[l.length]? = some x)) m) g:=by
 intro e
 obtain⟨hp,hm⟩:=h e
 refine⟨(List.prefix_append l [x]).trans hp,?_⟩
 obtain⟨t,rfl⟩:=hp
 have:((l++[x])++t)[l.length]? = some x:=by simp
 unfold need; rw [Kf this]; exact hm
theorem Rc2 {α:Type} {r l:List α}:H75 r l (need (decide (l.length=r.length)) (some ())) (some l):=by
 intro e; cases e
 refine⟨List.prefix_refl _,?_⟩
 unfold need; rw [Kf rfl]; rfl
theorem Rc1 {α:Type} {r:List α} {m:Option Unit} {g:Option (List α)} (h:H75 r [] m g) (e:g=some r):m=some ():=(h e).2

def Gf2 (p1:H0) (p2:Int):Option (List Slot):=
 each (fun y2 i2 (s2:List Slot) nx2=>
  need (decide ((max y2.Tiers 0)≤9223372036854775807)) <|
  upto (fun i8 (s8:List Slot) nx8=>
   bnd (G6b p2) fun r14=>
   each (fun y29 _ (s29:List Slot) nx29=>nx29 (s29++[Slot.mk (i2:Int) (i8:Int) y29]))
   (fun(s29:List Slot)=>nx8 s29) r14 0 s8)
  (fun(s8:List Slot)=>nx2 s8) (max y2.Tiers 0).toNat 0 s2)
 (fun(s2:List Slot)=>some s2) p1.Columns 0 []
def Ja5:=PLift.up (Jaa Gf2 (fun s size r h=>Rc1 (by
 unfold Gf9
 refine Q45 (fun y2 i2 s2 nx nx' hnx=>?_) (fun s=>Rc2) _ 0 []
 refine Y2e (Y2d (fun i8 s8 nx nx' hnx=>?_) (fun s=>hnx _) _ _ _)
 refine J21 (fun v=>?_)
 refine Q45 (fun y29 i29 s29 nx nx' hnx=>?_) (fun s=>hnx _) _ _ _
 refine Qae ?_
 have:=hnx (s29++[Slot.mk (i2:Int) (i8:Int) y29])
 rw [Ko] at this
 exact this) h))
set_option linter.unusedSimpArgs false

section code
variable {E:Hdd} {P:Program} {N:Cfg} {Q:H23} {l:Fr} {L:Loc} {k:Nat}
theorem Y5e {x y:Code} {X:Type} (I:X→Prop) (F:X→Fr) (M:X→Loc) (κ:X→Nat)
  (h1:∀ K:Fr→Loc→Nat→Prop,(∀ l L k' v,I v→Fits N.base l L (F v) (M v)→k'=κ v→K l L k')→JI E P N x (Q.seq K) l L k)
  (h2:∀ v,I v→JI E P N y Q (F v) (M v) (κ v)):JI E P N (.seq x y) Q l L k:=
 G22 fun K hK=>h1 K fun l L k' v hv hf hk=>hK l L k' (Y60 hf (by subst hk; exact h2 v hv))
end code

section ops
variable {E:Hdd} {P:Program} {N:Cfg} {ops:Array Oper} {o:Oper} {rest:List Oper} {Q:H23} {l:Fr} {L L':Loc} {u:AV} {k:Nat}
theorem Gcf {j dj d:Nat} {want c:Bool} {gv:AV} (us:Fr) (hE:E.Ok P) (hg:o.guard=some (j,want)) (hj:(ops[j]?).bind (·.dst)=some dj) (hgv:look l dj=gv) (hgd:Hd9 gv want c) (hus:J37 c l us) (h:c=true→H5 P o (us++l) L (Is u L)) (hk:JIL E P N ops rest Q ((d,.opt c u)::l) L k)
  (hjn:Nat.blt dj N.n=true:=by rfl) (hd:o.dst=some d:=by rfl) (hn:Nat.blt d N.n=true:=by rfl) (hnd:G77 o=true:=by rfl) :
  JIL E P N ops (o::rest) Q l L k:=by
 subst hgv
 intro n a w β hs
 have hw:=hgd.wanted (ops:=ops) hs.frame (Nat.lt_of_lt_of_le (by simpa [Nat.blt_eq] using hjn) hs.size) hg hj
 have hlt:d < a.tmps.size:=Nat.lt_of_lt_of_le (by simpa [Nat.blt_eq] using hn) hs.size
 refine wpListIn_step fun K hK=>?_
 rw [hw]
 cases c with
 | true=>
  rw [if_pos rfl]
  refine H4f hnd (h rfl a w β K _ hs.sat (hs.frame.un hus) ?_)
  intro u' L'' v w' β' hr hsat hst hv
  obtain⟨rfl,rfl⟩:=hr
  rw [hd]
  exact hK _ _ (hk n _ w' β' (hs.step hE hst hsat ((hs.frame.step hst).put hlt (.opt (fun _=>hv) (fun e=>by cases e))) (Act.put_size ..) (Act.put_defers' ..)))
 | false=>
  rw [if_neg (by simp),hd]
  exact⟨fun _ _=>trivial,hK _ _ (hk n _ w β ⟨hs.sat,hs.frame.put hlt (.opt (fun e=>by cases e) (fun _=>rfl)),by rw [Act.put_size]; exact hs.size,by rw [Act.put_defers']; exact hs.defers,hs.old,hs.own,hs.gh,hs.vis⟩)⟩
theorem R9c {j dj d:Nat} {want c:Bool} {gv:AV} {x:Operand} {xs:List Operand} {us:List AV} {ts:Array TypeId} (hE:E.Ok P) (ho:o.op=.call { callee:=.value x,args:=xs.toArray,argTypes:=ts }) 
  (hg:o.guard=some (j,want)) (hj:(ops[j]?).bind (·.dst)=some dj) (hgv:look l dj=gv) (hgd:Hd9 gv want c)
  (us0:Fr) (hus:J37 c l us0) (hx:c=true→ev (us0++l) x=.sc (.func (.yield E.lp) #[] #[])) (ha:c=true→J8a (us0++l) xs us) (hy:c=true→E.ys[k]? = some us) (hk:JIL E P N ops rest Q ((d,.opt c (BL true))::l) L (bif c then k+1 else k)) (hjn:Nat.blt dj N.n=true) (hd:o.dst=some d) (hn:Nat.blt d N.n=true):JIL E P N ops (o::rest) Q l L k:=by
 subst hgv
 intro n a w β hs
 have hw:=hgd.wanted (ops:=ops) hs.frame (Nat.lt_of_lt_of_le (by simpa [Nat.blt_eq] using hjn) hs.size) hg hj
 have hlt:d < a.tmps.size:=Nat.lt_of_lt_of_le (by simpa [Nat.blt_eq] using hn) hs.size
 refine wpListIn_step fun K hK=>?_
 rw [hw]
 cases c with
 | false=>
  rw [if_neg (by simp),hd]
  exact⟨fun _ _=>trivial,hK _ _ (hk n _ w β ⟨hs.sat,hs.frame.put hlt (.opt (fun e=>by cases e) (fun _=>rfl)),by rw [Act.put_size]; exact hs.size,by rw [Act.put_defers']; exact hs.defers,hs.old,hs.own,hs.gh,hs.vis⟩)⟩
 | true=>
 rw [if_pos rfl]
 have ha:=ha rfl
 have hfr:=hs.frame.un hus
 obtain⟨X,T,hJ,hX,hT⟩:=hs.gh
 have hv:=hfr.ev x
 rw [hx rfl] at hv
 have hxe:=hv.inv_sc
 obtain⟨fn,tmps,assign,body,hr,hR⟩:=hE.round (n - 1) k us X T (fun b i=>T b i∨(E.W0.heap.size≤b∧Qd w β L b i)) w (xs.toArray.map a.eval) (hy rfl) hJ (fun b i h=>.inl h) (fun b i h hn=>h.elim (fun h=>(hn h).elim) fun h=>⟨h.1,fun hx=>h.2.seen ((hX b hx).2 i),h.2.lt⟩) (by simp [ha.length]) (fun j u v hu hv=>by
  simp only [Array.getElem?_map,List.getElem?_toArray,Option.map_eq_some_iff] at hv
  obtain⟨y,hy,rfl⟩:=hv
  obtain⟨h1,h2⟩:=ha.get hy hu
  have:=hfr.ev y
  rw [h1] at this
  exact(this.toD h2).mono fun b i hs'=>⟨(Nat.lt_or_ge b E.W0.heap.size).elim (fun h=>.inl (hs.vis b i h hs'.seen)) (fun h=>.inr (.inr ⟨h,hs'⟩)),rfl⟩)
 refine⟨fun _ _=>trivial,?_⟩
 have hrun:(execOp a.eval o).run P w=.ok (.round E.lp fn tmps assign body) w:=by
  have h0:(execOp a.eval o).run P w=(Instr.yield E.lp (xs.toArray.map a.eval)).run P w:=by
   simp [execOp,ho,resolve,hxe,Deferred.ofValue,invoke]
   done
  rw [h0,hr]
 rw [show o.semAt Fence.wide.round a.eval=execOp a.eval o from rfl,hrun,Oper.uponIn_round]
 refine⟨fun e=>(by cases e),hR.mono fun e w' h=>?_⟩
 obtain⟨rfl,X',hJ',ht,hX',hlt'⟩:=h
 have hTs:∀ b i,(T b i∨(E.W0.heap.size≤b∧Qd w β L b i))→Qd w β L b i:=fun b i h=>h.elim (hT b i) (·.2)
 obtain⟨h1,h2,h3⟩:=StI.round (T:=fun _ _=>False) hs.sat (fun b h=>⟨(hX b h).1,fun i _=>(hX b h).2 i⟩) (fun id b h1 h2 hx=>hs.sat.apart id b 0 h1 h2 ((hX b hx).2 0)) ht (fun _ _ h=>h.elim) hX' hlt'
 rw [hd]
 refine hK _ _ (hk n _ w' _ ⟨h1,(hs.frame.stepW h2).put hlt (.opt (fun _=>.sc) (fun e=>by cases e)),by rw [Act.put_size]; exact hs.size,by rw [Act.put_defers']; exact hs.defers,Nat.le_trans hs.old ht.size,hs.own,⟨X',_,hJ',fun b h=>⟨(h3 b h).1,fun i=>(h3 b h).2 i id⟩,fun b i h=>(h2.stab b i (hTs b i h)).1⟩,fun b i hb hn=>hs.vis b i hb fun h=>hn (.inl h)⟩)
theorem Y42 {α:Type} [DecidableEq α] {f:α→List AV} {ys:List α} {x:α} {c:Bool} (hys:E.ys=ys.map f) (h:((!c)||decide (ys[k]? = some x))=true):c=true→E.ys[k]? = some (f x):=fun hc=>by
 subst hc
 exact Y0d (E:=E) (k:=k) hys (by simpa using h)
end ops

/-! ### A slice of one's own that is begun anew -/
theorem Q1f {w:World} {β:Hd} {L:Loc} {i E k g hw:Nat} (hi:lk L i=some (.spare E k g hw)):Step w β L w (upP β i none) ((i,.spare E k (g+1) 0)::L):=by
 refine⟨rfl,rfl,⟨rfl,Kn⟩,Kn,fun _ _ _=>Iff.rfl,fun b j hs=>⟨⟨hs.lt,hs.seen,fun id ob hid hb=>?_⟩,rfl⟩,fun b hb hfar=>⟨rfl,fun id hid e=>?_⟩,fun id t cs hid=>?_,fun id t cs hid=>?_,fun id t n cs hid=>?_,fun id t k' ver xs hid=>?_,fun id t k' ver hw' hid=>?_⟩
 ·rw [Gs] at hid
  by_cases e:i=id
  ·subst e; simp [upP] at hb
  ·rw [if_neg e] at hid; simp only [upP,if_neg (Ne.symm e)] at hb; exact hs.kept id ob hid hb
 ·rw [Gs] at hid
  by_cases e':i=id
  ·subst e'; simp [upP] at e
  ·rw [if_neg e'] at hid; simp only [upP,if_neg (Ne.symm e')] at e; exact hfar id hid e
 ·have e:i≠id:=fun e=>by subst e; rw [hi] at hid; cases hid
  exact⟨by simp [upP,Ne.symm e],cs,by rw [Gs,if_neg e]; exact hid⟩
 ·have e:i≠id:=fun e=>by subst e; rw [hi] at hid; cases hid
  exact⟨by simp [upP,Ne.symm e],cs,by rw [Gs,if_neg e]; exact hid⟩
 ·have e:i≠id:=fun e=>by subst e; rw [hi] at hid; cases hid
  exact⟨by simp [upP,Ne.symm e],n,cs,by rw [Gs,if_neg e]; exact hid⟩
 ·have e:i≠id:=fun e=>by subst e; rw [hi] at hid; cases hid
  exact⟨ver,xs,by rw [Gs,if_neg e]; exact hid,Kn,fun _=>⟨rfl,by simp [upP,Ne.symm e],fun _ _=>rfl⟩⟩
 ·by_cases e:i=id
  ·subst e
   rw [hi] at hid; cases hid
   exact⟨g+1,0,by rw [Gs,if_pos rfl],Nat.le_succ _,fun h=>by omega⟩
  ·exact⟨ver,hw',by rw [Gs,if_neg e]; exact hid,Kn,fun _=>⟨rfl,by simp [upP,Ne.symm e],fun _ _=>rfl⟩⟩
theorem Re2 {w:World} {β:Hd} {L:Loc} {i E k g hw:Nat} (hsat:Sat w β L) (hi:lk L i=some (.spare E k g hw)):Sat w (upP β i none) ((i,.spare E k (g+1) 0)::L):=by
 have hs:=(Q1f (w:=w) (β:=β) hi).weak
 have hin:∀ id,i≠id→(lk ((i,Jt.spare E k (g+1) 0)::L) id)=lk L id:=fun id e=>by rw [Gs,if_neg e]
 refine⟨hsat.hid,fun id b hid hb=>?_,fun id b j hid hb=>?_,fun id id' b h1 h2 h3 h4=>?_,fun id ob hid=>?_⟩
 ·by_cases e:i=id
  ·subst e; simp [upP] at hb
  ·rw [hin id e] at hid; simp only [upP,if_neg (Ne.symm e)] at hb; exact hsat.bnd id b hid hb
 ·by_cases e:i=id
  ·subst e; simp [upP] at hb
  ·rw [hin id e] at hid; simp only [upP,if_neg (Ne.symm e)] at hb; exact hsat.apart id b j hid hb
 ·by_cases e:i=id
  ·subst e; simp [upP] at h3
  ·by_cases e':i=id'
   ·subst e'; simp [upP] at h4
   ·rw [hin id e] at h1; rw [hin id' e'] at h2
    simp only [upP,if_neg (Ne.symm e)] at h3; simp only [upP,if_neg (Ne.symm e')] at h4
    exact hsat.inj id id' b h1 h2 h3 h4
 ·by_cases e:i=id
  ·subst e
   rw [Gs,if_pos rfl] at hid; cases hid
   exact .inl ⟨by simp [upP],rfl⟩
  ·rw [hin id e] at hid
   have:=(hsat.obj id ob hid).stepW hs (fun b hb=>rfl)
   have eb:(upP β i none) id=β id:=by simp [upP,Ne.symm e]
   rw [eb]; exact this
theorem Ys.resetCell {N:Cfg} {w0 w:World} {β0 β:Hd} {L0 L:Loc} {a:Act} {l:Fr} (hs:Ys N w0 β0 L0 a w β l L) (i j id E k g:Nat) {hw:Nat} {t:TypeId} {cs cs':List AV} (hi:lk L i=some (.box t cs)) (hid:lk L id=some (.spare E k g hw)) (hj:cs[j]? = some (.sc (.slice none 0 0)))
  (hcs:cs.set j (.own id (g+1) k [])=cs'):∃ β',Ys N w0 β0 L0 a w β' l ((i,.box t cs')::(id,.spare E k (g+1) 0)::L):=by
 have st:=Q1f (w:=w) (β:=β) hid
 have h1:Ys N w0 β0 L0 a w (upP β id none) l ((id,.spare E k (g+1) 0)::L):=⟨Re2 hs.sat hid,hs.step.trans st,hs.frame.step st,hs.size,hs.base,hs.defers.step st⟩
 have hne:id≠i:=fun e=>by subst e; rw [hi] at hid; cases hid
 refine⟨_,h1.redescribe (i:=i) (t:=t) (cs:=cs) (by rw [Gs,if_neg hne]; exact hi) (by rw [← hcs]; simp) fun vs q u v hall hsz hu hv=>?_⟩
 rw [← hcs] at hu
 by_cases e:j=q
 ·subst e
  have hjl:j < cs.length:=(Kh hj).1
  simp [List.getElem?_set,hjl] at hu
  subst hu
  have:=hall j _ v hj hv
  rw [this.inv_sc]
  exact .own (.nil (Nat.zero_le _)) ⟨E,g+1,0,by rw [Gs,if_pos rfl],Kn,fun _=>⟨rfl,by simp [Value.ownBlock,upP],[],⟨by simp,.inl ⟨rfl,rfl⟩⟩,fun j u hu=>by simp [flat] at hu⟩⟩
 ·rw [List.getElem?_set_ne e] at hu
  exact hall q u v hu hv
theorem R42 {P:Program} {N:Cfg} {ops:Array Oper} {rest:List Oper} {Q:Post} {l:Fr} {L:Loc} (i j id E k g:Nat) {hw:Nat} {t:TypeId} {cs cs':List AV} (hi:lk L i=some (.box t cs)) (hid:lk L id=some (.spare E k g hw)) (hj:cs[j]? = some (.sc (.slice none 0 0)))
  (hcs:cs.set j (.own id (g+1) k [])=cs') (hk:JL P N ops rest Q l ((i,.box t cs')::(id,.spare E k (g+1) 0)::L)):JL P N ops rest Q l L:=
 fun n w0 β0 L0 a w β hs=>by
  obtain⟨β',h⟩:=hs.resetCell i j id E k g hi hid hj hcs
  exact hk n w0 β0 L0 a w β' h
section mem
variable {P:Program} {o:Oper} {l:Fr} {L:Loc}
theorem Y0a {α:Type} {g:Nat} {s x:Operand} {T E k by_ i kx:Nat} {f:α→AV} {xs ys:List α} (ho:o.op=.call { callee:=.builtin .append,args:=#[s,x],argTypes:=#[T,T] }) (hs:ev l s=.own i g k (xs.map f)) (hi:lk L i=some (.spare E k g xs.length)) (hx:Qj (ev l x)=some (kx,ys.map f))
  (hT:sliceB P T E k=true) (hE:Zr P E k by_=true) (hb:decide ((xs.length+ys.length)*by_≤140737488355328∧xs.length+ys.length≤maxLen)=true) (hcell:∀ y,(f y).flatOk=true) (hk:kx=k∨ys=[]) :
  H5 P o l L (Is (.own i (g+1) k ((xs++ys).map f)) ((i,.spare E k (g+1) (xs++ys).length)::L)):=by
 have hb':=Kd hb
 have h:=R4d (xs:=xs.map f) (ys:=ys.map f) ho hs hi hx hT hE (by simpa using hb'.1) (by simpa using hb'.2) (fun y hy=>by
  obtain⟨z,_,rfl⟩:=Ku.1 hy
  exact hcell z) (hk.imp id (fun e=>by rw [e]; rfl))
 simpa only [List.map_append,Ko,Ks] using h
end mem
end Go.Proofs.YthcpolfodgjekaaGreat
