/-
 Iterators: Fresh results that bear a slice which may be written in plac A slice of the call's own that was written in place becomes Iterators over a map's keys,whose order is not known: A literal aQ a slice of the call's own,that may be appended A slice that is laid out in the text,and is written later: A function's code in a scope,with labels to which nothing ju An array of four rows of six bytes,written and read at place Statements whose operations may be carried out in more than
-/
import Derived.Test.YtokjlondbjdlfaaGreatRangeF
import Derived.Test.YtokjlondbjdlfaaGreatPsm
import Derived.Test.YtokjlondbjdlfaaGreatFlow
import Derived.Scope
import Derived.Test.YtokjlondbjdlfaaGreatMapD
import Derived.Test.YtokjlondbjdlfaaGreatIter
set_option linter.unusedSimpArgs false
namespace Go.Proofs.YtokjlondbjdlfaaGreat
open Go.RowKit

section code
variable {κ:Type} {E:Gc4 κ} {P:Program} {N:Cfg} {Q:G77 κ} {l:Fr} {L:Loc} {k:κ}
theorem R39 {x y:Code} {X:Type} (I:X→Prop) (F:X→Fr) (M:X→Loc) (kf:X→κ)
  (h1:∀ K:Fr→Loc→κ→Prop,(∀ l L k' v,I v→Fits N.base l L (F v) (M v)→k'=kf v→K l L k')→JI E P N x (Q.seq K) l L k)
  (h2:∀ v,I v→JI E P N y Q (F v) (M v) (kf v)):JI E P N (.seq x y) Q l L k:=
 G4e fun K hK=>h1 K fun l L k' v hv hf hk=>hK l L k' (Q7d hf (by subst hk; exact h2 v hv))
end code

section ops
variable {κ:Type} {E:Gc4 κ} {P:Program} {N:Cfg} {ops:Array Oper} {o:Oper} {rest:List Oper} {Q:G77 κ} {l:Fr} {L L':Loc} {u:AV} {k:κ}
theorem Hba {j dj d:Nat} {want c:Bool} {gv:AV} (us:Fr) (hE:E.Ok P) (hg:o.guard=some (j,want)) (hj:(ops[j]?).bind (·.dst)=some dj) (h3:look l dj=gv) (h4:Gdf gv want c) (h5:H72 c l us) (h:c=true→Gn P o (us++l) L (Is u L)) (hk:JIL E P N ops rest Q ((d,.opt c u)::l) L k)
  (h6:Nat.blt dj N.n=true:=by rfl) (hd:o.dst=some d:=by rfl) (hn:Nat.blt d N.n=true:=by rfl) (h7:Zu o=true:=by rfl) :
  JIL E P N ops (o::rest) Q l L k:=by
 subst h3
 intro n a w β hs
 have hw:=h4.wanted (ops:=ops) hs.frame (Ek (by simpa [Nat.blt_eq] using h6) hs.size) hg hj
 have h0:d < a.tmps.size:=Ek (by simpa [Nat.blt_eq] using hn) hs.size
 refine wpListIn_step fun K hK=>?_
 rw [hw]
 cases c with
 | true=>
  rw [if_pos rfl]
  refine G83 h7 (h rfl a w β K _ hs.sat (hs.frame.un h5) ?_)
  intro u' L'' v w' β' hr h2 h1 hv
  obtain⟨rfl,rfl⟩:=hr
  rw [hd]
  exact hK _ _ (hk n _ w' β' (hs.step hE h1 h2 ((hs.frame.step h1).put h0 (.opt (fun _=>hv) (fun e=>by cases e))) (Act.put_size ..) (Act.put_defers' ..)))
 | false=>
  rw [if_neg (by simp),hd]
  exact⟨fun _ _=>trivial,hK _ _ (hk n _ w β ⟨hs.sat,hs.frame.put h0 (.opt (fun e=>by cases e) (fun _=>rfl)),by rw [Act.put_size]; exact hs.size,by rw [Act.put_defers']; exact hs.defers,hs.old,hs.own,hs.gh,hs.vis⟩)⟩
end ops

/-! ### A slice of one's own that is begun anew -/
section mem
variable {P:Program} {o:Oper} {l:Fr} {L:Loc}
end mem

section lits
variable {P:Program} {o:Oper} {l:Fr} {L:Loc}
end lits

theorem Jy.vgiveB {N:Cfg} {l:Fr} {L:Loc} {w0 w:World} {β0 β:Gx} {L0:Loc} {a:Act} (hs:Jy N w0 β0 L0 a w β l L) {i ver k n t t2 bx j:Nat} {cs:List AV} {xs:List AV} (ver1:Nat) (h0:lk L bx=some (.box t2 cs)) (hj:cs[j]? = some (.vec i ver k n)) (hi:lk L i=some (.vec t k ver xs)) (b5:ver < ver1) :
  ∃ β',Jy N w0 β0 L0 a w β' l ((bx,.box t2 (cs.set j (.list k xs)))::(i,.vec t k ver1 [])::L):=by
 have h9:i≠bx:=fun e=>by subst e; rw [hi] at h0; cases h0
 have a7:j < cs.length:=(Ex hj).1
 obtain⟨b,hb,vs,a8,b6,a9⟩:=hs.sat.obj bx _ h0
 have a0:j < vs.size:=by omega
 have hv:=a9 j _ vs[j] hj (by simp [a0])
 obtain⟨rfl,hk,h⟩:=G09 hs.sat hi hv
 obtain⟨st,sat⟩:=Q4 (w':=w) (t:=t) (k:=k) (ver1:=ver1) (xs':=[]) (ob':=none) hs.sat (.inr ⟨ver,xs,hi,by omega,fun e=>by omega⟩) rfl rfl ⟨rfl,Kb⟩ (Kb) (fun _ _ _=>rfl) (.inl rfl)
 have sat':=sat ⟨by simp,.inl ⟨rfl,rfl⟩⟩
 have b0:Jy N w0 β0 L0 a w (upP β i none) l ((i,.vec t k ver1 [])::L):=⟨sat',hs.step.trans st,hs.frame.step st,hs.size,hs.base,hs.defers.step st⟩
 have b1:β.at_ bx=some b:=hb
 refine⟨_,b0.redescribeB (i:=bx) (t:=t2) (cs:=cs) (by rw [G9,if_neg h9]; exact h0) (by simp) fun vs' q u v h8 a5 b7 hu h7=>?_⟩
 by_cases e:j=q
 ·subst e
  rw [List.getElem?_set_self a7] at hu
  cases hu
  obtain⟨b',h6,a1⟩:=h8
  have h6:(upP β i none).at_ bx=some b':=h6
  have b3:(upP β i none).at_ bx=β.at_ bx:=by simp [upP,Ne.symm h9]
  rw [b3,b1] at h6
  cases h6
  rw [a8] at a1
  cases a1
  have b4:v=vs[j]:=by rw [Array.getElem?_eq_getElem a0] at h7; exact(Ez h7).symm
  subst b4
  rcases h with ⟨e,rfl,_⟩ | ⟨b2,cap,vs2,e,a2,h1,h2,h3,h4,h5⟩
  ·rw [e]; exact .data (.nil (Nat.zero_le _))
  ·rw [e]
   have a3:∀ q,q < (flat xs).length→q < vs2.size:=fun q hq=>by
    rw [Hm hk] at hq
    have:=Nat.mul_le_mul_right k h1
    omega
   refine .data (.list (fun q=>vs2.getD q undef) h1 h2 hk (fun q hq=>⟨⟨(Ej h3).1,hs.sat.apart i b2 _ (by rw [hi]; rfl) a2,fun id o ho a4=>?_⟩,?_⟩) (fun q u hu=>?_))
   ·rw [G9] at ho
    by_cases e:i=id
    ·subst e; simp [upP] at a4
    ·rw [if_neg e] at ho
     have a6:β.at_ id=some b2:=by simpa [upP,Ne.symm e] using a4
     exact absurd (hs.sat.inj i id b2 (by rw [hi]; rfl) (by rw [ho]; rfl) a2 a6) e
   ·have:=a3 q hq
    simp [World.cell?,h3,this]
   ·have hq:=(Ex hu).1
    have:=a3 q hq
    refine(h5 q u _ hu ?_).mono st.stab
    simp [this]
 ·rw [List.getElem?_set_ne e] at hu
  exact a5 q u v hu h7
theorem J84 {P:Program} {N:Cfg} {c:Code} {Q:Post} {l:Fr} {L:Loc} (bx j ver1:Nat) {i ver k n t t2:Nat} {cs cs':List AV} {xs:List AV} (h1:lk L bx=some (.box t2 cs)) (hj:cs[j]? = some (.vec i ver k n)) (hi:lk L i=some (.vec t k ver xs)) (h0:ver < ver1) (h2:cs.set j (.list k xs)=cs')
  (hk:JC P N c Q l ((bx,.box t2 cs')::(i,.vec t k ver1 [])::L)):JC P N c Q l L:=fun n w0 β0 L0 a w β hs=>by
 subst h2
 obtain⟨β',h⟩:=hs.vgiveB ver1 h1 hj hi h0
 exact hk n w0 β0 L0 a w β' h


def Hq.keys {κ ν:Type} (m:Hq κ ν):List (Option κ):=m.l.map (Option.map Prod.fst)
section ops
variable {κ:Type} {E:Gc4 κ} {P:Program} {N:Cfg} {ops:Array Oper} {o:Oper} {rest:List Oper} {Q:G77 κ} {l:Fr} {L:Loc} {k:κ} {R:AV→Loc→Prop}
end ops

section calls
variable {P:Program} {o:Oper} {l:Fr} {L:Loc} {ρ:Type} {Rp:ρ→Prop}
end calls
section calls
variable {P:Program} {o:Oper} {l:Fr} {L:Loc}
end calls

theorem Qcf {w:World} {β:Gx} {L:Loc} {i:Nat} (E k:Nat) (vs:Array Value) (xs:List AV) (hk:∀ x∈xs,x.cells.length=k) (h7:vs.size=xs.length*k) (h8:xs.length≤maxLen) (hD:∀ (j:Nat) u v,(flat xs)[j]? = some u→vs[j]? = some v→D w (J5 w β L) u v) (h0:Sat w β L) (hi:lk L i=none) :
    Step w β L (w.alloc (.cells vs E)) (upP β i (some w.heap.size)) ((i,.spare E k xs.length xs.length)::L)∧Sat (w.alloc (.cells vs E)) (upP β i (some w.heap.size)) ((i,.spare E k xs.length xs.length)::L) ∧
    V (w.alloc (.cells vs E)) (upP β i (some w.heap.size)) ((i,.spare E k xs.length xs.length)::L) (.own i xs.length k xs) (.slice (some ⟨w.heap.size,0,none⟩) xs.length xs.length):=by
  have a2:∀ id,(lk L id).isSome=true→i≠id:=fun id h e=>by subst e; rw [hi] at h; cases h
  have h6:∀ b,b < w.heap.size→(w.alloc (.cells vs E)).heap[b]? = w.heap[b]? := fun b hb=>J9 w _ hb
  have h5:w.heap.size < (w.alloc (.cells vs E)).heap.size:=by simp
  have st:Step w β L (w.alloc (.cells vs E)) (upP β i (some w.heap.size)) ((i,.spare E k xs.length xs.length)::L):=by
    refine⟨rfl,rfl,⟨rfl,Kb⟩,Nat.le_of_lt h5,fun _ _ _=>Iff.rfl,fun b j hs=>⟨⟨Nat.lt_trans hs.lt h5,hs.seen,fun id ob hid hb=>?_⟩,J4 (w:=w) (h6 b hs.lt)⟩,fun b hb a0=>⟨h6 b hb,fun id hid e=>?_⟩,fun id t cs hid=>?_,fun id t cs hid=>?_,fun id t n cs hid=>?_,fun id t k' ver zs hid=>?_,fun id t k' ver hw hid=>?_⟩
    · rw [G9] at hid
      by_cases e:i=id
      · subst e; simp only [upP,if_true] at hb; cases hb; exact absurd hs.lt (Nat.lt_irrefl _)
      · rw [if_neg e] at hid; simp only [upP,if_neg (Ne.symm e)] at hb; exact hs.kept id ob hid hb
    · rw [G9] at hid
      by_cases e':i=id
      · subst e'; simp only [upP,if_true] at e; cases e; exact absurd hb (Nat.lt_irrefl _)
      · rw [if_neg e'] at hid; simp only [upP,if_neg (Ne.symm e')] at e; exact a0 id hid e
    all_goals
      have e:=a2 id (by rw [hid]; rfl)
    · exact⟨by simp [upP,Ne.symm e],cs,by rw [G9,if_neg e]; exact hid⟩
    · exact⟨by simp [upP,Ne.symm e],cs,by rw [G9,if_neg e]; exact hid⟩
    · exact⟨by simp [upP,Ne.symm e],n,cs,by rw [G9,if_neg e]; exact hid⟩
    · exact⟨ver,zs,by rw [G9,if_neg e]; exact hid,Kb,fun _=>⟨rfl,by simp [upP,Ne.symm e],fun b hb=>Y6 (h6 b (h0.bnd id b (by rw [hid]; rfl) hb))⟩⟩
    · exact⟨ver,hw,by rw [G9,if_neg e]; exact hid,Kb,fun _=>⟨rfl,by simp [upP,Ne.symm e],fun b hb=>h6 b (h0.bnd id b (by rw [hid]; rfl) hb)⟩⟩
  refine⟨st,⟨fun b j h=>Nat.lt_trans (h0.hid b j h) h5,fun id b hid hb=>?_,fun id b j hid hb hh=>?_,fun id id' b h1 h2 h3 h4=>?_,fun id ob hid=>?_⟩,?_⟩
  · rw [G9] at hid
    by_cases e:i=id
    · subst e; simp only [upP,if_true] at hb; cases hb; exact h5
    · rw [if_neg e] at hid; simp only [upP,if_neg (Ne.symm e)] at hb; exact Nat.lt_trans (h0.bnd id b hid hb) h5
  · rw [G9] at hid
    by_cases e:i=id
    · subst e; simp only [upP,if_true] at hb; cases hb; exact absurd (h0.hid _ _ hh) (Nat.lt_irrefl _)
    · rw [if_neg e] at hid; simp only [upP,if_neg (Ne.symm e)] at hb; exact h0.apart id b j hid hb hh
  · by_cases e:i=id
    · by_cases e':i=id'
      · rw [← e,e']
      · subst e
        rw [G9,if_neg e'] at h2
        simp only [upP,if_true] at h3
        simp only [upP,if_neg (Ne.symm e')] at h4
        cases h3
        exact absurd (h0.bnd id' _ h2 h4) (Nat.lt_irrefl _)
    · by_cases e':i=id'
      · subst e'
        rw [G9,if_neg e] at h1
        simp only [upP,if_true] at h4
        simp only [upP,if_neg (Ne.symm e)] at h3
        cases h4
        exact absurd (h0.bnd id _ h1 h3) (Nat.lt_irrefl _)
      · rw [G9,if_neg e] at h1
        rw [G9,if_neg e'] at h2
        simp only [upP,if_neg (Ne.symm e)] at h3
        simp only [upP,if_neg (Ne.symm e')] at h4
        exact h0.inj id id' b h1 h2 h3 h4
  · rw [G9] at hid
    by_cases e:i=id
    · subst e; rw [if_pos rfl] at hid; cases hid
      exact .inr ⟨w.heap.size,by simp [upP],vs,heap_alloc_new w _,by rw [h7]; exact Kb⟩
    · rw [if_neg e] at hid
      simp only [upP,if_neg (Ne.symm e)]
      exact(h0.obj id ob hid).step st (fun b hb=>h6 b (h0.bnd id b (by rw [hid]; rfl) hb))
  · have hn:=heap_alloc_new w (.cells vs E)
    have a3:(flat xs).length=xs.length*k:=Hm hk
    have a1:(w.alloc (.cells vs E)).ownsRow 0 E k (.slice (some ⟨w.heap.size,0,none⟩) xs.length xs.length) xs.length vs.toList:=
      ⟨by simp [h7],.inr ⟨w.heap.size,xs.length,vs,rfl,Nat.zero_le _,hn,Kb,h8,h7,by rw [List.take_of_length_le (by simp [h7])]⟩⟩
    refine .own ?_ ⟨E,xs.length,xs.length,by rw [G9,if_pos rfl],Kb,fun _=>⟨rfl,by simp [Value.ownBlock,upP],vs.toList,a1,fun j u hu=>?_⟩⟩
    · refine .list (fun j=>vs.getD j undef) (Kb) h8 hk (fun j hj=>⟨⟨h5,fun hh=>absurd (h0.hid _ _ hh) (Nat.lt_irrefl _),fun id ob hid h9=>?_⟩,?_⟩) (fun j u hu=>?_)
      · rw [G9] at hid
        by_cases e:i=id
        · subst e; rw [if_pos rfl] at hid; cases hid
          show 0+j < xs.length*k
          omega
        · rw [if_neg e] at hid
          simp only [upP,if_neg (Ne.symm e)] at h9
          exact absurd (h0.bnd id _ (by rw [hid]; rfl) h9) (Nat.lt_irrefl _)
      · have:j < vs.size:=by omega
        unfold World.cell?
        rw [hn]
        simp [this]
      · have hj:j < vs.size:=by
          have:=(Ex hu).1
          omega
        refine(hD j u _ hu ?_).mono st.stab
        simp [hj]
    · have hj:j < vs.size:=by
        have:=(Ex hu).1
        omega
      exact⟨vs[j],by simp [hj],(hD j u _ hu (by simp [hj])).mono st.stab⟩

section lits
variable {P:Program} {o:Oper} {l:Fr} {L:Loc}
theorem Qb5 (i:Nat) {T E k n:Nat} {parts:List (Nat×Operand)} {xs:List AV} (ho:o.op=.buildSlice T n parts.toArray) (hd:Ze l (parts.map (·.2)) xs) (hT:sliceB P T E k=true) (hz:Qe P E k=true)
    (h4:parts.map (·.1)=List.range n) (hc:G24 k xs=true) (hn:Nat.ble (n*k) 16777216=true) (a6:Nat.blt 0 k=true) (hi:lk L i=none):Gn P o l L (Is (.own i xs.length k xs) ((i,.spare E k xs.length xs.length)::L)):=by
  intro a w β K Q a3 hf hK
  have a4:=hd.length
  have a7:n=xs.length:=by
    have:=congrArg List.length h4
    simp only [Kn,List.length_range] at this a4
    omega
  subst a7
  have h9:=G03 hc
  have a0:∀ x∈xs,x.cells.length=k:=fun x hx=>(h9 x hx).1
  have h6:∀ x∈xs,x.isData=true:=by
    intro x hx
    obtain⟨j,hj,e⟩:=List.mem_iff_getElem.1 hx
    have a8:j < (parts.map (·.2)).length:=by omega
    exact e ▸ (hd.get (j:=j) (x:=(parts.map (·.2))[j]) (u:=xs[j]) (Ey a8) (Ey hj)).2
  have h7:=G75 (k:=k) xs 0 (List.replicate (xs.length*k) .junk) (by simp) h9
  obtain⟨inf,z,a9,b0,b5⟩:=Qe.out hz
  let zs:Array Value:=if xs.length*k=0 then #[] else z.cells
  obtain⟨vs',e1,e2,e3⟩:=G58 (w:=w) (β:=β) (L:=L) (qs:=parts.map fun p=>(p.1,a.eval p.2)) (vs:=(Array.range (xs.length*k)).map (zs[· % zs.size]!)) h7 (by
      have:=congrArg List.length h4
      simp only [Kn,List.length_range] at this
      simp [this]) (fun j p q hp hq=>by
      simp only [Kf,Option.map_eq_some_iff] at hq
      obtain⟨y,hy,rfl⟩:=hq
      rw [List.getElem?_zip_eq_some] at hp
      obtain⟨b1,b2⟩:=hp
      have h3:(parts.map (·.1))[j]? = (List.range xs.length)[j]? := by rw [h4]
      simp only [Kf,hy,Option.map_some] at h3
      rw [List.range_eq_range',b1] at h3
      have:=(hd.get (j:=j) (x:=y.2) (u:=p.2) (by rw [Kf,hy]; rfl) b2)
      have hv:=(hf.ev y.2).plain
      rw [this.1] at hv
      exact⟨(Ez h3).symm,hv⟩) (by simp) (fun j u v hu _=>by
      have:=List.eq_of_mem_replicate (K0 hu)
      subst this; exact .junk)
  have h8:(List.take (0*k) (List.replicate (xs.length*k) AV.junk))++flat xs=flat xs:=by simp
  rw [h8] at e2 e3
  have hr:(execOp a.eval o).run P w=.ok (.value (.slice (some ⟨w.heap.size,0,none⟩) xs.length xs.length)) (w.alloc (.cells vs' E)):=by
    have a1:=Ja (sliceB.out hT).2 w
    have b4:xs.length*k≤16777216:=by simpa using hn
    have a2:¬ (xs.length*k > 2 ^ 24):=by
      have:(2:Nat) ^ 24=16777216:=by decide
      omega
    have hp:(parts.toArray.map fun(x:Nat×Operand)=>(x.1,a.eval x.2)).toList=parts.map fun p=>(p.1,a.eval p.2):=by simp
    by_cases h0:xs.length*k=0
    · have h5:zs=#[]:=by simp only [zs,if_pos h0]
      rw [h5] at e1
      simp only [execOp,ho,Instr.buildSlice,underlying,(sliceB.out hT).1,run_program,Sem.run_bind,Result.andThen_ok,a1,a2,if_false,Sem.run_pure,if_pos h0,hp,e1,newRow,run_newObj]
      rfl
    · have h5:zs=z.cells:=by simp only [zs,if_neg h0]
      rw [h5] at e1
      simp only [execOp,ho,Instr.buildSlice,underlying,(sliceB.out hT).1,run_program,Sem.run_bind,Result.andThen_ok,a1,a2,if_false,Sem.run_pure,if_neg h0,zeroValue,typeInfo,a9,b0,hp,e1,newRow,run_newObj]
      rfl
  unfold Oper.wp
  rw [hr]
  have a5:xs.length≤maxLen:=by
    have h1:xs.length*k≤16777216:=by simpa using hn
    have h2:0 < k:=by simpa [Nat.blt_eq] using a6
    have:xs.length*1≤xs.length*k:=Nat.mul_le_mul_left _ h2
    simp only [maxLen]; omega
  have b3:(flat xs).length=xs.length*k:=Hm a0
  obtain⟨st,sat,hv⟩:=Qcf (i:=i) E k vs' xs a0 (by rw [e2,b3]) a5 (fun j u v hu hv=>(e3 j u v hu hv).toD (G89 h6 u (K0 hu))) a3 hi
  exact hK _ _ _ _ _ ⟨rfl,rfl⟩ sat st hv
theorem H95 {α:Type} (i:Nat) {T E k n:Nat} {parts:List (Nat×Operand)} {f:α→AV} (xs:List α) (ho:o.op=.buildSlice T n parts.toArray) (hd:Ze l (parts.map (·.2)) (xs.map f)) (hT:sliceB P T E k=true) (hz:Qe P E k=true)
    (h0:parts.map (·.1)=List.range n) (hc:G24 k (xs.map f)=true) (hn:Nat.ble (n*k) 16777216=true) (h1:Nat.blt 0 k=true) (hi:lk L i=none):Gn P o l L (Is (OW i k f xs) ((i,.spare E k xs.length xs.length)::L)):=by
  have h:=Qb5 (P:=P) i ho hd hT hz h0 hc hn h1 hi
  simpa only [Kn] using h
end lits
section lits
variable {P:Program} {o:Oper} {l:Fr} {L:Loc}
theorem Qb9 (i:Nat) {T E k n ver1:Nat} {parts:List (Nat×Operand)} {xs:List AV} (ho:o.op=.buildSlice T n parts.toArray) (hd:Ze l (parts.map (·.2)) xs) (hT:sliceB P T E k=true) (hz:Qe P E k=true)
  (h4:parts.map (·.1)=List.range n) (hc:G24 k xs=true) (hn:Nat.ble (n*k) 16777216=true) (b1:Nat.blt 0 k=true) (hi:lk L i=none):Gn P o l L (Is (.vec i ver1 k xs.length) ((i,.vec E k ver1 xs)::L)):=by
 intro a w β K Q a8 hf hK
 have a9:=hd.length
 have b2:n=xs.length:=by
  have:=congrArg List.length h4
  simp only [Kn,List.length_range] at this a9
  omega
 subst b2
 have a2:=G03 hc
 have a3:∀ x∈xs,x.cells.length=k:=fun x hx=>(a2 x hx).1
 have h8:∀ x∈xs,x.isData=true:=by
  intro x hx
  obtain⟨j,hj,e⟩:=List.mem_iff_getElem.1 hx
  have b3:j < (parts.map (·.2)).length:=by omega
  exact e ▸ (hd.get (j:=j) (x:=(parts.map (·.2))[j]) (u:=xs[j]) (Ey b3) (Ey hj)).2
 have h9:=G75 (k:=k) xs 0 (List.replicate (xs.length*k) .junk) (by simp) a2
 obtain⟨inf,z,b4,b5,b9⟩:=Qe.out hz
 let zs:Array Value:=if xs.length*k=0 then #[] else z.cells
 obtain⟨vs',e1,e2,e3⟩:=G58 (w:=w) (β:=β) (L:=L) (qs:=parts.map fun p=>(p.1,a.eval p.2)) (vs:=(Array.range (xs.length*k)).map (zs[· % zs.size]!)) h9 (by
   have:=congrArg List.length h4
   simp only [Kn,List.length_range] at this
   simp [this]) (fun j p q hp hq=>by
   simp only [Kf,Option.map_eq_some_iff] at hq
   obtain⟨y,hy,rfl⟩:=hq
   rw [List.getElem?_zip_eq_some] at hp
   obtain⟨b6,b7⟩:=hp
   have h3:(parts.map (·.1))[j]? = (List.range xs.length)[j]? := by rw [h4]
   simp only [Kf,hy,Option.map_some] at h3
   rw [List.range_eq_range',b6] at h3
   have:=(hd.get (j:=j) (x:=y.2) (u:=p.2) (by rw [Kf,hy]; rfl) b7)
   have hv:=(hf.ev y.2).plain
   rw [this.1] at hv
   exact⟨(Ez h3).symm,hv⟩) (by simp) (fun j u v hu _=>by
   have:=List.eq_of_mem_replicate (K0 hu)
   subst this; exact .junk)
 have a0:(List.take (0*k) (List.replicate (xs.length*k) AV.junk))++flat xs=flat xs:=by simp
 rw [a0] at e2 e3
 have hr:(execOp a.eval o).run P w=.ok (.value (.slice (some ⟨w.heap.size,0,none⟩) xs.length xs.length)) (w.alloc (.cells vs' E)):=by
  have a4:=Ja (sliceB.out hT).2 w
  have b8:xs.length*k≤16777216:=by simpa using hn
  have a5:¬ (xs.length*k > 2 ^ 24):=by
   have:(2:Nat) ^ 24=16777216:=by decide
   omega
  have hp:(parts.toArray.map fun(x:Nat×Operand)=>(x.1,a.eval x.2)).toList=parts.map fun p=>(p.1,a.eval p.2):=by simp
  by_cases h0:xs.length*k=0
  ·have h5:zs=#[]:=by simp only [zs,if_pos h0]
   rw [h5] at e1
   simp only [execOp,ho,Instr.buildSlice,underlying,(sliceB.out hT).1,run_program,Sem.run_bind,Result.andThen_ok,a4,a5,if_false,Sem.run_pure,if_pos h0,hp,e1,newRow,run_newObj]
   rfl
  ·have h5:zs=z.cells:=by simp only [zs,if_neg h0]
   rw [h5] at e1
   simp only [execOp,ho,Instr.buildSlice,underlying,(sliceB.out hT).1,run_program,Sem.run_bind,Result.andThen_ok,a4,a5,if_false,Sem.run_pure,if_neg h0,zeroValue,typeInfo,b4,b5,hp,e1,newRow,run_newObj]
   rfl
 unfold Oper.wp
 rw [hr]
 have b0:xs.length≤maxLen:=by
  have h1:xs.length*k≤16777216:=by simpa using hn
  have h2:0 < k:=by simpa [Nat.blt_eq] using b1
  have:xs.length*1≤xs.length*k:=Nat.mul_le_mul_left _ h2
  simp only [maxLen]; omega
 have a6:(flat xs).length=xs.length*k:=Hm a3
 have a1:∀ b',b' < w.heap.size→(w.alloc (.cells vs' E)).heap[b']? = w.heap[b']? := fun b' h6=>J9 w _ h6
 have h7:(w.alloc (.cells vs' E)).heap[w.heap.size]? = some (.cells vs' E (0,0)):=by
  show (w.heap.push (.cells vs' E))[w.heap.size]? = _
  simp
 have a7:(w.alloc (.cells vs' E)).heap.size=w.heap.size+1:=by
  show (w.heap.push (.cells vs' E)).size=_
  simp
 obtain⟨st,sat⟩:=Q4 (w':=w.alloc (.cells vs' E)) (t:=E) (k:=k) (ver1:=ver1) (xs':=xs) (ob':=some w.heap.size) a8 (.inl hi) rfl rfl ⟨rfl,Kb⟩ (by rw [a7]; omega) (fun b' h6 _=>a1 b' h6) (.inr (.inr ⟨_,rfl,Kb,by rw [a7]; omega⟩))
 refine hK _ _ _ _ _ ⟨rfl,rfl⟩ (sat ⟨a3,.inr ⟨_,rfl,vs',h7,by rw [e2,a6]; exact Kb,fun j u v hu hv=>?_⟩⟩) st (.vec ⟨E,ver1,xs,by rw [G9,if_pos rfl],Kb,fun _=>⟨rfl,.inr ⟨w.heap.size,xs.length,rfl,by simp [upP],Kb,b0,by unfold World.shape?; rw [h7]; simp only [e2,a6]⟩⟩⟩ rfl)
 exact((e3 j u v hu hv).toD (G89 h8 u (K0 hu))).mono st.stab
theorem Q53 {α:Type} (i:Nat) {T E k n ver1:Nat} {parts:List (Nat×Operand)} {f:α→AV} (xs:List α) (ho:o.op=.buildSlice T n parts.toArray) (hd:Ze l (parts.map (·.2)) (xs.map f)) (hT:sliceB P T E k=true) (hz:Qe P E k=true)
  (h0:parts.map (·.1)=List.range n) (hc:G24 k (xs.map f)=true) (hn:Nat.ble (n*k) 16777216=true) (h1:Nat.blt 0 k=true) (hi:lk L i=none):Gn P o l L (Is (.vec i ver1 k xs.length) ((i,.vec E k ver1 (xs.map f))::L)):=by
 have h:=Qb9 (P:=P) (ver1:=ver1) i ho hd hT hz h0 hc hn h1 hi
 simpa only [Kn] using h
end lits

section rules
variable {F:Fence} {n:Nat} {P:Program} {b:Frame} {a:Act} {k:List Item} {cs:List Frame} {w:World} {Q:Exit→Act→World→Prop}
theorem G62 {c:Code}:step P (lone (b.atR a (.code (.scope c)::k)) cs w)=.next (lone (b.atR a (.code c::.inScope c::k)) cs w):=
 step_lone_go (by simp [stepG,stepG.exec,Frame.atR])
theorem J54 {c:Code}:step P (lone (b.atR a (.inScope c::k)) cs w)=.next (lone (b.atR a k) cs w):=
 step_lone_go (by simp [stepG,stepG.exec,Frame.atR])
theorem Jf9 {c:Code} (h:c.wpIn F n P (Exit.noGoto Q) a w):(Code.scope c).wpIn F n P Q a w:=by
 intro b k cs h4 hb hr
 have h0:(lone (b.atR a (.code (.scope c)::k)) cs w).fenced P F:=fenced_calm hb hr rfl
 obtain⟨e,a₁,w₁,hq,h3⟩:=h b (.inScope c::k) cs h4 hb hr
 cases e with
 | normal=>exact⟨.normal,a₁,w₁,hq,.head h0 G62 (StepsIn.trans h3 (.one (fenced_calm hb hr rfl) J54))⟩
 | exit id=>
  have hx:exitTo id (.inScope c::k)=exitTo id k:=by simp [exitTo]
  exact⟨.exit id,a₁,w₁,hq,fun k' hk=>.head h0 G62 (h3.1 k' (by rw [hx]; exact hk)),fun h5 hk=>let ⟨k₁,h1,h2⟩:=h3.2 h5 (by rw [hx]; exact hk); ⟨k₁,h1,.head h0 G62 h2⟩⟩
 | goto l=>exact hq.elim
 | ret=>exact⟨_,a₁,w₁,hq,.of_steps (.one h0 G62) h3⟩
 | panic ch=>exact⟨_,a₁,w₁,hq,.of_steps (.one h0 G62) h3⟩
 | outgrown=>exact⟨_,a₁,w₁,hq,.of_steps (.one h0 G62) h3⟩
end rules
section code
variable {P:Program} {N:Cfg} {Q:Post} {l:Fr} {L:Loc}
theorem Je9 {c:Code} (h:JC P N c Q l L):JC P N (.scope c) Q l L:=fun n w0 β0 L0 a w β hs=>Jf9 (Code.wpIn_mono (fun e a' w' q=>by
 cases e with
 | goto l=>exact q
 | normal=>exact q
 | exit i=>exact q
 | ret=>exact q
 | panic c=>exact q
 | outgrown=>exact q) (h n w0 β0 L0 a w β hs))
theorem Jea {i:Nat} (h:Q.norm l L):JC P N (.label i) Q l L:=fun _ _ _ _ _ _ β hs=>wpIn_label ⟨β,l,L,hs,h⟩
end code
set_option linter.unusedVariables false
set_option maxRecDepth 100000

structure Gp where
 l:List Int
 h:l.length=24
 deriving DecidableEq
instance:Inhabited Gp:=⟨⟨List.replicate 24 0,rfl⟩⟩
namespace Gp
def zero:Gp:=⟨List.replicate 24 0,rfl⟩
def g (x:Gp) (j:Nat):Int:=x.l.getD j 0
def set (x:Gp) (j:Nat) (v:Int):Gp:=⟨x.l.set j v,by rw [List.length_set]; exact x.h⟩
def cs (x:Gp):List AV:=[U8 (x.g 0),U8 (x.g 1),U8 (x.g 2),U8 (x.g 3),U8 (x.g 4),U8 (x.g 5),U8 (x.g 6),U8 (x.g 7),U8 (x.g 8),U8 (x.g 9),U8 (x.g 10),U8 (x.g 11),U8 (x.g 12),U8 (x.g 13),U8 (x.g 14),U8 (x.g 15),U8 (x.g 16),U8 (x.g 17),U8 (x.g 18),U8 (x.g 19),U8 (x.g 20),U8 (x.g 21),U8 (x.g 22),U8 (x.g 23)]
def av (x:Gp):AV:=.agg x.cs
def ks (x:Gp):List Value:=[.int .u8 (x.g 0),.int .u8 (x.g 1),.int .u8 (x.g 2),.int .u8 (x.g 3),.int .u8 (x.g 4),.int .u8 (x.g 5),.int .u8 (x.g 6),.int .u8 (x.g 7),.int .u8 (x.g 8),.int .u8 (x.g 9),.int .u8 (x.g 10),.int .u8 (x.g 11),.int .u8 (x.g 12),.int .u8 (x.g 13),.int .u8 (x.g 14),.int .u8 (x.g 15),.int .u8 (x.g 16),.int .u8 (x.g 17),.int .u8 (x.g 18),.int .u8 (x.g 19),.int .u8 (x.g 20),.int .u8 (x.g 21),.int .u8 (x.g 22),.int .u8 (x.g 23)]
def kv (x:Gp):Value:=.agg x.ks.toArray
theorem Qe5 {a b:Gp}:a.g 0=b.g 0→a.g 1=b.g 1→a.g 2=b.g 2→a.g 3=b.g 3→a.g 4=b.g 4→a.g 5=b.g 5→a.g 6=b.g 6→a.g 7=b.g 7→a.g 8=b.g 8→a.g 9=b.g 9→a.g 10=b.g 10→a.g 11=b.g 11→a.g 12=b.g 12→a.g 13=b.g 13→a.g 14=b.g 14→a.g 15=b.g 15→a.g 16=b.g 16→a.g 17=b.g 17→a.g 18=b.g 18→a.g 19=b.g 19→a.g 20=b.g 20→a.g 21=b.g 21→a.g 22=b.g 22→a.g 23=b.g 23→a=b:=by
 intro h0 h1 h2 h3 h4 h5 h6 h7 h8 h9 a0 a1 a2 a3 a4 a5 a6 a7 a8 a9 b0 b1 b2 b3
 obtain⟨a,ha⟩:=a
 obtain⟨b,hb⟩:=b
 have key:∀ j,j < 24→a.getD j 0=b.getD j 0:=by
  intro j hj
  have hj:j=0∨j=1∨j=2∨j=3∨j=4∨j=5∨j=6∨j=7∨j=8∨j=9∨j=10∨j=11∨j=12∨j=13∨j=14∨j=15∨j=16∨j=17∨j=18∨j=19∨j=20∨j=21∨j=22∨j=23:=by omega
  rcases hj with rfl | rfl | rfl | rfl | rfl | rfl | rfl | rfl | rfl | rfl | rfl | rfl | rfl | rfl | rfl | rfl | rfl | rfl | rfl | rfl | rfl | rfl | rfl | rfl <;> assumption
 have:a=b:=by
  refine List.ext_getElem (by omega) fun j h1 h2=>?_
  have:=key j (by omega)
  simpa [List.getD_eq_getElem?_getD,h1,h2] using this
 subst this
 rfl
theorem Q6e (x:Gp) {j:Nat} (hj:j < 24) (v:Int) (i:Nat):(x.set j v).g i=if i=j then v else x.g i:=by
 unfold g set
 have:=x.h
 simp only [List.getD_eq_getElem?_getD,List.getElem?_set]
 by_cases e:j=i
 ·subst e
  rw [if_pos rfl,if_pos (by omega),if_pos rfl]; rfl
 ·rw [if_neg e,if_neg (fun h=>e h.symm)]
theorem J9d (x:Gp) {j:Nat} (hj:j < 24):x.cs[j]? = some (U8 (x.g j)):=by
 have hj:j=0∨j=1∨j=2∨j=3∨j=4∨j=5∨j=6∨j=7∨j=8∨j=9∨j=10∨j=11∨j=12∨j=13∨j=14∨j=15∨j=16∨j=17∨j=18∨j=19∨j=20∨j=21∨j=22∨j=23:=by omega
 rcases hj with rfl | rfl | rfl | rfl | rfl | rfl | rfl | rfl | rfl | rfl | rfl | rfl | rfl | rfl | rfl | rfl | rfl | rfl | rfl | rfl | rfl | rfl | rfl | rfl <;> rfl
theorem R83 (x:Gp) {j:Nat} (hj:j < 24) (v:Int):x.cs.set j (U8 v)=(x.set j v).cs:=by
 refine List.ext_getElem (by simp [cs]) fun i h1 h2=>?_
 have hi:i < 24:=by simpa [cs] using h2
 have e2:=(x.set j v).J9d hi
 rw [Ey h2] at e2
 rw [Ez e2,List.getElem_set]
 rw [Q6e x hj]
 by_cases e:j=i
 ·subst e; rw [if_pos rfl,if_pos rfl]
 ·have e3:=x.J9d hi
  rw [if_neg e,if_neg (fun h=>e h.symm)]
  have h3:i < x.cs.length:=by simpa [cs] using hi
  rw [Ey h3] at e3
  exact Ez e3
theorem Qee {m n:Nat} (hm:m≤3) (hn:n≤5):m*6+n*1 < 24:=by omega
theorem Rd0 (x:Gp) {m n:Nat} (hm:m≤3) (hn:n≤5):x.cs[0+m*6+n*1]? = some (U8 (x.g (m*6+n*1))):=by
 rw [Nat.zero_add]; exact x.J9d (Qee hm hn)
theorem Q41 (x:Gp) {m n:Nat} (hm:m≤3) (hn:n≤5):x.cs[m*6+n*1]? = some (U8 (x.g (m*6+n*1))):=x.J9d (Qee hm hn)
theorem Qdb {m n:Nat} (hm:m≤3) (hn:n≤5):0+m*6+n*1 < 24:=by omega
theorem Q40 (x:Gp) {m n:Nat} (hm:m≤3) (hn:n≤5) (v:Int):x.cs.set (0+m*6+n*1) (U8 v)=(x.set (m*6+n*1) v).cs:=by
 rw [Nat.zero_add]; exact x.R83 (Qee hm hn) v
theorem R79 (a b:Gp) (h:a.ks=b.ks):a=b:=by
 simp only [ks,List.cons.injEq,Value.int.injEq,true_and,and_true] at h
 obtain⟨h0,h1,h2,h3,h4,h5,h6,h7,h8,h9,a0,a1,a2,a3,a4,a5,a6,a7,a8,a9,b0,b1,b2,b3⟩:=h
 exact Qe5 h0 h1 h2 h3 h4 h5 h6 h7 h8 h9 a0 a1 a2 a3 a4 a5 a6 a7 a8 a9 b0 b1 b2 b3
end Gp

section ops
variable {P:Program} {o:Oper} {l:Fr} {L:Loc} {u:AV}
theorem H20 {x ix:Operand} {T n k i o' m:Nat} {kd:IntKind} {z:Int} (hT:H70 P T n k=true) (ho:o.op=.indexAddr T x ix) (hx:ev l x=.ptr i o') (hi:ev l ix=.sc (.int kd z)) (hz:z=(m:Int)) (hm:m+1≤n):Gn P o l L (Is (.ptr i (o'+m*k)) L):=
 Ra5 hT ho hx hi hz (by simp only [Nat.blt_eq]; omega)
theorem Hdc {x ix:Operand} {T n k m:Nat} {kd:IntKind} {z:Int} {cs:List AV} (hT:H70 P T n k=true) (ho:o.op=.indexAddr T x ix) (hx:ev l x=.dptr cs) (hi:ev l ix=.sc (.int kd z)) (hz:z=(m:Int)) (hm:m+1≤n):Gn P o l L (Is (.dptr (cs.drop (m*k))) L):=
 H2 fun a w β _ hf=>by
  subst hz
  have h1:=hf.ev x
  rw [hx] at h1
  have h2:=hf.ev ix
  rw [hi] at h2
  have h3:=h1.inv_dptr
  obtain⟨ax,h0⟩:∃ ax,a.eval x=ax:=⟨_,rfl⟩
  rw [h0] at h3
  cases h3 with
  | dptr vals hS h=>
   refine⟨_,by simp only [execOp,ho,h0,h2.inv_sc,Sem.run_bind,Ha3 hT hm]; rfl,.data (.dptr (fun j=>vals (m*k+j)) (fun j hj=>?_) (fun j u hu=>?_))⟩
   ·rw [Nat.add_assoc]
    exact hS _ (by rw [List.length_drop] at hj; omega)
   ·rw [Kh] at hu
    exact h _ u hu
theorem Jc8:∀ {cs:List AV} {j:Nat} {u:AV},j < cs.length→H0f j [u] cs=some (cs.set j u)
 | [],_,_,h=>by simp at h
 | c::cs,0,u,_=>by cases cs <;> simp [H0f]
 | c::cs,j+1,u,h=>by
  have ih:=Jc8 (cs:=cs) (j:=j) (u:=u) (by simpa using h)
  simp [H0f,ih]
theorem H62 {x y:Operand} {T i off:Nat} {t:TypeId} {cs ds:List AV} (hT:Rw P T 1=true) (ho:o.op=.store T x y) (hu:ev l y=u) (hx:ev l x=.ptr i off) (hi:lk L i=some (.box t cs)) (hc:u.isCell=true) (h1:u.cells=[u]) (h0:off < cs.length) (h2:cs.set off u=ds) :
  Gn P o l L (Is .junk ((i,.box t ds)::L)):=by
 subst h2
 refine Hu (u:=u) hT ho hu hx hi (by simp [AV.flatOk,h1,hc]) (by rw [h1]; exact Jc8 h0) (by rw [h1]; rfl) rfl
theorem Jf1 {x:Operand} {T i off:Nat} {t:TypeId} {cs:List AV} (hT:Qs P T=true) (ho:o.op=.load T x) (hx:ev l x=.ptr i off) (hi:lk L i=some (.box t cs)) (h0:cs[off]? = some u):Gn P o l L (Is u L):=Ht hT ho hx hi h0
theorem Hdb {x:Operand} {T off off2:Nat} {cs:List AV} (hT:Qs P T=true) (ho:o.op=.load T x) (hx:ev l x=.dptr ((cs.drop off).drop off2)) (h0:cs[off+off2]? = some u):Gn P o l L (Is u L):=
 Gr hT ho hx (by rw [List.drop_drop,Kh]; simpa using h0)
theorem Q9a {a:Act} {T:Nat} {x y z:Operand} (ho:o.op=.insert T x y z):∀ w:World,((execOp a.eval o).run P w)=(execOp a.eval { o with op:=.mapUpdate T x y z }).run P w:=by
 intro w
 simp [execOp,ho]
theorem Ja7 {κ ν:Type} [DecidableEq κ] {kv:κ→Value} {av:ν→AV} {x y z:Operand} {T K E i:Nat} {m:Qb κ ν} {a:κ} {v:ν} (ho:o.op=.insert T x y z) (hm:ev l x=.mp i) (hi:lk L i=some (MP T kv av m))
  (hx:ev l y=Qo (kv a)) (hy:(ev l z).plain=av v) (h1:(av v).isData=true) (hk:G6d P K kv) (hT:Yf P T K E=true) :
  Gn P o l L (Is .junk ((i,MP T kv av (m.put a v))::L)):=by
 have h:=Hc1 (P:=P) (l:=l) (L:=L) (o:={ o with op:=.mapUpdate T x y z }) rfl hm hi hx hy h1 hk hT
 intro A w β KK Q h0 hf hK
 have h2:=h A w β KK Q h0 hf hK
 unfold Oper.wp at h2 ⊢
 rw [Q9a ho]
 exact h2
end ops

theorem Zs.cfg {P:Program} {N N':Cfg} (e:N'.n=N.n) {ops:Array Oper} {ws los his:List Nat} {Ls:List Loc} {K:Fr→Prop}:∀ {r:List Oper} {i:Nat} {l:Fr},Zs P N ops ws los his Ls i r l K→Zs P N' ops ws los his Ls i r l K:=by
 have hO:∀ o l L u L',G0d P N ops o l L u L'→G0d P N' ops o l L u L':=fun o l L u L' h a w β K Q h1 h2 h3=>h a w β K Q h1 h2 (by rw [← e]; exact h3)
 have hA:∀ o l u (Xs:List Loc),Gd5 (fun L=>G0d P N ops o l L u L) Xs→Gd5 (fun L=>G0d P N' ops o l L u L) Xs:=by
  intro o l u Xs
  induction Xs with
  | nil=>exact id
  | cons X Xs ih=>exact fun h=>⟨hO _ _ _ _ _ h.1,ih h.2⟩
 intro r
 induction r with
 | nil=>exact fun h=>h
 | cons o r ih=>
  intro i l h
  obtain⟨u,h1,h2⟩:=h
  refine⟨u,?_,?_⟩
  ·revert h1
   cases ws.idxOf? i with
   | some m=>rintro⟨L,L',h3,h4,h5⟩; exact⟨L,L',h3,h4,hO _ _ _ _ _ h5⟩
   | none=>exact hA _ _ _ _
  ·revert h2
   cases o.dst with
   | some d=>rintro⟨h3,h4⟩; exact⟨by rw [e]; exact h3,ih h4⟩
   | none=>exact fun h4=>ih h4
section
variable {κ:Type} {E:Gc4 κ} {P:Program} {N:Cfg} {Q:G77 κ} {l:Fr} {L L':Loc} {k:κ}
def J7a (N:Cfg) (L:Loc):Cfg:=⟨N.n,L.map (·.1),some 0⟩

theorem Hfc {id:Nat}:∀ {L:Loc},(lk L id).isSome=true→id∈L.map (·.1):=by
 intro L
 induction L with
 | nil=>intro h; simp [lk] at h
 | cons x r ih=>
  intro h
  by_cases e:x.1=id
  ·simp [e]
  ·refine Kp.2 ?_
   have:(lk r id).isSome=true:=by
    have hb:Nat.beq x.1 id=false:=by
     cases hb:Nat.beq x.1 id with
     | false=>rfl
     | true=>exact absurd (En hb) e
    obtain⟨a,b⟩:=x
    simp only [lk,hb,cond_false] at h
    exact h
   obtain⟨y,hy,e⟩:=Kp.1 (ih this)
   exact⟨y,List.mem_cons_of_mem _ hy,e⟩

theorem StI.stok {a:Act} {w:World} {β:Gx} (h:StI E N a w β l L k):Jy (J7a N L) w β L a w β l L:=
 ⟨h.sat,Step.refl _ _ _,h.frame,h.size,fun _ h=>Hfc h,by rw [h.defers]; exact Ge0.nil⟩
theorem StI.after {a a':Act} {w w':World} {β β':Gx} {l':Fr} {L':Loc} (hE:E.Ok P) (h:StI E N a w β l L k) (h':Jy (J7a N L) w β L a' w' β' l' L'):StI E N a' w' β' l' L' k:=by
 have h0:=h'.step
 refine⟨h'.sat,h'.frame,h'.size,h'.defers.top rfl,Nat.le_trans h.old h0.size,fun id b h1 h2=>?_,?_,fun b i hb hn=>h.vis b i hb fun hh=>hn ((h0.hid b i (Ek hb h.old)).2 hh)⟩
 ·have old':=h.old
  rcases Ep b w.heap.size with hb | hb
  ·refine Classical.byContradiction fun hn=>?_
   have:∀ id0,(lk L id0).isSome=true→β id0≠some b:=fun id0 h3 h4=>hn (h.own id0 b h3 h4)
   exact(h0.far b hb this).2 id h1 h2
  ·omega
 ·obtain⟨X,T,hJ,hX,hT,h5⟩:=h.gh
  refine⟨X,T,hE.abide k X T w w' hJ ⟨h0.os,h0.tape,h0.output,h0.size,fun b hb hn=>(h0.far b hb fun id h1 h2=>?_).1⟩ (fun b i h=>(h0.stab b i (hT b i h)).2),fun b hb=>⟨Ek (hX b hb).1 h0.size,fun i hn=>(h0.hid b i (hX b hb).1).2 ((hX b hb).2 i hn)⟩,fun b i h=>(h0.stab b i (hT b i h)).1,fun id b h1 h2 hx=>?_⟩
  ·exact hn ⟨h.own id b h1 h2,fun hx=>h5 id b h1 h2 hx⟩
  ·exact(h0.far b (hX b hx).1 fun id0 h3 h4=>h5 id0 b h3 h4 hx).2 id h1 h2

theorem Qfb {ops:List Oper} {id:Nat} (hE:E.Ok P) (h:∀ (n:Nat) a w β,Jy (J7a N L) w β L a w β l L→(Code.region id ops.toArray true).wpIn Fence.wide n P ((⟨fun l L=>Q.norm l L k,fun _ _=>False,fun _ _ _=>False⟩:Post).out (J7a N L) w β L) a w):JI E P N (.region id ops.toArray true) Q l L k:=by
 intro n a w β hs
 refine Code.wpIn_mono (fun e a' w' q=>?_) (h n a w β hs.stok)
 cases e with
 | normal=>obtain⟨β',l',L',h1,h2⟩:=q; exact⟨β',l',L',k,hs.after hE h1,h2⟩
 | ret=>obtain⟨β',l',L',h1,h2⟩:=q; exact h2.elim
 | exit i=>obtain⟨β',l',L',h1,h2⟩:=q; exact h2.elim
 | _=>exact q.elim

theorem Q7e {ops:List Oper} {id:Nat} (ws los his:List Nat) (Ls:List Loc) (hE:E.Ok P) (hm:P.follows .mixedOrders=true) (chk:H19 ops ws los his=true) (h0:Ls[0]? = some L) (h1:Ls[ws.length]? = some L')
  (h:Zs P N ops.toArray ws los his Ls 0 ops l (fun l'=>Q.norm l' L' k)) (h2:ops.all Zu=true:=by rfl):JI E P N (.region id ops.toArray true) Q l L k:=by
 refine Qfb hE fun n a w β hs=>?_
 have hc:=h.cfg (N:=N) (N':=J7a N L) rfl
 obtain⟨val,pc,hK⟩:=H53 ops ws los his Ls l _ ops.length (Kb) (fun j o d hj ho _=>by have:=(Ex ho).1; omega) ops 0 (fun _=>.junk) (fun j _=>by simp) (by simp) (fun j o hj=>by omega) hc
 refine wpIn_region_any hm ?_
 rw [List.size_toArray]
 refine Hd4 (ro:=none) (n:=n) (fun i o hi=>List.all_eq_true.1 h2 o (K0 hi)) chk pc (.inl ⟨rfl,fun L'' hL''=>by rw [h1] at hL''; cases hL''; exact hK⟩) ops.length (Array.replicate ops.length false) a _ ?_ (by simp only [Array.getD_eq_getD_getElem?,Array.getElem?_replicate]; split <;> rfl) ⟨by simp,⟨fun i o e hi=>?_⟩,β,L,?_,?_⟩
 ·exact Nat.le_trans (Eo _ _) (by simp)
 ·simp only [Array.getD_eq_getD_getElem?,Array.getElem?_replicate] at hi
  split at hi <;> simp at hi
 ·have:cnt (fun i=>(Array.replicate ops.length false).getD i false) ws=0:=by
   unfold cnt
   have hf:∀ i,(Array.replicate ops.length false).getD i false=false:=fun i=>by
    simp only [Array.getD_eq_getD_getElem?,Array.getElem?_replicate]; split <;> rfl
   simp [hf]
  rw [this]; exact h0
 ·have this:Y5 ops l val (fun i=>(Array.replicate ops.length false).getD i false) ops.length=l:=by
   have hf:(fun i=>(Array.replicate ops.length false).getD i false)=fun _=>false:=by
    funext i
    simp only [Array.getD_eq_getD_getElem?,Array.getElem?_replicate]; split <;> rfl
   rw [hf]
   have:∀ n,Y5 ops l val (fun _=>false) n=l:=by
    intro n
    induction n with
    | zero=>rfl
    | succ n ih=>
     cases hd:(ops[n]?).bind (·.dst) with
     | none=>simp only [Y5,hd]; exact ih
     | some d=>simp only [Y5,hd,Bool.false_eq_true,if_false]; exact ih
   exact this _
  rw [this]; exact hs.drew

end
end Go.Proofs.YtokjlondbjdlfaaGreat
