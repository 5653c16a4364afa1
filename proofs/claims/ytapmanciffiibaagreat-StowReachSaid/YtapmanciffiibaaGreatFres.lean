/-
 Fresh results that bear a slice which may be written in place: literals into such a slice,and giving it away out of a variable's cell.
-/
import Derived.Test.YtapmanciffiibaaGreatIns
set_option linter.unusedVariables false
set_option linter.unusedSimpArgs false
set_option linter.unnecessarySimpa false
namespace Go.Proofs.YtapmanciffiibaaGreat
open Go.RowKit

section lits
variable {P:Program} {o:Oper} {l:Fr} {L:Loc}
theorem A_litVec (i:Nat) {T E k n ver ver1:Nat} {parts:List (Nat×Operand)} {xs ys:List AV} (ho:o.op=.buildSlice T n parts.toArray) (hd:Zt l (parts.map (·.2)) xs) (hT:sliceB P T E k=true) (hz:Qh P E k=true)
  (hix:parts.map (·.1)=List.range n) (hc:G7e k xs=true) (hn:Nat.ble (n*k) 16777216=true) (hk0:Nat.blt 0 k=true) (hi:lk L i=some (.vec E k ver ys)) (hver:ver < ver1):Gn P o l L (Is (.vec i ver1 k xs.length) ((i,.vec E k ver1 xs)::L)):=by
 intro a w β K Q hsat hf hK
 have hlen:=hd.length
 have hnl:n=xs.length:=by
  have:=congrArg List.length hix
  simp only [List.length_map,List.length_range] at this hlen
  omega
 subst hnl
 have hc':=G67 hc
 have hkc:∀ x∈xs,x.cells.length=k:=fun x hx=>(hc' x hx).1
 have hdata:∀ x∈xs,x.isData=true:=by
  intro x hx
  obtain⟨j,hj,e⟩:=List.mem_iff_getElem.1 hx
  have hj2:j < (parts.map (·.2)).length:=by omega
  exact e ▸ (hd.get (j:=j) (x:=(parts.map (·.2))[j]) (u:=xs[j]) (List.getElem?_eq_getElem hj2) (List.getElem?_eq_getElem hj)).2
 have hfill:=Gc3 (k:=k) xs 0 (List.replicate (xs.length*k) .junk) (by simp) hc'
 obtain⟨inf,z,hi0,hz1,hz2⟩:=Qh.out hz
 let zs:Array Value:=if xs.length*k=0 then #[] else z.cells
 obtain⟨vs',e1,e2,e3⟩:=G7d (w:=w) (β:=β) (L:=L) (qs:=parts.map fun p=>(p.1,a.eval p.2)) (vs:=(Array.range (xs.length*k)).map (zs[· % zs.size]!)) hfill (by
   have:=congrArg List.length hix
   simp only [List.length_map,List.length_range] at this
   simp [this]) (fun j p q hp hq=>by
   simp only [List.getElem?_map,Option.map_eq_some_iff] at hq
   obtain⟨y,hy,rfl⟩:=hq
   rw [List.getElem?_zip_eq_some] at hp
   obtain⟨hp1,hp2⟩:=hp
   have hix':(parts.map (·.1))[j]? = (List.range xs.length)[j]? := by rw [hix]
   simp only [List.getElem?_map,hy,Option.map_some] at hix'
   rw [List.range_eq_range',hp1] at hix'
   have:=(hd.get (j:=j) (x:=y.2) (u:=p.2) (by rw [List.getElem?_map,hy]; rfl) hp2)
   have hv:=(hf.ev y.2).plain
   rw [this.1] at hv
   exact⟨(Option.some.inj hix').symm,hv⟩) (by simp) (fun j u v hu _=>by
   have:=List.eq_of_mem_replicate (List.mem_of_getElem? hu)
   subst this; exact .junk)
 have hflat:(List.take (0*k) (List.replicate (xs.length*k) AV.junk))++flat xs=flat xs:=by simp
 rw [hflat] at e2 e3
 have hr:(execOp a.eval o).run P w=.ok (.value (.slice (some ⟨w.heap.size,0,none⟩) xs.length xs.length)) (w.alloc (.cells vs' E)):=by
  have hsz:=J9 (sliceB.out hT).2 w
  have hle0:xs.length*k≤16777216:=by simpa using hn
  have hle:¬ (xs.length*k > 2 ^ 24):=by
   have:(2:Nat) ^ 24=16777216:=by decide
   omega
  have hp:(parts.toArray.map fun(x:Nat×Operand)=>(x.1,a.eval x.2)).toList=parts.map fun p=>(p.1,a.eval p.2):=by simp
  by_cases h0:xs.length*k=0
  ·have hzs:zs=#[]:=by simp only [zs,if_pos h0]
   rw [hzs] at e1
   simp only [execOp,ho,Instr.buildSlice,underlying,(sliceB.out hT).1,run_program,Sem.run_bind,Result.andThen_ok,hsz,hle,if_false,Sem.run_pure,if_pos h0,hp,e1,newRow,run_newObj]
   rfl
  ·have hzs:zs=z.cells:=by simp only [zs,if_neg h0]
   rw [hzs] at e1
   simp only [execOp,ho,Instr.buildSlice,underlying,(sliceB.out hT).1,run_program,Sem.run_bind,Result.andThen_ok,hsz,hle,if_false,Sem.run_pure,if_neg h0,zeroValue,typeInfo,hi0,hz1,hp,e1,newRow,run_newObj]
   rfl
 unfold Oper.wp
 rw [hr]
 have hmax:xs.length≤maxLen:=by
  have h1:xs.length*k≤16777216:=by simpa using hn
  have h2:0 < k:=by simpa [Nat.blt_eq] using hk0
  have:xs.length*1≤xs.length*k:=Nat.mul_le_mul_left _ h2
  simp only [maxLen]; omega
 have hfl:(flat xs).length=xs.length*k:=Hh hkc
 have hheap:∀ b',b' < w.heap.size→(w.alloc (.cells vs' E)).heap[b']? = w.heap[b']? := fun b' hb'=>J1 w _ hb'
 have hnew:(w.alloc (.cells vs' E)).heap[w.heap.size]? = some (.cells vs' E (0,0)):=by
  show (w.heap.push (.cells vs' E))[w.heap.size]? = _
  simp
 have hhs:(w.alloc (.cells vs' E)).heap.size=w.heap.size+1:=by
  show (w.heap.push (.cells vs' E)).size=_
  simp
 obtain⟨st,sat⟩:=Qi (w':=w.alloc (.cells vs' E)) (t:=E) (k:=k) (ver1:=ver1) (xs':=xs) (ob':=some w.heap.size) hsat (.inr ⟨ver,ys,hi,by omega,fun e=>by omega⟩) rfl rfl ⟨rfl,Nat.le_refl _⟩ (by rw [hhs]; omega) (fun b' hb' _=>hheap b' hb') (.inr (.inr ⟨_,rfl,Nat.le_refl _,by rw [hhs]; omega⟩))
 refine hK _ _ _ _ _ ⟨rfl,rfl⟩ (sat ⟨hkc,.inr ⟨_,rfl,vs',hnew,by rw [e2,hfl]; exact Nat.le_refl _,fun j u v hu hv=>?_⟩⟩) st (.vec ⟨E,ver1,xs,by rw [Gb,if_pos rfl],Nat.le_refl _,fun _=>⟨rfl,.inr ⟨w.heap.size,xs.length,rfl,by simp [J2],Nat.le_refl _,hmax,by unfold World.shape?; rw [hnew]; simp only [e2,hfl]⟩⟩⟩ rfl)
 exact((e3 j u v hu hv).toD (Gc1 hdata u (List.mem_of_getElem? hu))).mono st.stab
theorem A_litVecM {α:Type} (i:Nat) {T E k n ver ver1:Nat} {parts:List (Nat×Operand)} {f:α→AV} (xs:List α) {ys:List AV} (ho:o.op=.buildSlice T n parts.toArray) (hd:Zt l (parts.map (·.2)) (xs.map f)) (hT:sliceB P T E k=true) (hz:Qh P E k=true)
  (hix:parts.map (·.1)=List.range n) (hc:G7e k (xs.map f)=true) (hn:Nat.ble (n*k) 16777216=true) (hk0:Nat.blt 0 k=true) (hi:lk L i=some (.vec E k ver ys)) (hver:ver < ver1):Gn P o l L (Is (.vec i ver1 k xs.length) ((i,.vec E k ver1 (xs.map f))::L)):=by
 have h:=A_litVec (P:=P) i ho hd hT hz hix hc hn hk0 hi hver
 simpa only [List.length_map] using h
end lits

/-- A slice of the call's own in a variable's cell is given away: nobody will write it any more. -/
theorem Q3.vgiveB {N:Yu} {l:Fr} {L:Loc} {w0 w:World} {β0 β:Gr} {L0:Loc} {a:Act} (hs:Q3 N w0 β0 L0 a w β l L) {i ver k n t t2 bx j:Nat} {cs:List AV} {xs:List AV} (ver1:Nat) (hbx:lk L bx=some (.box t2 cs)) (hj:cs[j]? = some (.vec i ver k n)) (hi:lk L i=some (.vec t k ver xs)) (hver:ver < ver1) :
  ∃ β',Q3 N w0 β0 L0 a w β' l ((bx,.box t2 (cs.set j (.list k xs)))::(i,.vec t k ver1 [])::L):=by
 have hne:i≠bx:=fun e=>by subst e; rw [hi] at hbx; cases hbx
 have hjl:j < cs.length:=(List.getElem?_eq_some_iff.1 hj).1
 obtain⟨b,hb,vs,hv1,hv2,hv3⟩:=hs.sat.obj bx _ hbx
 have hvj:j < vs.size:=by omega
 have hv:=hv3 j _ vs[j] hj (by simp [hvj])
 obtain⟨rfl,hk,h⟩:=G22 hs.sat hi hv
 obtain⟨st,sat⟩:=Qi (w':=w) (t:=t) (k:=k) (ver1:=ver1) (xs':=[]) (ob':=none) hs.sat (.inr ⟨ver,xs,hi,by omega,fun e=>by omega⟩) rfl rfl ⟨rfl,Nat.le_refl _⟩ (Nat.le_refl _) (fun _ _ _=>rfl) (.inl rfl)
 have sat':=sat ⟨by simp,.inl ⟨rfl,rfl⟩⟩
 have hs1:Q3 N w0 β0 L0 a w (J2 β i none) l ((i,.vec t k ver1 [])::L):=⟨sat',hs.step.trans st,hs.frame.step st,hs.size,hs.base,hs.defers.step st⟩
 have hb0:β.at_ bx=some b:=hb
 refine⟨_,hs1.redescribeB (i:=bx) (t:=t2) (cs:=cs) (by rw [Gb,if_neg hne]; exact hbx) (by simp) fun vs' q u v hrow' hall hsz hu hv'=>?_⟩
 by_cases e:j=q
 ·subst e
  rw [List.getElem?_set_self hjl] at hu
  cases hu
  obtain⟨b',hb',hr'⟩:=hrow'
  have hb':(J2 β i none).at_ bx=some b':=hb'
  have hup:(J2 β i none).at_ bx=β.at_ bx:=by simp [J2,Ne.symm hne]
  rw [hup,hb0] at hb'
  cases hb'
  rw [hv1] at hr'
  cases hr'
  have hvv:v=vs[j]:=by rw [Array.getElem?_eq_getElem hvj] at hv'; exact(Option.some.inj hv').symm
  subst hvv
  rcases h with ⟨e,rfl,_⟩ | ⟨b2,cap,vs2,e,hb2,h1,h2,h3,h4,h5⟩
  ·rw [e]; exact .data (.nil (Nat.zero_le _))
  ·rw [e]
   have hlt:∀ q,q < (flat xs).length→q < vs2.size:=fun q hq=>by
    rw [Hh hk] at hq
    have:=Nat.mul_le_mul_right k h1
    omega
   refine .data (.list (fun q=>vs2.getD q undef) h1 h2 hk (fun q hq=>⟨⟨(Array.getElem?_eq_some_iff.1 h3).1,hs.sat.apart i b2 _ (by rw [hi]; rfl) hb2,fun id o ho hbd=>?_⟩,?_⟩) (fun q u hu=>?_))
   ·rw [Gb] at ho
    by_cases e:i=id
    ·subst e; simp [J2] at hbd
    ·rw [if_neg e] at ho
     have hbd':β.at_ id=some b2:=by simpa [J2,Ne.symm e] using hbd
     exact absurd (hs.sat.inj i id b2 (by rw [hi]; rfl) (by rw [ho]; rfl) hb2 hbd') e
   ·have:=hlt q hq
    simp [World.cell?,h3,this]
   ·have hq:=(List.getElem?_eq_some_iff.1 hu).1
    have:=hlt q hq
    refine(h5 q u _ hu ?_).mono st.stab
    simp [this]
 ·rw [List.getElem?_set_ne e] at hu
  exact hall q u v hu hv'
theorem JC_vgiveB {P:Program} {N:Yu} {c:Code} {Q:Post} {l:Fr} {L:Loc} (bx j ver1:Nat) {i ver k n t t2:Nat} {cs cs':List AV} {xs:List AV} (hbx:lk L bx=some (.box t2 cs)) (hj:cs[j]? = some (.vec i ver k n)) (hi:lk L i=some (.vec t k ver xs)) (hver:ver < ver1) (hcs:cs.set j (.list k xs)=cs')
  (hk:JC P N c Q l ((bx,.box t2 cs')::(i,.vec t k ver1 [])::L)):JC P N c Q l L:=fun n w0 β0 L0 a w β hs=>by
 subst hcs
 obtain⟨β',h⟩:=hs.vgiveB ver1 hbx hj hi hver
 exact hk n w0 β0 L0 a w β' h
end Go.Proofs.YtapmanciffiibaaGreat
