/-
 Slices laid out in the text; slices of slices.
-/
import Derived.Test.YtecjdioomlhhiaaGreatSlices
namespace Go.Proofs.YtecjdioomlhhiaaGreat
open Go.RowKit

theorem He2 {k:Nat}:∀ (us:List AV) (j:Nat) (cells:List AV),cells.length=(j+us.length)*k→(∀ u∈us,u.cells.length=k∧u.flatOk=true) →
  H75 (fun i=>some (i*k,k)) cells ((List.range' j us.length).zip us)=some (cells.take (j*k)++flat us)
 | [],j,cells,h,_=>by
  simp only [List.length_nil,Nat.add_zero] at h
  simp [H75,flat,← h]
 | u::r,j,cells,h,hu=>by
  obtain⟨h1,h2⟩:=hu u (by simp)
  have hlen:j*k+k≤cells.length:=by
   rw [h]; simp only [List.length_cons]
   have:(j+1)*k≤(j+(r.length+1))*k:=Nat.mul_le_mul_right k (by omega)
   rw [Nat.add_mul] at this; omega
  have e1:Nat.beq u.cells.length k=true:=by rw [h1]; exact Nat.beq_refl k
  have e2:Nat.ble (j*k+k) cells.length=true:=by simpa using hlen
  simp only [List.length_cons,List.range'_succ,List.zip_cons_cons,H75,e1,e2,h2,Bool.and_true,cond_true]
  have ih:=He2 (k:=k) r (j+1) (cells.take (j*k)++u.cells++cells.drop (j*k+k)) (by
   simp only [List.length_append,List.length_take,List.length_drop,h1]
   rw [h] at hlen ⊢; simp only [List.length_cons] at hlen ⊢
   rw [Nat.min_eq_left (by omega)]
   have:(j+1+r.length)*k=(j+(r.length+1))*k:=by congr 1; omega
   omega) (fun y hy=>hu y (by simp [hy]))
  rw [ih]
  congr 1
  have hl:(cells.take (j*k)++u.cells).length=(j+1)*k:=by simp [h1]; rw [Nat.add_mul]; omega
  rw [List.take_append_of_le_length (by rw [hl]; exact Nat.le_refl _),List.take_of_length_le (by rw [hl]; exact Nat.le_refl _)]
  simp [flat]

def Hb8 (k:Nat):List AV→Bool
 | []=>true
 | u::r=>Nat.beq u.cells.length k&&u.flatOk&&Hb8 k r
theorem H65 {k:Nat}:∀ {us:List AV},Hb8 k us=true→∀ u∈us,u.cells.length=k∧u.flatOk=true
 | u::r,h,v,hv=>by
  simp only [Hb8,Bool.and_eq_true] at h
  rcases List.mem_cons.1 hv with rfl | hv
  ·exact⟨Nat.eq_of_beq_eq_true h.1.1,h.1.2⟩
  ·exact H65 h.2 v hv

theorem Jed {ok:Nat→Bool} {u:AV} (h:u.refs ok=true):∀ c∈u.cells,c.refs ok=true:=by
 intro c hc
 cases u with
 | agg cs=>exact G27 (by simpa [AV.refs] using h) c (by simpa [AV.cells] using hc)
 | _=>simp [AV.cells] at hc; subst hc; exact h

theorem Hf8 {ok:Nat→Bool}:∀ {us:List AV},(∀ u∈us,u.refs ok=true)→∀ c∈flat us,c.refs ok=true
 | u::r,h,c,hc=>by
  simp only [flat,List.mem_append] at hc
  rcases hc with hc | hc
  ·exact Jed (h u (by simp)) c hc
  ·exact Hf8 (fun y hy=>h y (by simp [hy])) c hc

section lits
variable {P:Program} {o:Oper} {l:Fr} {L:Loc}

theorem D.newRow {w:World} {β:H5} {L:Loc} {k:Nat} {xs:List AV} {vs:Array Value} {E:TypeId} (hsat:Sat w β L) (hk:∀ x∈xs,x.cells.length=k) (hm:xs.length≤maxLen) (hs:vs.size=(flat xs).length)
  (h:∀ (j:Nat) u v,(flat xs)[j]? = some u→vs[j]? = some v→D w (Jy w β L) u v) :
  D (w.alloc (.cells vs E)) (Jy (w.alloc (.cells vs E)) β L) (.list k xs) (.slice (some ⟨w.heap.size,0,none⟩) xs.length xs.length):=by
 refine .list (fun j=>vs.getD j undef) (Nat.le_refl _) hm hk (fun j hj=>⟨Jy.new hsat _ _,?_⟩) (fun j u hu=>?_)
 ·rw [World.cell?_alloc_new]
  rw [Nat.zero_add,Array.getD_eq_getD_getElem?,Array.getElem?_eq_getElem (by omega)]
  rfl
 ·have hj:j < (flat xs).length:=by
   rcases Nat.lt_or_ge j (flat xs).length with h | h
   ·exact h
   ·simp [List.getElem?_eq_none h] at hu
  rw [Array.getD_eq_getD_getElem?,Array.getElem?_eq_getElem (by omega)]
  exact(h j u _ hu (by simp [Array.getElem?_eq_getElem (show j < vs.size by omega)])).mono (Step.new hsat _).stab

theorem Hj {T E k n:Nat} {parts:List (Nat×Operand)} {xs:List AV} (ho:o.op=.buildSlice T n parts.toArray) (hd:Gb6 l (parts.map (·.2)) xs) (hT:sliceB P T E k=true) (hz:G01 P E k=true)
  (hix:parts.map (·.1)=List.range n) (hc:Hb8 k xs=true) (hn:Nat.ble (n*k) 16777216=true) (hk0:Nat.blt 0 k=true):H1 P o l L (Is (.list k xs) L):=by
 intro a w β K Q hsat hf hK
 have hlen:=hd.length
 have hnl:n=xs.length:=by
  have:=congrArg List.length hix
  simp only [List.length_map,List.length_range] at this hlen
  omega
 subst hnl
 have hc':=H65 hc
 have hkc:∀ x∈xs,x.cells.length=k:=fun x hx=>(hc' x hx).1
 have hdata:∀ x∈xs,x.isData=true:=by
  intro x hx
  obtain⟨j,hj,e⟩:=List.mem_iff_getElem.1 hx
  have hj2:j < (parts.map (·.2)).length:=by omega
  exact e ▸ (hd.get (j:=j) (x:=(parts.map (·.2))[j]) (u:=xs[j]) (List.getElem?_eq_getElem hj2) (List.getElem?_eq_getElem hj)).2
 have hfill:=He2 (k:=k) xs 0 (List.replicate (xs.length*k) .junk) (by simp) hc'
 obtain⟨inf,z,hi,hz1,hz2⟩:=G01.out hz
 let zs:Array Value:=if xs.length*k=0 then #[] else z.cells
 obtain⟨vs',e1,e2,e3⟩:=H63 (w:=w) (β:=β) (L:=L) (qs:=parts.map fun p=>(p.1,a.eval p.2)) (vs:=(Array.range (xs.length*k)).map (zs[· % zs.size]!)) hfill (by
   have:=congrArg List.length hix
   simp only [List.length_map,List.length_range] at this
   simp [this]) (fun j p q hp hq=>by
   simp only [List.getElem?_map,Option.map_eq_some_iff] at hq
   obtain⟨y,hy,rfl⟩:=hq
   rw [List.getElem?_zip_eq_some] at hp
   obtain⟨hp1,hp2⟩:=hp
   have hix':(parts.map (·.1))[j]? = (List.range xs.length)[j]? := by rw [hix]
   simp only [List.getElem?_map,hy,Option.map_some] at hix'
   rw [List.range_eq_range',hp1] at hix'
   have:=(hd.get (j:=j) (x:=y.2) (u:=p.2) (by rw [List.getElem?_map,hy]; rfl) hp2)
   have hv:=(hf.ev y.2).plain
   rw [this.1] at hv
   exact⟨(Option.some.inj hix').symm,hv⟩) (by simp) (fun j u v hu _=>by
   have:=List.eq_of_mem_replicate (List.mem_of_getElem? hu)
   subst this; exact .junk)
 have hflat:(List.take (0*k) (List.replicate (xs.length*k) AV.junk))++flat xs=flat xs:=by simp
 rw [hflat] at e2 e3
 have hr:(execOp a.eval o).run P w=.ok (.value (.slice (some ⟨w.heap.size,0,none⟩) xs.length xs.length)) (w.alloc (.cells vs' E)):=by
  have hsz:=Qr (sliceB.out hT).2 w
  have hle0:xs.length*k≤16777216:=by simpa using hn
  have hle:¬ (xs.length*k > 2 ^ 24):=by
   have:(2:Nat) ^ 24=16777216:=by decide
   omega
  have hp:(parts.toArray.map fun(x:Nat×Operand)=>(x.1,a.eval x.2)).toList=parts.map fun p=>(p.1,a.eval p.2):=by simp
  by_cases h0:xs.length*k=0
  ·have hzs:zs=#[]:=by simp only [zs,if_pos h0]
   rw [hzs] at e1
   simp only [execOp,ho,Instr.buildSlice,underlying,(sliceB.out hT).1,run_program,Sem.run_bind,Result.andThen_ok,hsz,hle,if_false,Sem.run_pure,if_pos h0,hp,e1,newRow,run_newObj]
   rfl
  ·have hzs:zs=z.cells:=by simp only [zs,if_neg h0]
   rw [hzs] at e1
   simp only [execOp,ho,Instr.buildSlice,underlying,(sliceB.out hT).1,run_program,Sem.run_bind,Result.andThen_ok,hsz,hle,if_false,Sem.run_pure,if_neg h0,zeroValue,typeInfo,hi,hz1,hp,e1,newRow,run_newObj]
   rfl
 unfold Oper.wp
 rw [hr]
 exact hK _ _ _ _ β ⟨rfl,rfl⟩ (hsat.new _) (Step.new hsat _) (.data (D.newRow hsat hkc (by
  have h1:xs.length*k≤16777216:=by simpa using hn
  have h2:0 < k:=by simpa [Nat.blt_eq] using hk0
  have:xs.length*1≤xs.length*k:=Nat.mul_le_mul_left _ h2
  simp only [maxLen]; omega) e2 (fun j u v hu hv=>(e3 j u v hu hv).toD (Hf8 hdata u (List.mem_of_getElem? hu)))))
end lits
end Go.Proofs.YtecjdioomlhhiaaGreat
