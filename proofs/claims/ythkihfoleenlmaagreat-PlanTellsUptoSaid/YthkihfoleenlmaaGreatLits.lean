/- Slices laid out in the text; -/
import Derived.Test.YthkihfoleenlmaaGreatSlices
namespace Go.Proofs.YthkihfoleenlmaaGreat
open Go.RowKit

theorem wS {k:Nat}:∀ (us:List AV) (j:Nat) (cells:List AV),cells.length=(j+us.length)*k→(∀ u∈us,u.cells.length=k/\u.flatOk=true) →
  rS (fun i=>some (i*k,k)) cells ((List.range' j us.length).zip us)=some (cells.take (j*k)++flat us)
 | [],j,cells,h,_=>by
  simp only [List.length_nil,Nat.add_zero] at h
  simp [rS,flat,← h]
 | u::r,j,cells,h,hu=>by
  obtain⟨h1,h2⟩:=hu u (by simp)
  have h0:j*k+k≤cells.length:=by
   rw [h]; simp only [Pi]
   have:(j+1)*k≤(j+(r.length+1))*k:=Nat.mul_le_mul_right k (by omega)
   rw [Nat.add_mul] at this; omega
  have e1:Nat.beq u.cells.length k=true:=by rw [h1]; exact Nat.beq_refl k
  have e2:Nat.ble (j*k+k) cells.length=true:=by simpa using h0
  simp only [Pi,List.range'_succ,List.zip_cons_cons,rS,e1,e2,h2,Bool.and_true,cond_true]
  have ih:=wS (k:=k) r (j+1) (cells.take (j*k)++u.cells++cells.drop (j*k+k)) (by
   simp only [Pn,List.length_take,List.length_drop,h1]
   rw [h] at h0 ⊢; simp only [Pi] at h0 ⊢
   rw [Nat.min_eq_left (by omega)]
   have:(j+1+r.length)*k=(j+(r.length+1))*k:=by congr 1; omega
   omega) (fun y hy=>hu y (by simp [hy]))
  rw [ih]
  congr 1
  have hl:(cells.take (j*k)++u.cells).length=(j+1)*k:=by simp [h1]; rw [Nat.add_mul]; omega
  rw [List.take_append_of_le_length (by rw [hl]; exact Pf),List.take_of_length_le (by rw [hl]; exact Pf)]
  simp [flat]

def uQ (k:Nat):List AV→Bool
 | []=>true
 | u::r=>Nat.beq u.cells.length k&&u.flatOk&&uQ k r
theorem rG {k:Nat}:∀ {us:List AV},uQ k us=true→∀ u∈us,u.cells.length=k/\u.flatOk=true
 | u::r,h,v,hv=>by
  simp only [uQ,Pp] at h
  rcases Pv.1 hv with rfl | hv
  .exact⟨P2 h.1.1,h.1.2⟩
  .exact rG h.2 v hv

theorem G08 {ok:Nat→Bool} {u:AV} (h:u.refs ok=true):∀ c∈u.cells,c.refs ok=true:=by
 intro c hc
 cases u with
 | agg cs=>exact bO (by simpa [AV.refs] using h) c (by simpa [AV.cells] using hc)
 | _=>simp [AV.cells] at hc; subst hc; exact h

theorem xH {ok:Nat→Bool}:∀ {us:List AV},(∀ u∈us,u.refs ok=true)→∀ c∈flat us,c.refs ok=true
 | u::r,h,c,hc=>by
  simp only [flat,Ps] at hc
  rcases hc with hc | hc
  .exact G08 (h u (by simp)) c hc
  .exact xH (fun y hy=>h y (by simp [hy])) c hc

section lits
variable {P:Program} {o:Oper} {l:Fr} {L:Loc}

theorem D.newRow {w:World} {β:H4} {L:Loc} {k:Nat} {xs:List AV} {vs:Array Value} {E:TypeId} (h0:Sat w β L) (hk:∀ x∈xs,x.cells.length=k) (hm:xs.length≤maxLen) (hs:vs.size=(flat xs).length)
  (h:∀ (j:Nat) u v,(flat xs)[j]? = some u→vs[j]? = some v→D w (Ji w β L) u v) :
  D (w.alloc (.cells vs E)) (Ji (w.alloc (.cells vs E)) β L) (.list k xs) (.slice (some ⟨w.heap.size,0,none⟩) xs.length xs.length):=by
 refine .list (fun j=>vs.getD j undef) (Pf) hm hk (fun j hj=>⟨Ji.new h0 _ _,?_⟩) (fun j u hu=>?_)
 .rw [World.cell?_alloc_new]
  rw [Nat.zero_add,Array.getD_eq_getD_getElem?,Array.getElem?_eq_getElem (by omega)]
  rfl
 .have hj:j < (flat xs).length:=by
   rcases P4 j (flat xs).length with h | h
   .exact h
   .simp [List.getElem?_eq_none h] at hu
  rw [Array.getD_eq_getD_getElem?,Array.getElem?_eq_getElem (by omega)]
  exact(h j u _ hu (by simp [Array.getElem?_eq_getElem (show j < vs.size by omega)])).mono (Step.new h0 _).stab

theorem Hf {T E k n:Nat} {parts:List (Nat×Operand)} {xs:List AV} (ho:o.op=.buildSlice T n parts.toArray) (hd:jK l (parts.map (·.2)) xs) (hT:sliceB P T E k=true) (hz:Yf P E k=true)
  (h5:parts.map (·.1)=List.range n) (hc:uQ k xs=true) (hn:Nat.ble (n*k) 16777216=true) (a4:Nat.blt 0 k=true):H2 P o l L (Is (.list k xs) L):=by
 intro a w β K Q h3 hf hK
 have a3:=hd.length
 have a5:n=xs.length:=by
  have:=congrArg List.length h5
  simp only [Pr,List.length_range] at this a3
  omega
 subst a5
 have a0:=rG hc
 have a6:∀ x∈xs,x.cells.length=k:=fun x hx=>(a0 x hx).1
 have h7:∀ x∈xs,x.isData=true:=by
  intro x hx
  obtain⟨j,hj,e⟩:=List.mem_iff_getElem.1 hx
  have a7:j < (parts.map (·.2)).length:=by omega
  exact e ▸ (hd.get (j:=j) (x:=(parts.map (·.2))[j]) (u:=xs[j]) (Pb a7) (Pb hj)).2
 have h8:=wS (k:=k) xs 0 (List.replicate (xs.length*k) .junk) (by simp) a0
 obtain⟨inf,z,hi,a8,b2⟩:=Yf.out hz
 let zs:Array Value:=if xs.length*k=0 then #[] else z.cells
 obtain⟨vs',e1,e2,e3⟩:=rF (w:=w) (β:=β) (L:=L) (qs:=parts.map fun p=>(p.1,a.eval p.2)) (vs:=(Array.range (xs.length*k)).map (zs[· % zs.size]!)) h8 (by
   have:=congrArg List.length h5
   simp only [Pr,List.length_range] at this
   simp [this]) (fun j p q hp hq=>by
   simp only [Pj,Option.map_eq_some_iff] at hq
   obtain⟨y,hy,rfl⟩:=hq
   rw [List.getElem?_zip_eq_some] at hp
   obtain⟨a9,b0⟩:=hp
   have h4:(parts.map (·.1))[j]? = (List.range xs.length)[j]? := by rw [h5]
   simp only [Pj,hy,Option.map_some] at h4
   rw [List.range_eq_range',a9] at h4
   have:=(hd.get (j:=j) (x:=y.2) (u:=p.2) (by rw [Pj,hy]; rfl) b0)
   have hv:=(hf.ev y.2).plain
   rw [this.1] at hv
   exact⟨(Pc h4).symm,hv⟩) (by simp) (fun j u v hu _=>by
   have:=List.eq_of_mem_replicate (Pd hu)
   subst this; exact .junk)
 have h9:(List.take (0*k) (List.replicate (xs.length*k) AV.junk))++flat xs=flat xs:=by simp
 rw [h9] at e2 e3
 have hr:(execOp a.eval o).run P w=.ok (.value (.slice (some ⟨w.heap.size,0,none⟩) xs.length xs.length)) (w.alloc (.cells vs' E)):=by
  have a1:=Qn (sliceB.out hT).2 w
  have b1:xs.length*k≤16777216:=by simpa using hn
  have a2:¬ (xs.length*k > 2 ^ 24):=by
   have:(2:Nat) ^ 24=16777216:=by decide
   omega
  have hp:(parts.toArray.map fun(x:Nat×Operand)=>(x.1,a.eval x.2)).toList=parts.map fun p=>(p.1,a.eval p.2):=by simp
  by_cases h0:xs.length*k=0
  .have h6:zs=#[]:=by simp only [zs,if_pos h0]
   rw [h6] at e1
   simp only [execOp,ho,Instr.buildSlice,underlying,(sliceB.out hT).1,run_program,Sem.run_bind,Result.andThen_ok,a1,a2,if_false,Sem.run_pure,if_pos h0,hp,e1,newRow,run_newObj]
   rfl
  .have h6:zs=z.cells:=by simp only [zs,if_neg h0]
   rw [h6] at e1
   simp only [execOp,ho,Instr.buildSlice,underlying,(sliceB.out hT).1,run_program,Sem.run_bind,Result.andThen_ok,a1,a2,if_false,Sem.run_pure,if_neg h0,zeroValue,typeInfo,hi,a8,hp,e1,newRow,run_newObj]
   rfl
 unfold Oper.wp
 rw [hr]
 exact hK _ _ _ _ β ⟨rfl,rfl⟩ (h3.new _) (Step.new h3 _) (.data (D.newRow h3 a6 (by
  have h1:xs.length*k≤16777216:=by simpa using hn
  have h2:0 < k:=by simpa [Nat.blt_eq] using a4
  have:xs.length*1≤xs.length*k:=Nat.mul_le_mul_left _ h2
  simp only [maxLen]; omega) e2 (fun j u v hu hv=>(e3 j u v hu hv).toD (xH h7 u (Pd hu)))))
end lits
end Go.Proofs.YthkihfoleenlmaaGreat
