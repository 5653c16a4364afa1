/-
 What slices.Insert and slices.Delete do to a slice of the ca Fresh results that bear a slice which may be written in plac A literal as a slice of the call's own,that may be appended
-/
import Derived.Test.YthkihfoleenlmaaGreatLent
import Derived.Lib.Overlaps
import Derived.Lib.AppendZerosOnto
namespace Go.Proofs.YthkihfoleenlmaaGreat
open Go.RowKit

theorem ZP.one {w:World} {ob:Option Nat} {t k n c:Nat} {v:Value} (h:ZP w ob t k n c v):v.oneCell'=true:=by
 rcases h with ⟨rfl,_⟩ | ⟨b,rfl,_⟩ <;> rfl

section state
variable {N:Cfg} {l:Fr} {L:Loc} {w0 w:World} {β0 β:Gx} {L0:Loc} {a:Act}
theorem Jw.over {s:Nat} {u:AV} (h:Jw a w β L l) (hv:V w β L u (a.tmps.getD s undef)):Jw a w β L ((s,u)::l):=⟨fun t=>by
 rw [look]
 cases hb:Nat.beq s t with
 | true=>have:=Nj hb; subst this; exact hv
 | false=>exact h.tmp t⟩
theorem R4.vcap (hs:R4 N w0 β0 L0 a w β l L) {s i ver k n t:Nat} {xs:List AV} (h1:look l s=.vec i ver k n) (hi:lk L i=some (.vec t k ver xs)):∃ c,xs.length≤c∧c≤maxLen∧R4 N w0 β0 L0 a w β ((s,.vcap i ver k xs.length c)::l) L:=by
 have hv:=hs.frame.tmp s
 rw [h1] at hv
 obtain⟨rfl,_,h⟩:=eW hs.sat hi hv
 suffices h0:∃ c,xs.length≤c∧c≤maxLen∧ZP w (β.at_ i) t k xs.length c (a.tmps.getD s undef) from by
  obtain⟨c,c1,c2,c3⟩:=h0
  exact⟨c,c1,c2,hs.sat,hs.step,hs.frame.over (.vcap ⟨t,ver,xs,hi,Ny,fun _=>c3⟩ c3.one),hs.size,hs.base,hs.defers⟩
 rcases h with ⟨e1,rfl,e3⟩ | ⟨b,cap,vs,e1,e2,e3,e4,e5,e6,_⟩
 ·exact⟨0,Ny,Nat.zero_le _,.inl ⟨e1,rfl,rfl,e3⟩⟩
 ·exact⟨cap,e3,e4,.inr ⟨b,e1,e2,e3,e4,by simp [World.shape?,e5,e6]⟩⟩

end state

section ghosts
variable {P:Program} {N:Cfg} {Q:Post} {l:Fr} {L:Loc} {ops:Array Oper} {rest:List Oper} {c:Code}
end ghosts

section ops
variable {P:Program} {N:Cfg} {o:Oper} {l:Fr} {L:Loc} {u:AV}
/-! ### Typed elements -/
end ops

section lits
variable {P:Program} {o:Oper} {l:Fr} {L:Loc}
end lits


theorem Hb8 {w:World} {β:Gx} {L:Loc} {i:Nat} (E k:Nat) (vs:Array Value) (xs:List AV) (hk:∀ x∈xs,x.cells.length=k) (h7:vs.size=xs.length*k) (h8:xs.length≤maxLen) (hD:∀ (j:Nat) u v,(flat xs)[j]? = some u→vs[j]? = some v→D w (Jc w β L) u v) (h0:Sat w β L) (hi:lk L i=none) :
    Step w β L (w.alloc (.cells vs E)) (upP β i (some w.heap.size)) ((i,.spare E k xs.length xs.length)::L)∧Sat (w.alloc (.cells vs E)) (upP β i (some w.heap.size)) ((i,.spare E k xs.length xs.length)::L) ∧
    V (w.alloc (.cells vs E)) (upP β i (some w.heap.size)) ((i,.spare E k xs.length xs.length)::L) (.own i xs.length k xs) (.slice (some ⟨w.heap.size,0,none⟩) xs.length xs.length):=by
  have a2:∀ id,(lk L id).isSome=true→i≠id:=fun id h e=>by subst e; rw [hi] at h; cases h
  have h6:∀ b,b < w.heap.size→(w.alloc (.cells vs E)).heap[b]? = w.heap[b]? := fun b hb=>Q5 w _ hb
  have h5:w.heap.size < (w.alloc (.cells vs E)).heap.size:=by simp
  have st:Step w β L (w.alloc (.cells vs E)) (upP β i (some w.heap.size)) ((i,.spare E k xs.length xs.length)::L):=by
    refine⟨rfl,rfl,⟨rfl,Ny⟩,Nat.le_of_lt h5,fun _ _ _=>Iff.rfl,fun b j hs=>⟨⟨Nat.lt_trans hs.lt h5,hs.seen,fun id ob hid hb=>?_⟩,Jq (w:=w) (h6 b hs.lt)⟩,fun b hb a0=>⟨h6 b hb,fun id hid e=>?_⟩,fun id t cs hid=>?_,fun id t cs hid=>?_,fun id t n cs hid=>?_,fun id t k' ver zs hid=>?_,fun id t k' ver hw hid=>?_⟩
    · rw [Gf] at hid
      by_cases e:i=id
      · subst e; simp only [upP,if_true] at hb; cases hb; exact absurd hs.lt (Nat.lt_irrefl _)
      · rw [if_neg e] at hid; simp only [upP,if_neg (Ne.symm e)] at hb; exact hs.kept id ob hid hb
    · rw [Gf] at hid
      by_cases e':i=id
      · subst e'; simp only [upP,if_true] at e; cases e; exact absurd hb (Nat.lt_irrefl _)
      · rw [if_neg e'] at hid; simp only [upP,if_neg (Ne.symm e')] at e; exact a0 id hid e
    all_goals
      have e:=a2 id (by rw [hid]; rfl)
    · exact⟨by simp [upP,Ne.symm e],cs,by rw [Gf,if_neg e]; exact hid⟩
    · exact⟨by simp [upP,Ne.symm e],cs,by rw [Gf,if_neg e]; exact hid⟩
    · exact⟨by simp [upP,Ne.symm e],n,cs,by rw [Gf,if_neg e]; exact hid⟩
    · exact⟨ver,zs,by rw [Gf,if_neg e]; exact hid,Ny,fun _=>⟨rfl,by simp [upP,Ne.symm e],fun b hb=>aO (h6 b (h0.bnd id b (by rw [hid]; rfl) hb))⟩⟩
    · exact⟨ver,hw,by rw [Gf,if_neg e]; exact hid,Ny,fun _=>⟨rfl,by simp [upP,Ne.symm e],fun b hb=>h6 b (h0.bnd id b (by rw [hid]; rfl) hb)⟩⟩
  refine⟨st,⟨fun b j h=>Nat.lt_trans (h0.hid b j h) h5,fun id b hid hb=>?_,fun id b j hid hb hh=>?_,fun id id' b h1 h2 h3 h4=>?_,fun id ob hid=>?_⟩,?_⟩
  · rw [Gf] at hid
    by_cases e:i=id
    · subst e; simp only [upP,if_true] at hb; cases hb; exact h5
    · rw [if_neg e] at hid; simp only [upP,if_neg (Ne.symm e)] at hb; exact Nat.lt_trans (h0.bnd id b hid hb) h5
  · rw [Gf] at hid
    by_cases e:i=id
    · subst e; simp only [upP,if_true] at hb; cases hb; exact absurd (h0.hid _ _ hh) (Nat.lt_irrefl _)
    · rw [if_neg e] at hid; simp only [upP,if_neg (Ne.symm e)] at hb; exact h0.apart id b j hid hb hh
  · by_cases e:i=id
    · by_cases e':i=id'
      · rw [← e,e']
      · subst e
        rw [Gf,if_neg e'] at h2
        simp only [upP,if_true] at h3
        simp only [upP,if_neg (Ne.symm e')] at h4
        cases h3
        exact absurd (h0.bnd id' _ h2 h4) (Nat.lt_irrefl _)
    · by_cases e':i=id'
      · subst e'
        rw [Gf,if_neg e] at h1
        simp only [upP,if_true] at h4
        simp only [upP,if_neg (Ne.symm e)] at h3
        cases h4
        exact absurd (h0.bnd id _ h1 h3) (Nat.lt_irrefl _)
      · rw [Gf,if_neg e] at h1
        rw [Gf,if_neg e'] at h2
        simp only [upP,if_neg (Ne.symm e)] at h3
        simp only [upP,if_neg (Ne.symm e')] at h4
        exact h0.inj id id' b h1 h2 h3 h4
  · rw [Gf] at hid
    by_cases e:i=id
    · subst e; rw [if_pos rfl] at hid; cases hid
      exact .inr ⟨w.heap.size,by simp [upP],vs,heap_alloc_new w _,by rw [h7]; exact Ny⟩
    · rw [if_neg e] at hid
      simp only [upP,if_neg (Ne.symm e)]
      exact(h0.obj id ob hid).step st (fun b hb=>h6 b (h0.bnd id b (by rw [hid]; rfl) hb))
  · have hn:=heap_alloc_new w (.cells vs E)
    have a3:(flat xs).length=xs.length*k:=J3 hk
    have a1:(w.alloc (.cells vs E)).ownsRow 0 E k (.slice (some ⟨w.heap.size,0,none⟩) xs.length xs.length) xs.length vs.toList:=
      ⟨by simp [h7],.inr ⟨w.heap.size,xs.length,vs,rfl,Nat.zero_le _,hn,Ny,h8,h7,by rw [List.take_of_length_le (by simp [h7])]⟩⟩
    refine .own ?_ ⟨E,xs.length,xs.length,by rw [Gf,if_pos rfl],Ny,fun _=>⟨rfl,by simp [Value.ownBlock,upP],vs.toList,a1,fun j u hu=>?_⟩⟩
    · refine .list (fun j=>vs.getD j undef) (Ny) h8 hk (fun j hj=>⟨⟨h5,fun hh=>absurd (h0.hid _ _ hh) (Nat.lt_irrefl _),fun id ob hid h9=>?_⟩,?_⟩) (fun j u hu=>?_)
      · rw [Gf] at hid
        by_cases e:i=id
        · subst e; rw [if_pos rfl] at hid; cases hid
          show 0+j < xs.length*k
          omega
        · rw [if_neg e] at hid
          simp only [upP,if_neg (Ne.symm e)] at h9
          exact absurd (h0.bnd id _ (by rw [hid]; rfl) h9) (Nat.lt_irrefl _)
      · have:j < vs.size:=by omega
        unfold World.cell?
        rw [hn]
        simp [this]
      · have hj:j < vs.size:=by
          have:=(Nt hu).1
          omega
        refine(hD j u _ hu ?_).mono st.stab
        simp [hj]
    · have hj:j < vs.size:=by
        have:=(Nt hu).1
        omega
      exact⟨vs[j],by simp [hj],(hD j u _ hu (by simp [hj])).mono st.stab⟩

section lits
variable {P:Program} {o:Oper} {l:Fr} {L:Loc}
theorem Ha2 (i:Nat) {T E k n:Nat} {parts:List (Nat×Operand)} {xs:List AV} (ho:o.op=.buildSlice T n parts.toArray) (hd:dH l (parts.map (·.2)) xs) (hT:sliceB P T E k=true) (hz:Rr P E k=true)
    (h4:parts.map (·.1)=List.range n) (hc:jL k xs=true) (hn:Nat.ble (n*k) 16777216=true) (a6:Nat.blt 0 k=true) (hi:lk L i=none):Gv P o l L (Is (.own i xs.length k xs) ((i,.spare E k xs.length xs.length)::L)):=by
  intro a w β K Q a3 hf hK
  have a4:=hd.length
  have a7:n=xs.length:=by
    have:=congrArg List.length h4
    simp only [P9,List.length_range] at this a4
    omega
  subst a7
  have h9:=iO hc
  have a0:∀ x∈xs,x.cells.length=k:=fun x hx=>(h9 x hx).1
  have h6:∀ x∈xs,x.isData=true:=by
    intro x hx
    obtain⟨j,hj,e⟩:=List.mem_iff_getElem.1 hx
    have a8:j < (parts.map (·.2)).length:=by omega
    exact e ▸ (hd.get (j:=j) (x:=(parts.map (·.2))[j]) (u:=xs[j]) (Nu a8) (Nu hj)).2
  have h7:=nX (k:=k) xs 0 (List.replicate (xs.length*k) .junk) (by simp) h9
  obtain⟨inf,z,a9,b0,b5⟩:=Rr.out hz
  let zs:Array Value:=if xs.length*k=0 then #[] else z.cells
  obtain⟨vs',e1,e2,e3⟩:=kT (w:=w) (β:=β) (L:=L) (qs:=parts.map fun p=>(p.1,a.eval p.2)) (vs:=(Array.range (xs.length*k)).map (zs[· % zs.size]!)) h7 (by
      have:=congrArg List.length h4
      simp only [P9,List.length_range] at this
      simp [this]) (fun j p q hp hq=>by
      simp only [P2,Option.map_eq_some_iff] at hq
      obtain⟨y,hy,rfl⟩:=hq
      rw [List.getElem?_zip_eq_some] at hp
      obtain⟨b1,b2⟩:=hp
      have h3:(parts.map (·.1))[j]? = (List.range xs.length)[j]? := by rw [h4]
      simp only [P2,hy,Option.map_some] at h3
      rw [List.range_eq_range',b1] at h3
      have:=(hd.get (j:=j) (x:=y.2) (u:=p.2) (by rw [P2,hy]; rfl) b2)
      have hv:=(hf.ev y.2).plain
      rw [this.1] at hv
      exact⟨(Nv h3).symm,hv⟩) (by simp) (fun j u v hu _=>by
      have:=List.eq_of_mem_replicate (Nw hu)
      subst this; exact .junk)
  have h8:(List.take (0*k) (List.replicate (xs.length*k) AV.junk))++flat xs=flat xs:=by simp
  rw [h8] at e2 e3
  have hr:(execOp a.eval o).run P w=.ok (.value (.slice (some ⟨w.heap.size,0,none⟩) xs.length xs.length)) (w.alloc (.cells vs' E)):=by
    have a1:=Q2 (sliceB.out hT).2 w
    have b4:xs.length*k≤16777216:=by simpa using hn
    have a2:¬ (xs.length*k > 2 ^ 24):=by
      have:(2:Nat) ^ 24=16777216:=by decide
      omega
    have hp:(parts.toArray.map fun(x:Nat×Operand)=>(x.1,a.eval x.2)).toList=parts.map fun p=>(p.1,a.eval p.2):=by simp
    by_cases h0:xs.length*k=0
    · have h5:zs=#[]:=by simp only [zs,if_pos h0]
      rw [h5] at e1
      simp only [execOp,ho,Instr.buildSlice,underlying,(sliceB.out hT).1,run_program,Sem.run_bind,Result.andThen_ok,a1,a2,if_false,Sem.run_pure,if_pos h0,hp,e1,newRow,run_newObj]
      rfl
    · have h5:zs=z.cells:=by simp only [zs,if_neg h0]
      rw [h5] at e1
      simp only [execOp,ho,Instr.buildSlice,underlying,(sliceB.out hT).1,run_program,Sem.run_bind,Result.andThen_ok,a1,a2,if_false,Sem.run_pure,if_neg h0,zeroValue,typeInfo,a9,b0,hp,e1,newRow,run_newObj]
      rfl
  unfold Oper.wp
  rw [hr]
  have a5:xs.length≤maxLen:=by
    have h1:xs.length*k≤16777216:=by simpa using hn
    have h2:0 < k:=by simpa [Nat.blt_eq] using a6
    have:xs.length*1≤xs.length*k:=Nat.mul_le_mul_left _ h2
    simp only [maxLen]; omega
  have b3:(flat xs).length=xs.length*k:=J3 a0
  obtain⟨st,sat,hv⟩:=Hb8 (i:=i) E k vs' xs a0 (by rw [e2,b3]) a5 (fun j u v hu hv=>(e3 j u v hu hv).toD (mX h6 u (Nw hu))) a3 hi
  exact hK _ _ _ _ _ ⟨rfl,rfl⟩ sat st hv
theorem H49 {α:Type} (i:Nat) {T E k n:Nat} {parts:List (Nat×Operand)} {f:α→AV} (xs:List α) (ho:o.op=.buildSlice T n parts.toArray) (hd:dH l (parts.map (·.2)) (xs.map f)) (hT:sliceB P T E k=true) (hz:Rr P E k=true)
    (h0:parts.map (·.1)=List.range n) (hc:jL k (xs.map f)=true) (hn:Nat.ble (n*k) 16777216=true) (h1:Nat.blt 0 k=true) (hi:lk L i=none):Gv P o l L (Is (OW i k f xs) ((i,.spare E k xs.length xs.length)::L)):=by
  have h:=Ha2 (P:=P) i ho hd hT hz h0 hc hn h1 hi
  simpa only [P9] using h
end lits
end Go.Proofs.YthkihfoleenlmaaGreat
