/-
 Maps that count.
-/
import Derived.Test.YtkfhfoljfbjknaaGreatJoin
namespace Go.Proofs.YtkfhfoljfbjknaaGreat
set_option linter.unusedVariables false
set_option linter.unusedSimpArgs false
section
variable {κ ν:Type} [DecidableEq κ]

theorem mhas_iff {l:List (κ×ν)} {a:κ}:mhas l a=true ↔ a∈l.map (·.1):=by
 simp [mhas]
theorem mget_cons (p:κ×ν) (l:List (κ×ν)) (a:κ):mget (p::l) a=if p.1=a then some p.2 else mget l a:=by
 unfold mget
 rw [List.find?_cons]
 by_cases h:p.1=a <;> simp [h]
theorem mget_append (l m:List (κ×ν)) (a:κ):mget (l++m) a=(mget l a).or (mget m a):=by
 induction l with
 | nil=>simp [mget]
 | cons p l ih=>rw [List.cons_append,mget_cons,mget_cons,ih]; split <;> simp
theorem mget_isSome {l:List (κ×ν)} {a:κ}:(mget l a).isSome=mhas l a:=by
 induction l with
 | nil=>rfl
 | cons p l ih=>
  rw [mget_cons]
  simp only [mhas,List.any_cons]
  by_cases h:p.1=a
  ·simp [h]
  ·simpa [h,mhas] using ih
theorem mget_eq_none {l:List (κ×ν)} {a:κ} (h:mhas l a=false):mget l a=none:=by
 have:=mget_isSome (l:=l) (a:=a)
 rw [h] at this
 simpa using this
theorem mget_mput (l:List (κ×ν)) (a b:κ) (v:ν):mget (mput l a v) b=if a=b then some v else mget l b:=by
 unfold mput
 split
 ·rename_i h
  induction l with
  | nil=>simp [mhas] at h
  | cons p l ih=>
   rw [List.map_cons,mget_cons,mget_cons]
   by_cases hp:p.1=a
   ·simp only [hp,if_true]
    by_cases hab:a=b
    ·simp [hab]
    ·simp only [hab,if_false]
     by_cases hl:mhas l a=true
     ·rw [ih hl,if_neg hab]
     ·have e:l.map (fun p=>if p.1=a then (a,v) else p)=l:=by
       conv=>rhs; rw [← List.map_id l]
       apply List.map_congr_left
       intro q hq
       have:q.1≠a:=fun e=>hl (mhas_iff.2 (List.mem_map.2 ⟨q,hq,e⟩))
       simp [this]
      rw [e]
   ·simp only [hp,if_false]
    have hl:mhas l a=true:=by simpa [mhas,hp] using h
    rw [ih hl]
    by_cases hpb:p.1=b
    ·have:¬ a=b:=fun e=>hp (hpb.trans e.symm)
     simp [hpb,this]
    ·simp [hpb]
 ·rename_i h
  rw [mget_append,mget_cons]
  by_cases hab:a=b
  ·subst hab; rw [mget_eq_none (by simpa using h)]; simp
  ·have:mget ([]:List (κ×ν)) b=none:=rfl
   simp [hab,this]
theorem mget_mins (l:List (κ×ν)) (a:κ) (z:ν):(mget (mins l a z) a).getD z=(mget l a).getD z:=by
 unfold mins
 split
 ·rfl
 ·rename_i h
  rw [mget_append,mget_eq_none (by simpa using h),mget_cons]; simp

end
section
variable {P:Program} {o:Oper} {l:Fr} {L:Loc} {κ ν:Type} [DecidableEq κ] {kv:κ→Value} {av:ν→AV}
def arrB (P:Program) (T E k:Nat):Bool:=(match P.underlying T with | some (.array _ e)=>e==E | _=>false)&&sizeB P E k
theorem A_buildArr {T E k:Nat} {parts:List (Nat×Operand)} {cs:List AV} (zs:List Value) (hT:arrB P T E k=true) (hz:(P.info? T).bind (fun i=>i.zero.map Value.cells)=some zs.toArray) (ho:o.op=.build T parts.toArray) (hfill:fillAV (fun i=>some (i*k,k)) (zs.map .sc) (parts.map fun p=>(p.1,ev l p.2))=some cs):Ha P o l L (Is (.agg cs) L):=
 Hv fun a w β _ hf=>by
  unfold arrB at hT
  simp only [Bool.and_eq_true] at hT
  obtain⟨hT,hE⟩:=hT
  split at hT
  ·rename_i n e hu
   simp at hT; subst hT
   cases h1:P.info? T with
   | none=>rw [h1] at hz; simp at hz
   | some inf=>
    rw [h1] at hz
    cases h2:inf.zero with
    | none=>simp [h2] at hz
    | some z=>
     simp only [Option.bind_some,h2,Option.map_some,Option.some.injEq] at hz
     obtain⟨vs',e1,e2,e3⟩:=fill_ok (w:=w) (β:=β) (L:=L) (qs:=parts.map fun p=>(p.1,a.eval p.2)) (vs:=zs.toArray) hfill (by simp) (fun j p q hp hq=>by
      simp only [List.getElem?_map,Option.map_eq_some_iff] at hp hq
      obtain⟨x,hx,rfl⟩:=hp
      obtain⟨y,hy,rfl⟩:=hq
      rw [hx] at hy; cases hy
      exact⟨rfl,hf.ev _⟩) (by simp) (fun j u v hu hv=>by
      simp only [List.getElem?_map,Option.map_eq_some_iff] at hu
      obtain⟨x,hx,rfl⟩:=hu
      simp [hx] at hv; subst hv; exact .sc)
     refine⟨.agg vs',?_,.agg e2 e3⟩
     simp [execOp,ho,Instr.build,zeroValue,typeInfo,h1,h2,run_underlying hu,run_sizeOf' hE w,hz,e1]
  ·cases hT
theorem A_lookupIns {m x:Operand} {T K E i:Nat} {lst:List (κ×ν)} {a:κ} (z0:ν) (zv:Value) (ho:o.op=.lookup T m x false) (hm:ev l m=.mp i) (hi:lk L i=some (.map T (mapOf kv av (mins lst a z0)))) (hn:(lst.map (·.1)).Nodup)
  (hx:ev l x=zeroAV (kv a)) (hk:KeyL P K kv) (hT:mapB P T K E=true) (hz:(P.info? E).bind (·.zero)=some zv) (hzv:av z0=zeroAV zv) :
  Ha P o l L (Is (av ((mget lst a).getD z0)) L):=by
 have h:=A_lookup (L:=L) z0 zv ho hm hi (nodup_mins hn a z0) hx hk hT hz hzv
 rw [mget_mins] at h
 exact h
end
end Go.Proofs.YtkfhfoljfbjknaaGreat
