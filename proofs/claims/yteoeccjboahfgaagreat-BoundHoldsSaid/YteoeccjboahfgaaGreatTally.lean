/-
 Points where ways meet again; conditions that are known. Maps that count.
-/
import Derived.Test.YteoeccjboahfgaaGreatKeys
namespace Go.Proofs.YteoeccjboahfgaaGreat
section
variable {P:Program} {N:G2c} {Q:Post} {l:Fr} {L:Loc}
theorem Jm {x y:Code} {X:Type} (I:X→Prop) (F:X→Fr) (M:X→Loc)
  (h1:∀ K:Fr→Loc→Prop,(∀ l L v,I v→Fits N.base l L (F v) (M v)→K l L)→JC P N x (Q.seq K) l L)
  (h2:∀ v,I v→JC P N y Q (F v) (M v)):JC P N (.seq x y) Q l L:=
 G5 fun K hK=>h1 K fun l L v hv hf=>hK l L (Re hf (h2 v hv))
theorem He8 {c:Operand} {x y:Code} (hc:ev l c=.sc (.bool true)) (ht:JC P N x Q l L):JC P N (.cond c x y) Q l L:=
 Gn hc (fun _=>ht) (fun h=>by cases h)
theorem H74 {c:Operand} {x y:Code} (hc:ev l c=.sc (.bool false)) (hf:JC P N y Q l L):JC P N (.cond c x y) Q l L:=
 Gn hc (fun h=>by cases h) (fun _=>hf)
def unseen (n:Nat) (seen:List Nat):Nat:=((List.range n).filter fun j=>!seen.contains j).length
theorem H7c {n j:Nat} {seen:List Nat} (hj:j < n) (hs:j ∉ seen):unseen n (seen++[j]) < unseen n seen:=by
 unfold unseen
 have h1:(List.range n).filter (fun i=>!(seen++[j]).contains i)=((List.range n).filter fun i=>!seen.contains i).filter fun i=>i != j:=by
  rw [List.filter_filter]
  congr 1
  funext i
  simp only [List.contains_append,Bool.not_or,List.contains_cons,List.contains_nil,Bool.or_false,bne]
  rw [Bool.and_comm]
 rw [h1]
 have hm:j∈(List.range n).filter fun i=>!seen.contains i:=by simp [hj,hs]
 have:∀ (l:List Nat),j∈l→(l.filter fun i=>i != j).length < l.length:=by
  intro l
  induction l with
  | nil=>intro h; cases h
  | cons a r ih=>
   intro h
   by_cases e:a=j
   ·subst e
    have:=List.length_filter_le (fun i=>i != a) r
    simp
    omega
   ·have hr:j∈r:=by
     rcases List.mem_cons.1 h with h | h
     ·exact absurd h.symm e
     ·exact h
    have:=ih hr
    simp [e]
    omega
 exact this _ hm
end
mutual
theorem refs_any (ok:Nat→Bool):∀ u:AV,u.refs (fun _=>false)=true→u.refs ok=true
 | .junk,_=>rfl
 | .sc _,_=>rfl
 | .list _ _,_=>rfl
 | .lst ..,_=>rfl
 | .dptr _,_=>rfl
 | .agg cs,h=>Hx ok cs h
 | .tup cs,h=>Hx ok cs h
 | .fn _ cs,h=>Hx ok cs h
 | .bfn _ cs,h=>Hx ok cs h
 | .opt _ x,h=>refs_any ok x h
 | .ptr _ _,h=>by cases h
 | .own ..,h=>by cases h
 | .ms ..,h=>by cases h
 | .mp _,h=>by cases h
 | .it _,h=>by cases h
 | .vec ..,h=>by cases h
theorem Hx (ok:Nat→Bool):∀ us:List AV,Rs (fun _=>false) us=true→Rs ok us=true
 | [],_=>rfl
 | u::r,h=>by
  simp only [Rs,Bool.and_eq_true] at h ⊢
  exact⟨refs_any ok u h.1,Hx ok r h.2⟩
end
end Go.Proofs.YteoeccjboahfgaaGreat
namespace Go.Proofs.YteoeccjboahfgaaGreat
set_option linter.unusedVariables false
set_option linter.unusedSimpArgs false
section
variable {κ ν:Type} [DecidableEq κ]

theorem mhas_iff {l:List (κ×ν)} {a:κ}:G42 l a=true ↔ a∈l.map (·.1):=by
 simp [G42]
theorem G71 (p:κ×ν) (l:List (κ×ν)) (a:κ):G25 (p::l) a=if p.1=a then some p.2 else G25 l a:=by
 unfold G25
 rw [List.find?_cons]
 by_cases h:p.1=a <;> simp [h]
theorem J25 (l m:List (κ×ν)) (a:κ):G25 (l++m) a=(G25 l a).or (G25 m a):=by
 induction l with
 | nil=>simp [G25]
 | cons p l ih=>rw [List.cons_append,G71,G71,ih]; split <;> simp
theorem Gff {l:List (κ×ν)} {a:κ}:(G25 l a).isSome=G42 l a:=by
 induction l with
 | nil=>rfl
 | cons p l ih=>
  rw [G71]
  simp only [G42,List.any_cons]
  by_cases h:p.1=a
  ·simp [h]
  ·simpa [h,G42] using ih
theorem H3e {l:List (κ×ν)} {a:κ} (h:G42 l a=false):G25 l a=none:=by
 have:=Gff (l:=l) (a:=a)
 rw [h] at this
 simpa using this
theorem H20 (l:List (κ×ν)) (a b:κ) (v:ν):G25 (G4c l a v) b=if a=b then some v else G25 l b:=by
 unfold G4c
 split
 ·rename_i h
  induction l with
  | nil=>simp [G42] at h
  | cons p l ih=>
   rw [List.map_cons,G71,G71]
   by_cases hp:p.1=a
   ·simp only [hp,if_true]
    by_cases hab:a=b
    ·simp [hab]
    ·simp only [hab,if_false]
     by_cases hl:G42 l a=true
     ·rw [ih hl,if_neg hab]
     ·have e:l.map (fun p=>if p.1=a then (a,v) else p)=l:=by
       conv=>rhs; rw [← List.map_id l]
       apply List.map_congr_left
       intro q hq
       have:q.1≠a:=fun e=>hl (mhas_iff.2 (List.mem_map.2 ⟨q,hq,e⟩))
       simp [this]
      rw [e]
   ·simp only [hp,if_false]
    have hl:G42 l a=true:=by simpa [G42,hp] using h
    rw [ih hl]
    by_cases hpb:p.1=b
    ·have:¬ a=b:=fun e=>hp (hpb.trans e.symm)
     simp [hpb,this]
    ·simp [hpb]
 ·rename_i h
  rw [J25,G71]
  by_cases hab:a=b
  ·subst hab; rw [H3e (by simpa using h)]; simp
  ·have:G25 ([]:List (κ×ν)) b=none:=rfl
   simp [hab,this]
theorem mget_mins (l:List (κ×ν)) (a:κ) (z:ν):(G25 (Ga9 l a z) a).getD z=(G25 l a).getD z:=by
 unfold Ga9
 split
 ·rfl
 ·rename_i h
  rw [J25,H3e (by simpa using h),G71]; simp

end
section
variable {P:Program} {o:Oper} {l:Fr} {L:Loc} {κ ν:Type} [DecidableEq κ] {kv:κ→Value} {av:ν→AV}
def arrB (P:Program) (T E k:Nat):Bool:=(match P.underlying T with | some (.array _ e)=>e==E | _=>false)&&R7 P E k
theorem Jaa {T E k:Nat} {parts:List (Nat×Operand)} {cs:List AV} (zs:List Value) (hT:arrB P T E k=true) (hz:(P.info? T).bind (fun i=>i.zero.map Value.cells)=some zs.toArray) (ho:o.op=.build T parts.toArray) (hfill:H12 (fun i=>some (i*k,k)) (zs.map .sc) (parts.map fun p=>(p.1,ev l p.2))=some cs):H3 P o l L (Is (.agg cs) L):=
 Hu fun a w β _ hf=>by
  unfold arrB at hT
  simp only [Bool.and_eq_true] at hT
  obtain⟨hT,hE⟩:=hT
  split at hT
  ·rename_i n e hu
   simp at hT; subst hT
   cases h1:P.info? T with
   | none=>rw [h1] at hz; simp at hz
   | some inf=>
    rw [h1] at hz
    cases h2:inf.zero with
    | none=>simp [h2] at hz
    | some z=>
     simp only [Option.bind_some,h2,Option.map_some,Option.some.injEq] at hz
     obtain⟨vs',e1,e2,e3⟩:=H02 (w:=w) (β:=β) (L:=L) (qs:=parts.map fun p=>(p.1,a.eval p.2)) (vs:=zs.toArray) hfill (by simp) (fun j p q hp hq=>by
      simp only [List.getElem?_map,Option.map_eq_some_iff] at hp hq
      obtain⟨x,hx,rfl⟩:=hp
      obtain⟨y,hy,rfl⟩:=hq
      rw [hx] at hy; cases hy
      exact⟨rfl,hf.ev _⟩) (by simp) (fun j u v hu hv=>by
      simp only [List.getElem?_map,Option.map_eq_some_iff] at hu
      obtain⟨x,hx,rfl⟩:=hu
      simp [hx] at hv; subst hv; exact .sc)
     refine⟨.agg vs',?_,.agg e2 e3⟩
     simp [execOp,ho,Instr.build,zeroValue,typeInfo,h1,h2,run_underlying hu,Qb hE w,hz,e1]
  ·cases hT
theorem Jdb {m x:Operand} {T K E i:Nat} {lst:List (κ×ν)} {a:κ} (z0:ν) (zv:Value) (ho:o.op=.lookup T m x false) (hm:ev l m=.mp i) (hi:lk L i=some (.map T (mapOf kv av (Ga9 lst a z0)))) (hn:(lst.map (·.1)).Nodup)
  (hx:ev l x=Yr (kv a)) (hk:Gd0 P K kv) (hT:G54 P T K E=true) (hz:(P.info? E).bind (·.zero)=some zv) (hzv:av z0=Yr zv) :
  H3 P o l L (Is (av ((G25 lst a).getD z0)) L):=by
 have h:=Ja7 (L:=L) z0 zv ho hm hi (nodup_mins hn a z0) hx hk hT hz hzv
 rw [mget_mins] at h
 exact h
end
end Go.Proofs.YteoeccjboahfgaaGreat
