/-
 Maps that count.
-/
import Derived.Test.YtbljcmgjmieffaaGreatJoin
set_option linter.unnecessarySimpa false
namespace Go.Proofs.YtbljcmgjmieffaaGreat
set_option linter.unusedVariables false
set_option linter.unusedSimpArgs false
section
variable {κ ν:Type} [DecidableEq κ]

theorem mhas_iff {l:List (κ×ν)} {a:κ}:G2b l a=true ↔ a∈l.map (·.1):=by
 simp [G2b]
theorem G3d (p:κ×ν) (l:List (κ×ν)) (a:κ):Z7 (p::l) a=if p.1=a then some p.2 else Z7 l a:=by
 unfold Z7
 rw [List.find?_cons]
 by_cases h:p.1=a <;> simp [h]
theorem H94 (l m:List (κ×ν)) (a:κ):Z7 (l++m) a=(Z7 l a).or (Z7 m a):=by
 induction l with
 | nil=>simp [Z7]
 | cons p l ih=>rw [List.cons_append,G3d,G3d,ih]; split <;> simp
theorem Ga2 {l:List (κ×ν)} {a:κ}:(Z7 l a).isSome=G2b l a:=by
 induction l with
 | nil=>rfl
 | cons p l ih=>
  rw [G3d]
  simp only [G2b,List.any_cons]
  by_cases h:p.1=a
  ·simp [h]
  ·simpa [h,G2b] using ih
theorem H56 {l:List (κ×ν)} {a:κ} (h:G2b l a=false):Z7 l a=none:=by
 have:=Ga2 (l:=l) (a:=a)
 rw [h] at this
 simpa using this
theorem H7a (l:List (κ×ν)) (a b:κ) (v:ν):Z7 (G6c l a v) b=if a=b then some v else Z7 l b:=by
 unfold G6c
 split
 ·rename_i h
  induction l with
  | nil=>simp [G2b] at h
  | cons p l ih=>
   rw [List.map_cons,G3d,G3d]
   by_cases hp:p.1=a
   ·simp only [hp,if_true]
    by_cases hab:a=b
    ·simp [hab]
    ·simp only [hab,if_false]
     by_cases hl:G2b l a=true
     ·rw [ih hl,if_neg hab]
     ·have e:l.map (fun p=>if p.1=a then (a,v) else p)=l:=by
       conv=>rhs; rw [← List.map_id l]
       apply List.map_congr_left
       intro q hq
       have:q.1≠a:=fun e=>hl (mhas_iff.2 (List.mem_map.2 ⟨q,hq,e⟩))
       simp [this]
      rw [e]
   ·simp only [hp,if_false]
    have hl:G2b l a=true:=by simpa [G2b,hp] using h
    rw [ih hl]
    by_cases hpb:p.1=b
    ·have:¬ a=b:=fun e=>hp (hpb.trans e.symm)
     simp [hpb,this]
    ·simp [hpb]
 ·rename_i h
  rw [H94,G3d]
  by_cases hab:a=b
  ·subst hab; rw [H56 (by simpa using h)]; simp
  ·have:Z7 ([]:List (κ×ν)) b=none:=rfl
   simp [hab,this]
theorem mget_mins (l:List (κ×ν)) (a:κ) (z:ν):(Z7 (G51 l a z) a).getD z=(Z7 l a).getD z:=by
 unfold G51
 split
 ·rfl
 ·rename_i h
  rw [H94,H56 (by simpa using h),G3d]; simp

def tally (l:List κ):List (κ×Int):=l.foldl (fun m a=>G6c m a ((Z7 m a).getD 0+1)) []
theorem Gce (l:List κ) (a:κ):tally (l++[a])=G6c (tally l) a ((Z7 (tally l) a).getD 0+1):=by
 simp [tally,List.foldl_append]
theorem rev_ind {α:Type} {motive:List α→Prop} (l:List α) (h0:motive []) (h1:∀ l a,motive l→motive (l++[a])):motive l:=by
 have:∀ n (l:List α),l.length=n→motive l:=by
  intro n
  induction n with
  | zero=>intro l hl; rw [List.eq_nil_of_length_eq_zero hl]; exact h0
  | succ n ih=>
   intro l hl
   have hne:l≠[]:=by intro e; rw [e] at hl; simp at hl
   rw [← List.dropLast_concat_getLast hne]
   exact h1 _ _ (ih _ (by simp [hl]))
 exact this _ l rfl
theorem tally_nodup (l:List κ):((tally l).map (·.1)).Nodup:=by
 induction l using rev_ind with
 | h0=>simp [tally]
 | h1 l a ih=>rw [Gce]; exact Hee ih _ _
theorem H74 (l:List κ) (a:κ):(Z7 (tally l) a).getD 0=(l.count a:Int):=by
 induction l using rev_ind with
 | h0=>simp [tally,Z7]
 | h1 l b ih=>
  rw [Gce,H7a,List.count_append]
  by_cases h:b=a
  ·subst h; rw [if_pos rfl,ih]; simp
  ·rw [if_neg h,ih]; simp [h]
theorem tally_sup (l:List κ) (b:κ) (h:b∈l):b∈(tally l).map (·.1):=by
 rw [← mhas_iff,← Ga2]
 have h1:=H74 l b
 have h2:=List.count_pos_iff.2 h
 cases hm:Z7 (tally l) b with
 | some _=>rfl
 | none=>rw [hm] at h1; simp at h1; omega
theorem tally_val (l:List κ) {j:Nat} {a:κ} {n:Int} (h:(tally l)[j]? = some (a,n)):n=(l.count a:Int):=by
 have h1:=(H0e (tally_nodup l) h).1
 have h2:=H74 l a
 rw [h1] at h2
 simpa using h2
theorem tally_bound (l:List κ) (a:κ):0≤(Z7 (tally l) a).getD 0∧(Z7 (tally l) a).getD 0≤(l.length:Int):=by
 rw [H74]
 have:=List.count_le_length (a:=a) (l:=l)
 omega
theorem tally_le_one (l:List κ):(∀ (j:Nat) a n,(tally l)[j]? = some (a,n)→n≤1) ↔ l.Nodup:=by
 rw [List.nodup_iff_count]
 constructor
 ·intro h a
  by_cases ha:a∈l
  ·obtain⟨p,hp,rfl⟩:=List.mem_map.1 (tally_sup l a ha)
   obtain⟨j,hj⟩:=List.mem_iff_getElem?.1 hp
   have:=h j p.1 p.2 hj
   rw [tally_val l hj] at this
   omega
  ·rw [List.count_eq_zero.2 ha]; omega
 ·intro h j a n hj
  rw [tally_val l hj]
  have:=h a
  omega
end
section
variable {P:Program} {o:Oper} {l:Fr} {L:Loc} {κ ν:Type} [DecidableEq κ] {kv:κ→Value} {av:ν→AV}
def arrB (P:Program) (T E k:Nat):Bool:=(match P.underlying T with | some (.array _ e)=>e==E | _=>false)&&Qo P E k
theorem H45 {T E k:Nat} {parts:List (Nat×Operand)} {cs:List AV} (zs:List Value) (hT:arrB P T E k=true) (hz:(P.info? T).bind (fun i=>i.zero.map Value.cells)=some zs.toArray) (ho:o.op=.build T parts.toArray) (hfill:Gac (fun i=>some (i*k,k)) (zs.map .sc) (parts.map fun p=>(p.1,ev l p.2))=some cs):Gn P o l L (Is (.agg cs) L):=
 H3 fun a w β _ hf=>by
  unfold arrB at hT
  simp only [Bool.and_eq_true] at hT
  obtain⟨hT,hE⟩:=hT
  split at hT
  ·rename_i n e hu
   simp at hT; subst hT
   cases h1:P.info? T with
   | none=>rw [h1] at hz; simp at hz
   | some inf=>
    rw [h1] at hz
    cases h2:inf.zero with
    | none=>simp [h2] at hz
    | some z=>
     simp only [Option.bind_some,h2,Option.map_some,Option.some.injEq] at hz
     obtain⟨vs',e1,e2,e3⟩:=G6d (w:=w) (β:=β) (L:=L) (qs:=parts.map fun p=>(p.1,a.eval p.2)) (vs:=zs.toArray) hfill (by simp) (fun j p q hp hq=>by
      simp only [List.getElem?_map,Option.map_eq_some_iff] at hp hq
      obtain⟨x,hx,rfl⟩:=hp
      obtain⟨y,hy,rfl⟩:=hq
      rw [hx] at hy; cases hy
      exact⟨rfl,hf.ev _⟩) (by simp) (fun j u v hu hv=>by
      simp only [List.getElem?_map,Option.map_eq_some_iff] at hu
      obtain⟨x,hx,rfl⟩:=hu
      simp [hx] at hv; subst hv; exact .sc)
     refine⟨.agg vs',?_,.agg e2 e3⟩
     simp [execOp,ho,Instr.build,zeroValue,typeInfo,h1,h2,run_underlying hu,Ja hE w,hz,e1]
  ·cases hT
theorem J4c {m x:Operand} {T K E i:Nat} {lst:List (κ×ν)} {a:κ} (z0:ν) (zv:Value) (ho:o.op=.lookup T m x false) (hm:ev l m=.mp i) (hi:lk L i=some (.map T (mapOf kv av (G51 lst a z0)))) (hn:(lst.map (·.1)).Nodup)
  (hx:ev l x=R4 (kv a)) (hk:G9c P K kv) (hT:G31 P T K E=true) (hz:(P.info? E).bind (·.zero)=some zv) (hzv:av z0=R4 zv) :
  Gn P o l L (Is (av ((Z7 lst a).getD z0)) L):=by
 have h:=J14 (L:=L) z0 zv ho hm hi (nodup_mins hn a z0) hx hk hT hz hzv
 rw [mget_mins] at h
 exact h
end
end Go.Proofs.YtbljcmgjmieffaaGreat
