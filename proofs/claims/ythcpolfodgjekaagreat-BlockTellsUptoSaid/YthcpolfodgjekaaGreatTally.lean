/-
 Points where ways meet again; conditions that are known. Maps that count.
-/
import Derived.Test.YthcpolfodgjekaaGreatKeys
namespace Go.Proofs.YthcpolfodgjekaaGreat
section
variable {P:Program} {N:G4f} {Q:Post} {l:Fr} {L:Loc}
theorem Zy {x y:Code} {X:Type} (I:X→Prop) (F:X→Fr) (M:X→Loc)
  (h1:∀ K:Fr→Loc→Prop,(∀ l L v,I v→Fits N.base l L (F v) (M v)→K l L)→JC P N x (Q.seq K) l L)
  (h2:∀ v,I v→JC P N y Q (F v) (M v)):JC P N (.seq x y) Q l L:=
 G6 fun K hK=>h1 K fun l L v hv hf=>hK l L (G2a hf (h2 v hv))
theorem Q1e {c:Operand} {x y:Code} (hc:ev l c=.sc (.bool true)) (ht:JC P N x Q l L):JC P N (.cond c x y) Q l L:=
 Gm hc (fun _=>ht) (fun h=>by cases h)
theorem Q1f {c:Operand} {x y:Code} (hc:ev l c=.sc (.bool false)) (hf:JC P N y Q l L):JC P N (.cond c x y) Q l L:=
 Gm hc (fun h=>by cases h) (fun _=>hf)
def unseen (n:Nat) (seen:List Nat):Nat:=((List.range n).filter fun j=>!seen.contains j).length
theorem J5f {n j:Nat} {seen:List Nat} (hj:j < n) (hs:j ∉ seen):unseen n (seen++[j]) < unseen n seen:=by
 unfold unseen
 have h1:(List.range n).filter (fun i=>!(seen++[j]).contains i)=((List.range n).filter fun i=>!seen.contains i).filter fun i=>i != j:=by
  rw [List.filter_filter]
  congr 1
  funext i
  simp only [List.contains_append,Bool.not_or,List.contains_cons,List.contains_nil,Bool.or_false,bne]
  rw [Bool.and_comm]
 rw [h1]
 have hm:j∈(List.range n).filter fun i=>!seen.contains i:=by simp [hj,hs]
 have:∀ (l:List Nat),j∈l→(l.filter fun i=>i != j).length < l.length:=by
  intro l
  induction l with
  | nil=>intro h; cases h
  | cons a r ih=>
   intro h
   by_cases e:a=j
   ·subst e
    have:=List.length_filter_le (fun i=>i != a) r
    simp
    omega
   ·have hr:j∈r:=by
     rcases List.mem_cons.1 h with h | h
     ·exact absurd h.symm e
     ·exact h
    have:=ih hr
    simp [e]
    omega
 exact this _ hm
end
mutual
theorem refs_any (ok:Nat→Bool):∀ u:AV,u.refs (fun _=>false)=true→u.refs ok=true
 | .junk,_=>rfl
 | .sc _,_=>rfl
 | .list _ _,_=>rfl
 | .lst ..,_=>rfl
 | .dptr _,_=>rfl
 | .agg cs,h=>R0 ok cs h
 | .tup cs,h=>R0 ok cs h
 | .fn _ cs,h=>R0 ok cs h
 | .bfn _ cs,h=>R0 ok cs h
 | .opt _ x,h=>refs_any ok x h
 | .ptr _ _,h=>by cases h
 | .own ..,h=>by cases h
 | .ms ..,h=>by cases h
 | .mp _,h=>by cases h
 | .it _,h=>by cases h
 | .vec ..,h=>by cases h
theorem R0 (ok:Nat→Bool):∀ us:List AV,G15 (fun _=>false) us=true→G15 ok us=true
 | [],_=>rfl
 | u::r,h=>by
  simp only [G15,Bool.and_eq_true] at h ⊢
  exact⟨refs_any ok u h.1,R0 ok r h.2⟩
end
end Go.Proofs.YthcpolfodgjekaaGreat
namespace Go.Proofs.YthcpolfodgjekaaGreat
set_option linter.unusedVariables false
set_option linter.unusedSimpArgs false
section
variable {κ ν:Type} [DecidableEq κ]

theorem mhas_iff {l:List (κ×ν)} {a:κ}:Gc2 l a=true ↔ a∈l.map (·.1):=by
 simp [Gc2]
theorem Ge0 (p:κ×ν) (l:List (κ×ν)) (a:κ):G7f (p::l) a=if p.1=a then some p.2 else G7f l a:=by
 unfold G7f
 rw [List.find?_cons]
 by_cases h:p.1=a <;> simp [h]
theorem Ja1 (l m:List (κ×ν)) (a:κ):G7f (l++m) a=(G7f l a).or (G7f m a):=by
 induction l with
 | nil=>simp [G7f]
 | cons p l ih=>rw [List.cons_append,Ge0,Ge0,ih]; split <;> simp
theorem H59 {l:List (κ×ν)} {a:κ}:(G7f l a).isSome=Gc2 l a:=by
 induction l with
 | nil=>rfl
 | cons p l ih=>
  rw [Ge0]
  simp only [Gc2,List.any_cons]
  by_cases h:p.1=a
  ·simp [h]
  ·simpa [h,Gc2] using ih
theorem J44 {l:List (κ×ν)} {a:κ} (h:Gc2 l a=false):G7f l a=none:=by
 have:=H59 (l:=l) (a:=a)
 rw [h] at this
 simpa using this
theorem mget_mput (l:List (κ×ν)) (a b:κ) (v:ν):G7f (H47 l a v) b=if a=b then some v else G7f l b:=by
 unfold H47
 split
 ·rename_i h
  induction l with
  | nil=>simp [Gc2] at h
  | cons p l ih=>
   rw [List.map_cons,Ge0,Ge0]
   by_cases hp:p.1=a
   ·simp only [hp,if_true]
    by_cases hab:a=b
    ·simp [hab]
    ·simp only [hab,if_false]
     by_cases hl:Gc2 l a=true
     ·rw [ih hl,if_neg hab]
     ·have e:l.map (fun p=>if p.1=a then (a,v) else p)=l:=by
       conv=>rhs; rw [← List.map_id l]
       apply List.map_congr_left
       intro q hq
       have:q.1≠a:=fun e=>hl (mhas_iff.2 (List.mem_map.2 ⟨q,hq,e⟩))
       simp [this]
      rw [e]
   ·simp only [hp,if_false]
    have hl:Gc2 l a=true:=by simpa [Gc2,hp] using h
    rw [ih hl]
    by_cases hpb:p.1=b
    ·have:¬ a=b:=fun e=>hp (hpb.trans e.symm)
     simp [hpb,this]
    ·simp [hpb]
 ·rename_i h
  rw [Ja1,Ge0]
  by_cases hab:a=b
  ·subst hab; rw [J44 (by simpa using h)]; simp
  ·have:G7f ([]:List (κ×ν)) b=none:=rfl
   simp [hab,this]
theorem keys_mput (l:List (κ×ν)) (a:κ) (v:ν):(H47 l a v).map (·.1)=if Gc2 l a then l.map (·.1) else l.map (·.1)++[a]:=by
 unfold H47
 split
 ·rw [List.map_map]
  apply List.map_congr_left
  intro p _
  simp only [Function.comp]
  split <;> simp_all
 ·simp
theorem mget_mins (l:List (κ×ν)) (a:κ) (z:ν):(G7f (Gf2 l a z) a).getD z=(G7f l a).getD z:=by
 unfold Gf2
 split
 ·rfl
 ·rename_i h
  rw [Ja1,J44 (by simpa using h),Ge0]; simp

def tally (l:List κ):List (κ×Int):=l.foldl (fun m a=>H47 m a ((G7f m a).getD 0+1)) []
theorem H92 (l:List κ) (a:κ):tally (l++[a])=H47 (tally l) a ((G7f (tally l) a).getD 0+1):=by
 simp [tally,List.foldl_append]
theorem rev_ind {α:Type} {motive:List α→Prop} (l:List α) (h0:motive []) (h1:∀ l a,motive l→motive (l++[a])):motive l:=by
 have:∀ n (l:List α),l.length=n→motive l:=by
  intro n
  induction n with
  | zero=>intro l hl; rw [List.eq_nil_of_length_eq_zero hl]; exact h0
  | succ n ih=>
   intro l hl
   have hne:l≠[]:=by intro e; rw [e] at hl; simp at hl
   rw [← List.dropLast_concat_getLast hne]
   exact h1 _ _ (ih _ (by simp [hl]))
 exact this _ l rfl
theorem J96 (l:List κ):((tally l).map (·.1)).Nodup:=by
 induction l using rev_ind with
 | h0=>simp [tally]
 | h1 l a ih=>rw [H92]; exact Jf0 ih _ _
theorem J63 (l:List κ) (a:κ):(G7f (tally l) a).getD 0=(l.count a:Int):=by
 induction l using rev_ind with
 | h0=>simp [tally,G7f]
 | h1 l b ih=>
  rw [H92,mget_mput,List.count_append]
  by_cases h:b=a
  ·subst h; rw [if_pos rfl,ih]; simp
  ·rw [if_neg h,ih]; simp [h]
theorem tally_sub (l:List κ) (b:κ) (h:b∈(tally l).map (·.1)):b∈l:=by
 induction l using rev_ind with
 | h0=>simp [tally] at h
 | h1 l a ih=>
  rw [H92,keys_mput] at h
  split at h
  ·simp [ih h]
  ·rcases List.mem_append.1 h with h | h
   ·simp [ih h]
   ·simp at h; simp [h]
theorem tally_sup (l:List κ) (b:κ) (h:b∈l):b∈(tally l).map (·.1):=by
 rw [← mhas_iff,← H59]
 have h1:=J63 l b
 have h2:=List.count_pos_iff.2 h
 cases hm:G7f (tally l) b with
 | some _=>rfl
 | none=>rw [hm] at h1; simp at h1; omega
theorem tally_val (l:List κ) {j:Nat} {a:κ} {n:Int} (h:(tally l)[j]? = some (a,n)):n=(l.count a:Int):=by
 have h1:=(Hf0 (J96 l) h).1
 have h2:=J63 l a
 rw [h1] at h2
 simpa using h2
theorem tally_bound (l:List κ) (a:κ):0≤(G7f (tally l) a).getD 0∧(G7f (tally l) a).getD 0≤(l.length:Int):=by
 rw [J63]
 have:=List.count_le_length (a:=a) (l:=l)
 omega
theorem tally_le_one (l:List κ):(∀ (j:Nat) a n,(tally l)[j]? = some (a,n)→n≤1) ↔ l.Nodup:=by
 rw [List.nodup_iff_count]
 constructor
 ·intro h a
  by_cases ha:a∈l
  ·obtain⟨p,hp,rfl⟩:=List.mem_map.1 (tally_sup l a ha)
   obtain⟨j,hj⟩:=List.mem_iff_getElem?.1 hp
   have:=h j p.1 p.2 hj
   rw [tally_val l hj] at this
   omega
  ·rw [List.count_eq_zero.2 ha]; omega
 ·intro h j a n hj
  rw [tally_val l hj]
  have:=h a
  omega
end
section
variable {P:Program} {o:Oper} {l:Fr} {L:Loc} {κ ν:Type} [DecidableEq κ] {kv:κ→Value} {av:ν→AV}
def arrB (P:Program) (T E k:Nat):Bool:=(match P.underlying T with | some (.array _ e)=>e==E | _=>false)&&Ys P E k
theorem J32 {T E k:Nat} {parts:List (Nat×Operand)} {cs:List AV} (zs:List Value) (hT:arrB P T E k=true) (hz:(P.info? T).bind (fun i=>i.zero.map Value.cells)=some zs.toArray) (ho:o.op=.build T parts.toArray) (hfill:H69 (fun i=>some (i*k,k)) (zs.map .sc) (parts.map fun p=>(p.1,ev l p.2))=some cs):H4 P o l L (Is (.agg cs) L):=
 Hq fun a w β _ hf=>by
  unfold arrB at hT
  simp only [Bool.and_eq_true] at hT
  obtain⟨hT,hE⟩:=hT
  split at hT
  ·rename_i n e hu
   simp at hT; subst hT
   cases h1:P.info? T with
   | none=>rw [h1] at hz; simp at hz
   | some inf=>
    rw [h1] at hz
    cases h2:inf.zero with
    | none=>simp [h2] at hz
    | some z=>
     simp only [Option.bind_some,h2,Option.map_some,Option.some.injEq] at hz
     obtain⟨vs',e1,e2,e3⟩:=H5a (w:=w) (β:=β) (L:=L) (qs:=parts.map fun p=>(p.1,a.eval p.2)) (vs:=zs.toArray) hfill (by simp) (fun j p q hp hq=>by
      simp only [List.getElem?_map,Option.map_eq_some_iff] at hp hq
      obtain⟨x,hx,rfl⟩:=hp
      obtain⟨y,hy,rfl⟩:=hq
      rw [hx] at hy; cases hy
      exact⟨rfl,hf.ev _⟩) (by simp) (fun j u v hu hv=>by
      simp only [List.getElem?_map,Option.map_eq_some_iff] at hu
      obtain⟨x,hx,rfl⟩:=hu
      simp [hx] at hv; subst hv; exact .sc)
     refine⟨.agg vs',?_,.agg e2 e3⟩
     simp [execOp,ho,Instr.build,zeroValue,typeInfo,h1,h2,run_underlying hu,Qq hE w,hz,e1]
  ·cases hT
theorem Q7e {m x:Operand} {T K E i:Nat} {lst:List (κ×ν)} {a:κ} (z0:ν) (zv:Value) (ho:o.op=.lookup T m x false) (hm:ev l m=.mp i) (hi:lk L i=some (.map T (mapOf kv av (Gf2 lst a z0)))) (hn:(lst.map (·.1)).Nodup)
  (hx:ev l x=G12 (kv a)) (hk:H54 P K kv) (hT:Gcb P T K E=true) (hz:(P.info? E).bind (·.zero)=some zv) (hzv:av z0=G12 zv) :
  H4 P o l L (Is (av ((G7f lst a).getD z0)) L):=by
 have h:=Q27 (L:=L) z0 zv ho hm hi (nodup_mins hn a z0) hx hk hT hz hzv
 rw [mget_mins] at h
 exact h
end
end Go.Proofs.YthcpolfodgjekaaGreat
