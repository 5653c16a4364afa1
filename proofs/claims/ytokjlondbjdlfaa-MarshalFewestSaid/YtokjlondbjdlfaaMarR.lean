/- Made yards are right,ordered boxes are right orders; -/
import Derived.Test.YtokjlondbjdlfaaMarQ
import Derived.Test.YtokjlondbjdlfaaMarQ
import Derived.Test.YtokjlondbjdlfaaXK
set_option maxRecDepth 100000
set_option linter.unusedVariables false
namespace Go.Proofs.Ytokjlondbjdlfaa
open Go.RowKit Go.Sort Go.Shelf

theorem Jea {rows:List (List Int)} {m:Nat} {s:List Int} {v:Int} (h:rows[m]? = some s):((rows.set m (s++[v])).flatten).Perm (rows.flatten++[v]):=by
 have:=Ge2 (v:=s++[v]) h
 rw [List.perm_iff_count] at *
 intro z
 have:=this z
 simp only [List.count_append] at this ⊢
 omega
def Rb0 (i:Nat) (rows:List (List Int)):Prop:=rows.flatten.Nodup∧∀ b∈rows.flatten,b≤(i:Int)
theorem J49 {H:Nat} {rows:List (List Int)} {v:Int} {i:Nat} (h:Rb0 i rows) (hN:rows≠[]→0≤v):∀ (f k:Nat),f+k≤rows.length→Rb0 (i+1) (G6c H rows v (i:Int) f k)
 | 0,_,_=>⟨h.1,fun b hb=>by have:=h.2 b hb; omega⟩
 | f+1,k,hk=>by
  rw [G6c]
  split
  ·have h0:rows≠[]:=fun e=>by rw [e] at hk; simp at hk
   have hv:=hN h0
   have hn:(0:Int) < (rows.length:Int):=by omega
   have e:(v+(k:Int)).tmod (rows.length:Int)=(v+(k:Int)) % (rows.length:Int):=Int.tmod_eq_emod_of_nonneg (by omega)
   have h1:=Int.emod_nonneg (v+(k:Int)) (show (rows.length:Int)≠0 by omega)
   have h2:=Int.emod_lt_of_pos (v+(k:Int)) hn
   rw [e]
   generalize hm:((v+(k:Int)) % (rows.length:Int)).toNat=m
   have h3:m < rows.length:=by omega
   have hs:rows[m]? = some rows[m]:=Ew h3
   have hg:rows.getD m []=rows[m]:=by rw [List.getD_eq_getElem?_getD,hs]; rfl
   rw [hg]
   have hp:=Jea (v:=(i:Int)+1) hs
   refine⟨hp.nodup_iff.2 (List.nodup_append.2 ⟨h.1,by simp,fun a ha c hc=>?_⟩),fun b hb=>?_⟩
   ·rw [Ko] at hc
    have:=h.2 a ha
    omega
   ·rcases Km.1 (hp.mem_iff.1 hb) with hb | hb
    ·have:=h.2 b hb; omega
    ·rw [Ko] at hb; omega
  ·exact J49 h hN f (k+1) (by omega)
theorem J03 {H:Nat}:∀ (l:List Int) (i:Nat) (rows:List (List Int)),(∀ v∈l,0≤v)→Rb0 i rows→(Gb1 H l i rows).flatten.Nodup
 | [],i,rows,_,h=>h.1
 | v::l,i,rows,hl,h=>by
  rw [Gb1]
  split
  ·exact J03 l (i+1) _ (fun u hu=>hl u (List.mem_cons_of_mem _ hu)) (J49 h (fun _=>hl v (List.mem_cons_self ..)) rows.length 0 (by omega))
  ·exact h.1
theorem J66 {stacks height:Int} {l:List Int} (hs:0≤stacks∧stacks≤255) (hh:0≤height∧height≤255) (hl:∀ v∈l,0≤v∧v≤255):Wp (Jv stacks height l) (fun y=>J67 y∧Jq y.Stacks y.Height):=by
 obtain⟨y,e,hy⟩:=Qdb hs hh hl
 refine⟨y,e,hy,?_⟩
 unfold Jv at e
 obtain⟨_,e⟩:=J2 e
 have e:=Ex e
 have hn:y.Stacks.flatten.Nodup:=by
  rw [← e]
  refine J03 l 0 _ (fun v hv=>(hl v hv).1) ?_
  have:(List.replicate (1+(stacks.tmod 6).toNat) ([]:List Int)).flatten=[]:=by simp
  exact⟨by rw [this]; exact List.nodup_nil,fun b hb=>by rw [this] at hb; simp at hb⟩
 exact⟨hy.low,hy.high,hy.some_,Nat.le_trans hy.most (by decide),hy.fit,hn,fun b hb=>by have:=hy.ids b hb; omega⟩
theorem H7d {F:Nat} (hF:100 < F) {y:Gm} (hy:y.Stacks.flatten.length≤36) (h9:y.Stacks.flatten.Nodup) {o:List Int} (ho:∀ v∈o,0≤v∧v≤255) {most:Int} (hm:most≤20):Wp (Q4 F y o most) (fun r=>r.length≤20∧H50 y.Stacks r):=by
 unfold Q4
 refine Jz (fun pre s=>s=pre.flatten) rfl (fun pre x post s nx e hI h4=>?_) (fun s hI=>?_)
 ·subst hI
  rw [e,List.flatten_append,List.flatten_cons,Kg,Kg] at hy
  exact Q5 (Zi (by omega) (by decide)) (h4 _ (by simp))
 ·have hI:s=y.Stacks.flatten:=hI
  subst hI
  refine wp_loop (fun z=>∃ i:Nat,z.2.2=(i:Int)∧i≤20∧z.2.1.length=i∧z.1.length≤36∧(z.2.1++z.1).Perm y.Stacks.flatten) (fun z=>21 - z.2.1.length) ⟨0,rfl,by omega,rfl,hy,.refl _⟩ (by dsimp only [List.length_nil]; omega) (fun z nx hz h4=>?_)
  obtain⟨all,out,iz⟩:=z
  obtain⟨i,hi,a1,h5,h6,h0⟩:=hz
  have hi:iz=(i:Int):=hi
  have h5:out.length=i:=h5
  have h6:all.length≤36:=h6
  have h0:(out++all).Perm y.Stacks.flatten:=h0
  subst hi
  refine Hn (fun h=>?_) (fun h=>Hj ⟨by dsimp only; omega,(List.nodup_append.1 (h0.nodup_iff.2 h9)).1,fun b hb=>h0.mem_iff.1 (Km.2 (.inl hb))⟩)
  simp only [Ki,Kj] at h
  obtain⟨⟨h1,h2⟩,h3⟩:=h
  obtain⟨v,hv⟩:∃ v,o[i]? = some v:=⟨_,Ew (by omega)⟩
  have a0:=ho v (Ey hv)
  have e:v.tmod (all.length:Int)=v % (all.length:Int):=Int.tmod_eq_emod_of_nonneg a0.1
  have a2:=Int.emod_nonneg v (show (all.length:Int)≠0 by omega)
  have a3:=Int.emod_lt_of_pos v (show (0:Int) < (all.length:Int) by omega)
  obtain⟨m,hm⟩:∃ m:Nat,v % (all.length:Int)=(m:Int):=⟨(v % (all.length:Int)).toNat,by omega⟩
  refine Qm rfl hv (Q0 (by omega) (Yc (Q28 (by dsimp only; omega) ?_)))
  dsimp only
  rw [e,hm]
  have h7:m < all.length:=by omega
  refine Qm rfl (Ew h7) (Q5 (Zi (by rw [Kh]; omega) (by decide)) (Yc (R6 (m:=m) rfl (by omega) ?_)))
  refine Q5 (Zi (by rw [List.length_nil,List.length_take]; omega) (by decide)) (Q0 (by omega) (Yc (R6 (m:=m+1) (by omega) (by omega) ?_)))
  refine Q5 (Zi (by rw [List.nil_append,List.length_take,List.length_drop]; omega) (by decide)) (Q0 (by omega) (h4 _ ⟨i+1,by dsimp only; omega,by omega,by dsimp only; rw [Kg,Kh]; omega,?_,?_⟩ ?_))
  ·dsimp only
   rw [List.nil_append,Kg,List.length_take,List.length_drop]; omega
  ·dsimp only
   rw [List.nil_append]
   have e2:all=all.take m++all[m]::all.drop (m+1):=by rw [← List.drop_eq_getElem_cons h7,List.take_append_drop]
   refine List.Perm.trans ?_ h0
   rw [List.append_assoc]
   refine List.Perm.append_left out ?_
   have h8:(all.take m++all[m]::all.drop (m+1)).Perm ([all[m]]++(all.take m++all.drop (m+1))):=List.perm_middle
   rw [← e2] at h8
   exact h8.symm
  ·dsimp only
   rw [Kg,Kh]; omega
/-! ### The law of bounds -/
theorem Q0b:Qf 9000100=some true:=by
 have ex1:Ht 9000100 ⟨[[1,3,2],[4],[]],3⟩ [1,2,3,4]=some ([⟨0,1⟩,⟨0,2⟩],0):=by kernel_rfl
 have ex2:Ht 9000100 ⟨[[1,2],[3,4]],2⟩ [1,2,3,4]=some ([],360):=by kernel_rfl
 have ex3:Ht 9000100 ⟨[[1,3],[2]],2⟩ [1,2,3]=some ([],360):=by kernel_rfl
 have ex4:Ht 9000100 ⟨[[1,3],[2,4],[]],2⟩ [1,2,3,4]=some ([⟨1,2⟩,⟨0,2⟩],0):=by kernel_rfl
 have Ra8:J4 9000100 ⟨[[1,3,2],[4],[]],3⟩ [1,2,3,4]=some ([⟨0,1⟩,⟨0,2⟩],0):=by kernel_rfl
 have Ra7:J4 9000100 ⟨[[1,2],[3,4]],2⟩ [1,2,3,4]=some ([],6):=by kernel_rfl
 have Ra6:J4 9000100 ⟨[[1,3],[2]],2⟩ [1,2,3]=some ([],6):=by kernel_rfl
 refine Rj ?_
 unfold Qf
 refine Gj exW (Gj (G44 (by decide) (by decide) ex1) (Gj Ra8 (Gj exC ?_)))
 refine Gj (Gef [2,3]) (G00 (x:=true) rfl (G6e [⟨0,1⟩,⟨0,2⟩]) (G00 (x:=true) rfl (G6e [⟨0,1⟩,⟨0,2⟩]) ?_))
 refine Gj (x:=0) rfl (Gj (x:=0) rfl (Gj (x:=0) rfl (Hn (fun h=>absurd h (show ¬ ((!true||!true||!true||!true||decide ((0:Int)≠0))=true) by decide)) (fun _=>?_))))
 refine Gj (G44 (by decide) (by decide) ex2) (Gj Ra7 (Gj (x:=3) rfl (Gj (G44 (by decide) (by decide) ex3) (Gj (x:=3) rfl (Gj Ra6 (Hn (fun h=>absurd h (show ¬ ((decide ((360:Int)≠360)||decide ((6:Int)≠6)||decide ((360:Int)≠360)||decide ((6:Int)≠6))=true) by decide)) (fun _=>?_)))))))
 exact Gj (G44 (by decide) (by decide) ex4) (G00 (x:=true) rfl (G6e [⟨1,2⟩,⟨0,2⟩]) (Hj rfl))
end Go.Proofs.Ytokjlondbjdlfaa
