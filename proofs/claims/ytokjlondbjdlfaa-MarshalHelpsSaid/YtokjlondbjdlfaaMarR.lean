/- Made yards are right,ordered boxes are right orders; -/
import Derived.Test.YtokjlondbjdlfaaMarQ
import Derived.Test.YtokjlondbjdlfaaMarQ
import Derived.Test.YtokjlondbjdlfaaXK
set_option maxRecDepth 100000
set_option linter.unusedVariables false
namespace Go.Proofs.Ytokjlondbjdlfaa
open Go.RowKit Go.Sort Go.Shelf

theorem R19 {rows:List (List Int)} {m:Nat} {s:List Int} {v:Int} (h:rows[m]? = some s):((rows.set m (s++[v])).flatten).Perm (rows.flatten++[v]):=by
 have:=Gf7 (v:=s++[v]) h
 rw [List.perm_iff_count] at *
 intro z
 have:=this z
 simp only [List.count_append] at this ⊢
 omega
def Rdc (i:Nat) (rows:List (List Int)):Prop:=rows.flatten.Nodup∧∀ b∈rows.flatten,b≤(i:Int)
theorem J5b {H:Nat} {rows:List (List Int)} {v:Int} {i:Nat} (h:Rdc i rows) (hN:rows≠[]→0≤v):∀ (f k:Nat),f+k≤rows.length→Rdc (i+1) (Gb4 H rows v (i:Int) f k)
 | 0,_,_=>⟨h.1,fun b hb=>by have:=h.2 b hb; omega⟩
 | f+1,k,hk=>by
  rw [Gb4]
  split
  ·have h0:rows≠[]:=fun e=>by rw [e] at hk; simp at hk
   have hv:=hN h0
   have hn:(0:Int) < (rows.length:Int):=by omega
   have e:(v+(k:Int)).tmod (rows.length:Int)=(v+(k:Int)) % (rows.length:Int):=Int.tmod_eq_emod_of_nonneg (by omega)
   have h1:=Int.emod_nonneg (v+(k:Int)) (show (rows.length:Int)≠0 by omega)
   have h2:=Int.emod_lt_of_pos (v+(k:Int)) hn
   rw [e]
   generalize hm:((v+(k:Int)) % (rows.length:Int)).toNat=m
   have h3:m < rows.length:=by omega
   have hs:rows[m]? = some rows[m]:=Ez h3
   have hg:rows.getD m []=rows[m]:=by rw [List.getD_eq_getElem?_getD,hs]; rfl
   rw [hg]
   have hp:=R19 (v:=(i:Int)+1) hs
   refine⟨hp.nodup_iff.2 (List.nodup_append.2 ⟨h.1,by simp,fun a ha c hc=>?_⟩),fun b hb=>?_⟩
   ·rw [Kr] at hc
    have:=h.2 a ha
    omega
   ·rcases Kp.1 (hp.mem_iff.1 hb) with hb | hb
    ·have:=h.2 b hb; omega
    ·rw [Kr] at hb; omega
  ·exact J5b h hN f (k+1) (by omega)
theorem J1c {H:Nat}:∀ (l:List Int) (i:Nat) (rows:List (List Int)),(∀ v∈l,0≤v)→Rdc i rows→(H12 H l i rows).flatten.Nodup
 | [],i,rows,_,h=>h.1
 | v::l,i,rows,hl,h=>by
  rw [H12]
  split
  ·exact J1c l (i+1) _ (fun u hu=>hl u (List.mem_cons_of_mem _ hu)) (J5b h (fun _=>hl v (List.mem_cons_self ..)) rows.length 0 (by omega))
  ·exact h.1
theorem J78 {stacks height:Int} {l:List Int} (hs:0≤stacks∧stacks≤255) (hh:0≤height∧height≤255) (hl:∀ v∈l,0≤v∧v≤255):Wp (Qr stacks height l) (fun y=>Je1 y∧Jz y.Stacks y.Height):=by
 obtain⟨y,e,hy⟩:=Qfe hs hh hl
 refine⟨y,e,hy,?_⟩
 unfold Qr at e
 obtain⟨_,e⟩:=J1 e
 have e:=K0 e
 have hn:y.Stacks.flatten.Nodup:=by
  rw [← e]
  refine J1c l 0 _ (fun v hv=>(hl v hv).1) ?_
  have:(List.replicate (1+(stacks.tmod 6).toNat) ([]:List Int)).flatten=[]:=by simp
  exact⟨by rw [this]; exact List.nodup_nil,fun b hb=>by rw [this] at hb; simp at hb⟩
 exact⟨hy.low,hy.high,hy.some_,Nat.le_trans hy.most (by decide),hy.fit,hn,fun b hb=>by have:=hy.ids b hb; omega⟩
theorem H92 {F:Nat} (hF:100 < F) {y:Gs} (hy:y.Stacks.flatten.length≤36) (h9:y.Stacks.flatten.Nodup) {o:List Int} (ho:∀ v∈o,0≤v∧v≤255) {most:Int} (hm:most≤20):Wp (Q7 F y o most) (fun r=>r.length≤20∧H68 y.Stacks r):=by
 unfold Q7
 refine Q3 (fun pre s=>s=pre.flatten) rfl (fun pre x post s nx e hI h4=>?_) (fun s hI=>?_)
 ·subst hI
  rw [e,List.flatten_append,List.flatten_cons,Kj,Kj] at hy
  exact Q2 (Zi (by omega) (by decide)) (h4 _ (by simp))
 ·have hI:s=y.Stacks.flatten:=hI
  subst hI
  refine wp_loop (fun z=>∃ i:Nat,z.2.2=(i:Int)∧i≤20∧z.2.1.length=i∧z.1.length≤36∧(z.2.1++z.1).Perm y.Stacks.flatten) (fun z=>21 - z.2.1.length) ⟨0,rfl,by omega,rfl,hy,.refl _⟩ (by dsimp only [List.length_nil]; omega) (fun z nx hz h4=>?_)
  obtain⟨all,out,iz⟩:=z
  obtain⟨i,hi,a1,h5,h6,h0⟩:=hz
  have hi:iz=(i:Int):=hi
  have h5:out.length=i:=h5
  have h6:all.length≤36:=h6
  have h0:(out++all).Perm y.Stacks.flatten:=h0
  subst hi
  refine Hi (fun h=>?_) (fun h=>Hj ⟨by dsimp only; omega,(List.nodup_append.1 (h0.nodup_iff.2 h9)).1,fun b hb=>h0.mem_iff.1 (Kp.2 (.inl hb))⟩)
  simp only [Km,Kn] at h
  obtain⟨⟨h1,h2⟩,h3⟩:=h
  obtain⟨v,hv⟩:∃ v,o[i]? = some v:=⟨_,Ez (by omega)⟩
  have a0:=ho v (Ka hv)
  have e:v.tmod (all.length:Int)=v % (all.length:Int):=Int.tmod_eq_emod_of_nonneg a0.1
  have a2:=Int.emod_nonneg v (show (all.length:Int)≠0 by omega)
  have a3:=Int.emod_lt_of_pos v (show (0:Int) < (all.length:Int) by omega)
  obtain⟨m,hm⟩:∃ m:Nat,v % (all.length:Int)=(m:Int):=⟨(v % (all.length:Int)).toNat,by omega⟩
  refine Ju rfl hv (Q4 (by omega) (Yu (R0e (by dsimp only; omega) ?_)))
  dsimp only
  rw [e,hm]
  have h7:m < all.length:=by omega
  refine Ju rfl (Ez h7) (Q2 (Zi (by rw [Kk]; omega) (by decide)) (Yu (Rr (m:=m) rfl (by omega) ?_)))
  refine Q2 (Zi (by rw [List.length_nil,List.length_take]; omega) (by decide)) (Q4 (by omega) (Yu (Rr (m:=m+1) (by omega) (by omega) ?_)))
  refine Q2 (Zi (by rw [List.nil_append,List.length_take,List.length_drop]; omega) (by decide)) (Q4 (by omega) (h4 _ ⟨i+1,by dsimp only; omega,by omega,by dsimp only; rw [Kj,Kk]; omega,?_,?_⟩ ?_))
  ·dsimp only
   rw [List.nil_append,Kj,List.length_take,List.length_drop]; omega
  ·dsimp only
   rw [List.nil_append]
   have e2:all=all.take m++all[m]::all.drop (m+1):=by rw [← List.drop_eq_getElem_cons h7,List.take_append_drop]
   refine List.Perm.trans ?_ h0
   rw [List.append_assoc]
   refine List.Perm.append_left out ?_
   have h8:(all.take m++all[m]::all.drop (m+1)).Perm ([all[m]]++(all.take m++all.drop (m+1))):=List.perm_middle
   rw [← e2] at h8
   exact h8.symm
  ·dsimp only
   rw [Kj,Kk]; omega
/-! ### The law of bounds -/
theorem Q27:Qh 9000100=some true:=by
 have ex1:Hx 9000100 ⟨[[1,3,2],[4],[]],3⟩ [1,2,3,4]=some ([⟨0,1⟩,⟨0,2⟩],0):=by kernel_rfl
 have ex2:Hx 9000100 ⟨[[1,2],[3,4]],2⟩ [1,2,3,4]=some ([],360):=by kernel_rfl
 have ex3:Hx 9000100 ⟨[[1,3],[2]],2⟩ [1,2,3]=some ([],360):=by kernel_rfl
 have ex4:Hx 9000100 ⟨[[1,3],[2,4],[]],2⟩ [1,2,3,4]=some ([⟨1,2⟩,⟨0,2⟩],0):=by kernel_rfl
 have Rd4:Jb 9000100 ⟨[[1,3,2],[4],[]],3⟩ [1,2,3,4]=some ([⟨0,1⟩,⟨0,2⟩],0):=by kernel_rfl
 have Rd3:Jb 9000100 ⟨[[1,2],[3,4]],2⟩ [1,2,3,4]=some ([],6):=by kernel_rfl
 have Rd2:Jb 9000100 ⟨[[1,3],[2]],2⟩ [1,2,3]=some ([],6):=by kernel_rfl
 refine Ra ?_
 unfold Qh
 refine Gn exW (Gn (G51 (by decide) (by decide) ex1) (Gn Rd4 (Gn exC ?_)))
 refine Gn (H04 [2,3]) (G7e (x:=true) rfl (Ga6 [⟨0,1⟩,⟨0,2⟩]) (G7e (x:=true) rfl (Ga6 [⟨0,1⟩,⟨0,2⟩]) ?_))
 refine Gn (x:=0) rfl (Gn (x:=0) rfl (Gn (x:=0) rfl (Hi (fun h=>absurd h (show ¬ ((!true||!true||!true||!true||decide ((0:Int)≠0))=true) by decide)) (fun _=>?_))))
 refine Gn (G51 (by decide) (by decide) ex2) (Gn Rd3 (Gn (x:=3) rfl (Gn (G51 (by decide) (by decide) ex3) (Gn (x:=3) rfl (Gn Rd2 (Hi (fun h=>absurd h (show ¬ ((decide ((360:Int)≠360)||decide ((6:Int)≠6)||decide ((360:Int)≠360)||decide ((6:Int)≠6))=true) by decide)) (fun _=>?_)))))))
 exact Gn (G51 (by decide) (by decide) ex4) (G7e (x:=true) rfl (Ga6 [⟨1,2⟩,⟨0,2⟩]) (Hj rfl))
end Go.Proofs.Ytokjlondbjdlfaa
