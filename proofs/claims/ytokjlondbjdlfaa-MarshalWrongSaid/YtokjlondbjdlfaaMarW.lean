/- Made yards,ordered boxes; -/
import Derived.Test.YtokjlondbjdlfaaSpecM
import Derived.Test.YtokjlondbjdlfaaXJ
set_option maxRecDepth 100000
set_option linter.unusedVariables false
namespace Go.Proofs.Ytokjlondbjdlfaa
open Go.RowKit Go.Sort Go.Shelf

theorem J63 {H:Nat} {rows:List (List Int)} (h:∀ s∈rows,∀ b∈s,1≤b∧b≤20) {v i:Int} (hi:0≤i∧i < 20):∀ (f k:Nat),∀ s∈Gb1 H rows v i f k,∀ b∈s,1≤b∧b≤20
 | 0,_,s,hs=>h s hs
 | f+1,k,s,hs=>by
  rw [Gb1] at hs
  split at hs
  ·rcases List.mem_or_eq_of_mem_set hs with hs | rfl
   ·exact h s hs
   ·intro b hb
    rcases Km.1 hb with hb | hb
    ·rw [List.getD_eq_getElem?_getD] at hb
     cases hq:rows[((v+(k:Int)).tmod (rows.length:Int)).toNat]? with
     | none=>rw [hq] at hb; simp at hb
     | some t=>rw [hq] at hb; exact h t (Ey hq) b hb
    ·rw [Ko] at hb; omega
  ·exact J63 h hi f (k+1) s hs
theorem Jc2 {H:Nat}:∀ (l:List Int) (i:Nat) (rows:List (List Int)),(∀ s∈rows,s.length≤H)→(∀ s∈rows,∀ b∈s,1≤b∧b≤20)→(H2e H l i rows).length=rows.length∧(∀ s∈H2e H l i rows,s.length≤H)∧∀ s∈H2e H l i rows,∀ b∈s,1≤b∧b≤20
 | [],i,rows,h1,h2=>⟨rfl,h1,h2⟩
 | v::l,i,rows,h1,h2=>by
  rw [H2e]
  split
  ·rename_i hi
   have h3:=Jc2 l (i+1) (Gb1 H rows v (i:Int) rows.length 0) (Hbe h1 v _ _ 0) (J63 h2 (by omega) _ 0)
   exact⟨h3.1.trans (Hbf H rows v _ _ 0),h3.2⟩
  ·exact⟨rfl,h1,h2⟩
structure Q37 (y:Gn):Prop where
 low:1≤y.Height
 high:y.Height≤6
 some_:1≤y.Stacks.length
 most:y.Stacks.length≤6
 fit:∀ s∈y.Stacks,(s.length:Int)≤y.Height
 ids:∀ b∈y.Stacks.flatten,1≤b∧b≤20
theorem Q94 {stacks height:Int} {l:List Int} (hs:0≤stacks∧stacks≤255) (hh:0≤height∧height≤255) (hl:∀ v∈l,0≤v∧v≤255):Wp (Y8 stacks height l) Q37:=by
 unfold Y8
 refine Q4 ?_ (Hz ?_)
 ·rw [Ki,List.all_eq_true]
  exact⟨Es ⟨hs.1,hs.2,hh.1,hh.2⟩,fun v hv=>Es (hl v hv)⟩
 ·have e1:stacks.tmod 6=stacks % 6:=Int.tmod_eq_emod_of_nonneg hs.1
  have e2:height.tmod 6=height % 6:=Int.tmod_eq_emod_of_nonneg hh.1
  rw [e1,e2]
  obtain⟨h1,h2,h3⟩:=Jc2 (H:=1+(height % 6).toNat) l 0 (List.replicate (1+(stacks % 6).toNat) []) (fun s hs=>by rw [List.eq_of_mem_replicate hs]; simp) (fun s hs=>by rw [List.eq_of_mem_replicate hs]; simp)
  rw [List.length_replicate] at h1
  refine⟨by dsimp only; omega,by dsimp only; omega,by dsimp only; omega,by dsimp only; omega,fun s hs=>by have:=h2 s hs; dsimp only; omega,fun b hb=>?_⟩
  obtain⟨s,h0,h4⟩:=List.mem_flatten.1 hb
  exact h3 s h0 b h4
theorem Q37.len {y:Gn} (h:Q37 y):y.Stacks.flatten.length≤36:=by
 have:=H30 (ss:=y.Stacks) (k:=6) (fun s hs=>by have:=h.fit s hs; have:=h.high; omega)
 have:=h.most
 omega
theorem J91 {F:Nat} (hF:100 < F) {y:Gn} (hy:y.Stacks.flatten.length≤36) {o:List Int} (ho:∀ v∈o,0≤v∧v≤255) {most:Int} (hm:most≤20):Wp (Re F y o most) (fun r=>r.length≤20):=by
 unfold Re
 refine Qv (fun pre s=>s=pre.flatten) rfl (fun pre x post s nx e hI h0=>?_) (fun s hI=>?_)
 ·subst hI
  rw [e,List.flatten_append,List.flatten_cons,Kg,Kg] at hy
  exact Q4 (Zg (by omega) (by decide)) (h0 _ (by simp))
 ·have hI:s=y.Stacks.flatten:=hI
  subst hI
  refine wp_loop (fun z=>∃ i:Nat,z.2.2=(i:Int)∧i≤20∧z.2.1.length=i∧z.1.length≤36) (fun z=>21 - z.2.1.length) ⟨0,rfl,by omega,rfl,hy⟩ (by dsimp only [List.length_nil]; omega) (fun z nx hz h0=>?_)
  obtain⟨all,out,iz⟩:=z
  obtain⟨i,hi,h8,h4,h5⟩:=hz
  have hi:iz=(i:Int):=hi
  have h4:out.length=i:=h4
  have h5:all.length≤36:=h5
  subst hi
  refine Jc (fun h=>?_) (fun h=>Hz (by dsimp only; omega))
  simp only [Ki,Kj] at h
  obtain⟨⟨h1,h2⟩,h3⟩:=h
  obtain⟨v,hv⟩:∃ v,o[i]? = some v:=⟨_,Ew (by omega)⟩
  have h6:=ho v (Ey hv)
  have e:v.tmod (all.length:Int)=v % (all.length:Int):=Int.tmod_eq_emod_of_nonneg h6.1
  have h9:=Int.emod_nonneg v (show (all.length:Int)≠0 by omega)
  have a0:=Int.emod_lt_of_pos v (show (0:Int) < (all.length:Int) by omega)
  obtain⟨m,hm⟩:∃ m:Nat,v % (all.length:Int)=(m:Int):=⟨(v % (all.length:Int)).toNat,by omega⟩
  refine Qn rfl hv (Qk (by omega) (G05 (R42 (by dsimp only; omega) ?_)))
  dsimp only
  rw [e,hm]
  have h7:m < all.length:=by omega
  refine Qn rfl (Ew h7) (Q4 (Zg (by rw [Kh]; omega) (by decide)) (G05 (Yn (m:=m) rfl (by omega) ?_)))
  refine Q4 (Zg (by rw [List.length_nil,List.length_take]; omega) (by decide)) (Qk (by omega) (G05 (Yn (m:=m+1) (by omega) (by omega) ?_)))
  refine Q4 (Zg (by rw [List.nil_append,List.length_take,List.length_drop]; omega) (by decide)) (Qk (by omega) (h0 _ ⟨i+1,by dsimp only; omega,by omega,by dsimp only; rw [Kg,Kh]; omega,?_⟩ ?_))
  ·dsimp only
   rw [List.nil_append,Kg,List.length_take,List.length_drop]; omega
  ·dsimp only
   rw [Kg,Kh]; omega

/-! ### Wrong orders -/
theorem Q71 {F:Nat} (hF:400 < F) {y:Gn} {x:List Int} (h:¬ H0c y.Stacks x):(∃ r,Rn y x=some r∧r.2=2)∧(∃ r,Rs y x=some r∧r.2=2)∧(∃ r,Qm y x []=some r∧r.2=2)∧(∃ r,Ji F y x=some r∧r.2=2)∧∃ r,Qb F y x=some r∧r.2=2:=by
 obtain⟨ss,H⟩:=y
 have hR:¬ G18 ss H x:=fun hr=>h hr.o
 have hB:Qq ⟨ss,H⟩ x=some (0,2):=by rw [Ged,if_neg hR]
 refine⟨⟨_,by unfold Rn; rw [hB]; rfl,rfl⟩,⟨_,by unfold Rs; rw [hB]; rfl,rfl⟩,⟨_,by unfold Qm; rw [hB]; rfl,rfl⟩,⟨_,by unfold Ji; rw [hB]; rfl,rfl⟩,⟨_,by unfold Qb; rw [hB]; rfl,rfl⟩⟩
theorem Q28 (stacks height:Int) (l o:List Int) (box:Int) (hs:0≤stacks∧stacks≤255) (hh:0≤height∧height≤255) (hl:∀ v∈l,0≤v∧v≤255) (ho:∀ v∈o,0≤v∧v≤255) (hb:0≤box∧box≤65535):R8 500 stacks height l o box=some true:=by
 refine Z0 ?_
 unfold R8
 refine H0 Qca (Jc (fun h=>by cases h) (fun _=>?_))
 refine G05 (wp_mono (Q94 hs hh hl) (fun y hy=>?_))
 refine G05 (wp_mono (J91 (F:=500) (by decide) hy.len ho (by decide)) (fun r hr=>?_))
 refine Q4 (Zg (by rw [List.length_nil]; omega) (by decide)) (Qk (by omega) (Qk (by omega) ?_))
 refine Q4 (Zg (by rw [List.nil_append,Kh]; omega) (by decide)) (Q4 (Zg (by rw [List.length_nil]; omega) (by decide)) (Q4 (Zg (by rw [List.nil_append]; omega) (by decide)) ?_))
 rw [List.nil_append]
 refine Qv (fun _ _=>True) trivial (fun pre x post s nx e _ h1=>?_) (fun s _=>Hz rfl)
 have h3:pre.length < 3:=by
  have:=congrArg List.length e
  simp only [Kg,Kc,List.length_nil] at this; omega
 have hg:([r++[100+box],r++r,[0]]:List (List Int))[pre.length]? = some x:=by rw [e]; simp
 refine H1d (fun _=>True) (fun K hK=>?_) (fun a _=>h1 _ trivial)
 refine Qn rfl hg (Jc (fun _=>hK _ trivial) (fun h0=>?_))
 have h0:¬ (x.length:Int)=0:=Er h0
 have hx:x∈([r++[100+box],r++r,[0]]:List (List Int)):=Ey hg
 have h2:¬ H0c y.Stacks x:=fun hO=>by
  simp only [Kp,Ez,or_false] at hx
  rcases hx with rfl | rfl | rfl
  ·have:=hy.ids _ (hO.in_ (100+box) (by simp))
   omega
  ·cases r with
   | nil=>simp at h0
   | cons b r=>
    have:=hO.nodup
    exact(List.nodup_append.1 this).2.2 b (List.mem_cons_self ..) b (List.mem_cons_self ..) rfl
  ·have:=hy.ids _ (hO.in_ 0 (by simp))
   omega
 obtain⟨⟨r1,a1,b1⟩,⟨r2,a2,b2⟩,⟨r3,a3,b3⟩,⟨r4,a4,b4⟩,⟨r5,a5,b5⟩⟩:=Q71 (F:=500) (by decide) h2
 refine H0 a1 (H0 a2 (H0 a3 (H0 a4 (H0 a5 (Jc (fun h=>?_) (fun _=>hK _ trivial))))))
 rw [b1,b2,b3,b4,b5] at h
 simp at h
end Go.Proofs.Ytokjlondbjdlfaa
