/- The closed statement of chapter 36: -/
import Derived.Test.YtokjlondbjdlfaaGreatXS
set_option maxRecDepth 100000
set_option linter.unusedVariables false
namespace Go.Proofs.YtokjlondbjdlfaaGreat
open Go.RowKit Go.Sort Go.Shelf

theorem Qed:Qr 9000100=some true:=by
 have ex1:He 9000100 ⟨[[1,3,2],[4],[]],3⟩ [1,2,3,4]=some ([⟨0,1⟩,⟨0,2⟩],0):=by kernel_rfl
 have ex2:He 9000100 ⟨[[1,2],[3,4]],2⟩ [1,2,3,4]=some ([],360):=by kernel_rfl
 have ex3:He 9000100 ⟨[[1,3],[2]],2⟩ [1,2,3]=some ([],360):=by kernel_rfl
 have ex4:He 9000100 ⟨[[1,3],[2,4],[]],2⟩ [1,2,3,4]=some ([⟨1,2⟩,⟨0,2⟩],0):=by kernel_rfl
 have R80:Jh 9000100 ⟨[[1,3,2],[4],[]],3⟩ [1,2,3,4]=some ([⟨0,1⟩,⟨0,2⟩],0):=by kernel_rfl
 have R7f:Jh 9000100 ⟨[[1,2],[3,4]],2⟩ [1,2,3,4]=some ([],6):=by kernel_rfl
 have R7e:Jh 9000100 ⟨[[1,3],[2]],2⟩ [1,2,3]=some ([],6):=by kernel_rfl
 refine Y1 ?_
 unfold Qr
 refine Gg exW (Gg (G42 (by decide) (by decide) ex1) (Gg R80 (Gg exC ?_)))
 refine Gg (G93 [2,3]) (Zm (x:=true) rfl (G48 [⟨0,1⟩,⟨0,2⟩]) (Zm (x:=true) rfl (G48 [⟨0,1⟩,⟨0,2⟩]) ?_))
 refine Gg (x:=0) rfl (Gg (x:=0) rfl (Gg (x:=0) rfl (J0 (fun h=>absurd h (show ¬ ((!true||!true||!true||!true||decide ((0:Int)≠0))=true) by decide)) (fun _=>?_))))
 refine Gg (G42 (by decide) (by decide) ex2) (Gg R7f (Gg (x:=3) rfl (Gg (G42 (by decide) (by decide) ex3) (Gg (x:=3) rfl (Gg R7e (J0 (fun h=>absurd h (show ¬ ((decide ((360:Int)≠360)||decide ((6:Int)≠6)||decide ((360:Int)≠360)||decide ((6:Int)≠6))=true) by decide)) (fun _=>?_)))))))
 exact Gg (G42 (by decide) (by decide) ex4) (Zm (x:=true) rfl (G48 [⟨1,2⟩,⟨0,2⟩]) (Hy rfl))

theorem R35 {F:Nat} {y:Gh} {order:List Int} {l:List G2} (h:J5d F y order) (hl:l.length≤60):Qi F y order l=some true:=if_pos ⟨h,hl⟩
theorem R8b {F:Nat} {y:Gh} {order:List Int} (h:J5d F y order):Qm F y order=some true:=if_pos h
theorem R8a {F:Nat} {y:Gh} {order:List Int} (h:J5d F y order):Q7 F y order=some true:=if_pos h
theorem J65 (n:Int):∀ (f b:Nat) (left:Int) (rows:List (List Int)) (k:Nat),rows.length=3→(∀ s∈rows,s.length≤k)→(Gba n f b left rows).length=3∧∀ s∈Gba n f b left rows,s.length≤k+f
 | 0,_,_,rows,k,h1,h2=>⟨h1,h2⟩
 | f+1,b,left,rows,k,h1,h2=>by
  rw [Gba]
  have:=J65 n f (b+1) (left.tdiv 3) (rows.set (left.tmod 3).toNat (rows.getD (left.tmod 3).toNat []++[((b:Int)+n.tmod 2).tmod 4+1])) (k+1) (by rw [List.length_set]; exact h1) (fun s hs=>by
   rcases List.mem_or_eq_of_mem_set hs with hs | rfl
   ·have:=h2 s hs; omega
   ·rw [Ki,Kj]
    have:(rows.getD (left.tmod 3).toNat []).length≤k:=by
     rw [List.getD_eq_getElem?_getD]
     cases hq:rows[(left.tmod 3).toNat]? with
     | none=>exact Nat.zero_le _
     | some s=>exact h2 s (K0 hq)
    omega)
  exact⟨this.1,fun s hs=>by have:=this.2 s hs; omega⟩
theorem Qc6 {h:Nat}:∀ {p:List G2} {ss t:List (List Int)},run h ss p=some t→∀ m∈p,0≤m.To∧m.To < (ss.length:Int)
 | [],_,_,_,m,hm=>by simp at hm
 | m0::p,ss,t,hr,m,hm=>by
  rw [run] at hr
  split at hr
  ·rename_i h0
   rcases G63 ss h m0 with h' | ⟨f,t',a,b,x,c⟩
   ·exact(h' h0).elim
   ·have ht:=(Ex c.ht).1
    rcases Kr.1 hm with rfl | hm
    ·rw [c.to_]; omega
    ·have:=Qc6 hr m hm
     rw [c.eq] at this
     simpa using this
  ·cases hr
theorem R75 {k v:Nat} {s:List Int} (hs:s.length≤6):∀ t∈(List.replicate k ([]:List Int)).set v s,t.length≤10:=fun t ht=>by
 rcases List.mem_or_eq_of_mem_set ht with ht | rfl
 ·rw [List.eq_of_mem_replicate ht]; exact Nat.zero_le _
 ·omega
theorem Q39:Rn 9000100=some true:=by
 refine Y1 ?_
 unfold Rn
 refine Jn (by decide) ?_
 refine H01 (fun _ _=>True) trivial (fun i s nx hi _ h5=>?_) (fun s _=>?_)
 ·have hi:i < 243:=hi
  refine Gg (x:=Gba (i:Int) 4 1 ((i:Int).tdiv 3) [[],[],[]]) (by unfold J83; rw [show decide (0≤(i:Int)∧(i:Int)≤1000)=true from Ev (by omega)]; rfl) ?_
  obtain⟨a7,h1⟩:=J65 (i:Int) 4 1 ((i:Int).tdiv 3) [[],[],[]] 0 rfl (by simp)
  generalize Gba (i:Int) 4 1 ((i:Int).tdiv 3) [[],[],[]]=rows at a7 h1 ⊢
  refine Zv (Rs (m:=2) rfl (by omega) ?_)
  have hO:∀ x∈([[],[1],[4,2],[1,2,3,4],[2,2],[5]]:List (List Int)),x.length≤4:=by decide
  refine Qd (fun _ _=>True) trivial (fun pre x0 post s nx' e _ a4=>?_) (fun s _=>h5 _ trivial)
  have a8:pre.length < 6:=by
   have:=congrArg List.length e
   simp only [Ki,Ke,List.length_nil] at this; omega
  obtain⟨x,h8⟩:∃ x,([[],[1],[4,2],[1,2,3,4],[2,2],[5]]:List (List Int))[pre.length]? = some x:=⟨_,Ey a8⟩
  have hx:=hO x (K0 h8)
  refine Qf (m:=pre.length) rfl h8 ?_
  have f1:J5d 9000100 ⟨rows,1+(i:Int).tmod 3⟩ x:=⟨by decide,fun s hs=>by have:=h1 s hs; omega,by show rows.length≤32; omega,by omega⟩
  have f2:J5d 9000100 ⟨rows.take 2,1+(i:Int).tmod 3⟩ x:=⟨by decide,fun s hs=>by have:=h1 s (List.mem_of_mem_take hs); omega,by show (rows.take 2).length≤32; rw [List.length_take]; omega,by omega⟩
  refine Gg (R8b f1) (Jn rfl (Gg (R8a f1) (Jn rfl (Gg (R8b f2) (Jn rfl (Gg (R8a f2) (Jn rfl ?_)))))))
  obtain⟨l,er,hA,hB,a9,h3⟩:=H1d (F:=9000100) (by decide) rows (1+(i:Int).tmod 3) (order:=x) (by omega)
  have b7:rows.flatten.length≤12:=by
   have:=H39 (ss:=rows) (k:=4) (fun s hs=>by have:=h1 s hs; omega)
   omega
  have b0:l.length≤12:=by
   by_cases hR:Z5 rows (1+(i:Int).tmod 3) x
   ·rcases h3 hR with ⟨_,rfl,_⟩ | ⟨_,t,_,_,h4⟩
    ·simp
    ·have:=(G95 x rows).length_le; omega
   ·have b8:=hA
    have h0:=hB
    unfold He at h0
    rw [G26,Ew hR] at h0
    have:=Ez h0
    have:l=[]:=(congrArg Prod.fst this).symm
    rw [this]; simp
  refine Gg hB (Gg (J8e a9) ?_)
  have hm:(l.map mv).length≤12:=by rw [Kn]; exact b0
  have h9:∀ m∈l.map mv,0≤m.To∧m.To≤3:=by
   by_cases hR:Z5 rows (1+(i:Int).tmod 3) x
   ·rcases h3 hR with ⟨_,rfl,_⟩ | ⟨_,t,h2,_,_⟩
    ·intro m hm; simp at hm
    ·intro m hm
     have:=Qc6 h2 m hm; omega
   ·have h0:=hB
    unfold He at h0
    rw [G26,Ew hR] at h0
    have:=Ez h0
    have:l=[]:=(congrArg Prod.fst this).symm
    rw [this]; intro m hm; simp at hm
  generalize l.map mv=moves at hm h9 ⊢
  refine Gg (R35 f1 (by omega)) (Jn rfl (Jn (Zt (by rw [Kj]; omega) (by decide)) (Gg (R35 f1 (by rw [Ki,Kj]; omega)) (Jn rfl ?_))))
  refine Qd (fun _ _=>True) trivial (fun pr y po s nx2 e2 _ a5=>?_) (fun s _=>a4 _ trivial)
  have b9:pr.length < moves.length:=by rw [e2,Ki,Ke]; omega
  have hy:moves[pr.length]? = some y:=by rw [e2]; simp
  have a0:(([]:List G2)++moves)[pr.length]? = some y:=by rw [List.nil_append]; exact hy
  refine Zv (Rs (m:=pr.length) rfl (by omega) ?_)
  refine Jn (Zt (by rw [List.length_nil,List.length_take]; omega) (by decide)) (Zv (Rs (m:=pr.length+1) rfl (by omega) ?_))
  refine Jn (Zt (by rw [List.nil_append,List.length_take,List.length_drop]; omega) (by decide)) (Jn (Zt (by rw [List.length_nil]; omega) (by decide)) ?_)
  refine Qf (m:=pr.length) rfl a0 ?_
  have c0:=h9 y (by rw [e2]; simp)
  refine Qh (by omega) (Zv (R6d (by decide) ?_))
  refine Qf (m:=pr.length) rfl a0 ?_
  refine Gg (R35 f1 (by rw [List.nil_append,Ki,List.length_take,List.length_drop]; omega)) (Jn rfl ?_)
  refine Gg (R35 f1 (by rw [List.length_set,List.nil_append]; omega)) (J0 (fun h=>by cases h) (fun _=>a5 _ trivial))
 ·refine wp_loop (fun n:Int=>3≤n∧n≤7) (fun n=>(7 - n).toNat) ⟨by decide,by decide⟩ (by decide) (fun n nx hn h5=>?_)
  refine J0 (fun h7=>?_) (fun _=>Gg Qed (Hy rfl))
  have h7:=Es h7
  refine wp_loop (fun z:List Int×Int=>z.1.length+1=z.2∧1≤z.2∧z.2≤n+1) (fun z=>(n+2 - z.2).toNat) ⟨rfl,by decide,by show (1:Int)≤n+1; omega⟩ (by show (n+2 - 1).toNat < 9000100; omega) (fun z nz hz a1=>?_)
  obtain⟨s,b⟩:=z
  obtain⟨b1,b2,b3⟩:=hz
  dsimp only at b1 b2 b3 a1 ⊢
  refine J0 (fun hb=>?_) (fun hb=>?_)
  ·have hb:=Es hb
   refine Jn (Zt (by rw [Kj]; omega) (by decide)) (Qh (by omega) (a1 _ ⟨?_,?_,?_⟩ ?_))
   ·show ((s++[b]).length:Int)+1=b+1
    rw [Ki,Kj]; omega
   ·show 1≤b+1; omega
   ·show b+1≤n+1; omega
   ·show (n+2 - (b+1)).toNat < (n+2 - b).toNat; omega
  have b4:s.length≤6:=by omega
  refine wp_loop (fun k:Int=>2≤k∧k≤6) (fun k=>(6 - k).toNat) ⟨by decide,by decide⟩ (by decide) (fun k nk hk b5=>?_)
  refine J0 (fun h6=>?_) (fun _=>Qh (by omega) (h5 _ ⟨by omega,by omega⟩ (by omega)))
  have h6:=Es h6
  obtain⟨q,hq⟩:∃ q:Nat,k=(q:Int):=⟨k.toNat,by omega⟩
  subst hq
  refine Gg (Q33 (n:=q) rfl) (Jn (Ev ⟨by omega,by unfold maxLen; omega,by omega⟩) (Qh (by omega) ?_))
  refine Qf (m:=q - 1) (by omega) (x:=[]) (by rw [List.getElem?_replicate,if_pos (by omega)]) ?_
  have hf:∀ o:List Int,o.length≤60→J5d 9000100 ⟨(List.replicate q ([]:List Int)).set ((q:Int) - 1).toNat s,6⟩ o:=fun o ho=>⟨by decide,R75 b4,by show ((List.replicate q ([]:List Int)).set ((q:Int) - 1).toNat s).length≤32; rw [List.length_set,List.length_replicate]; omega,ho⟩
  have b6:=hf s (by omega)
  -- whatever is asked answers true
  have ask:∀ (c:Bool) (o:List Int) (K:Bool→Option Bool),o.length≤60→(∀ r,(c=true→r=true)→Wp (K r) (·=true))→Wp (bnd (bif c then Q7 9000100 ⟨(List.replicate q ([]:List Int)).set ((q:Int) - 1).toNat s,6⟩ o else some default) K) (·=true):=fun c o K ho hK=>by
   cases c with
   | true=>exact Gg (R8a (hf o ho)) (hK true fun _=>rfl)
   | false=>exact Gg (x:=default) rfl (hK _ fun h=>by cases h)
  refine ask _ s _ (by omega) (fun r1 a2=>?_)
  generalize c3:(decide (n < 5)||decide ((q:Int)≠4))=c1 at a2 ⊢
  have e1:(c1&&!r1)=false:=by
   cases c1 with
   | false=>rfl
   | true=>rw [a2 rfl]; rfl
  rw [e1]
  simp only [Bool.not_false,Bool.true_and,Bool.false_or]
  have a6:Wp (bif decide ((q:Int) < 4) then Rm 1 s.length else some 0) (fun m=>m≤1):=by
   refine J0 (fun h=>Rs (m:=1) rfl ?_ (Kb)) (fun _=>Hy (Nat.zero_le _))
   have:=Eu hb
   omega
  refine Zv (wp_mono a6 (fun m hm=>?_))
  refine ask _ (s.take m) _ (by rw [List.length_take]; omega) (fun r2 a3=>?_)
  generalize c4:decide ((q:Int) < 4)=c2 at a3 ⊢
  have e2:(c2&&!r2)=false:=by
   cases c2 with
   | false=>rfl
   | true=>rw [a3 rfl]; rfl
  rw [e2]
  simp only [Bool.not_false,cond_true,Bool.false_or]
  refine Gg (R8b b6) (J0 (fun h=>by cases h) (fun _=>Qh (by omega) (b5 _ ⟨by omega,by omega⟩ (by omega))))
end Go.Proofs.YtokjlondbjdlfaaGreat
