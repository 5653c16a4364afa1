/-
 Made yards,ordered boxes. Least; Least of program and reference; How many yards there are of five boxes in four stacks: Least:
-/
import Derived.Test.YtokjlondbjdlfaaSpecM
import Derived.Test.YtokjlondbjdlfaaXI
import Derived.Test.YtokjlondbjdlfaaMarP
import Derived.Test.YtokjlondbjdlfaaMarM
set_option maxRecDepth 100000
set_option linter.unusedVariables false
namespace Go.Proofs.Ytokjlondbjdlfaa
open Go.RowKit Go.Sort Go.Shelf

theorem J9a {H:Nat} {rows:List (List Int)} (h:∀ s∈rows,∀ b∈s,1≤b∧b≤20) {v i:Int} (hi:0≤i∧i < 20):∀ (f k:Nat),∀ s∈G6c H rows v i f k,∀ b∈s,1≤b∧b≤20
 | 0,_,s,hs=>h s hs
 | f+1,k,s,hs=>by
  rw [G6c] at hs
  split at hs
  ·rcases List.mem_or_eq_of_mem_set hs with hs | rfl
   ·exact h s hs
   ·intro b hb
    rcases Km.1 hb with hb | hb
    ·rw [List.getD_eq_getElem?_getD] at hb
     cases hq:rows[((v+(k:Int)).tmod (rows.length:Int)).toNat]? with
     | none=>rw [hq] at hb; simp at hb
     | some t=>rw [hq] at hb; exact h t (Ey hq) b hb
    ·rw [Ko] at hb; omega
  ·exact J9a h hi f (k+1) s hs
theorem J48 {H:Nat}:∀ (l:List Int) (i:Nat) (rows:List (List Int)),(∀ s∈rows,s.length≤H)→(∀ s∈rows,∀ b∈s,1≤b∧b≤20)→(Gb1 H l i rows).length=rows.length∧(∀ s∈Gb1 H l i rows,s.length≤H)∧∀ s∈Gb1 H l i rows,∀ b∈s,1≤b∧b≤20
 | [],i,rows,h1,h2=>⟨rfl,h1,h2⟩
 | v::l,i,rows,h1,h2=>by
  rw [Gb1]
  split
  ·rename_i hi
   have h3:=J48 l (i+1) (G6c H rows v (i:Int) rows.length 0) (He0 h1 v _ _ 0) (J9a h2 (by omega) _ 0)
   exact⟨h3.1.trans (He1 H rows v _ _ 0),h3.2⟩
  ·exact⟨rfl,h1,h2⟩
structure J67 (y:Gm):Prop where
 low:1≤y.Height
 high:y.Height≤6
 some_:1≤y.Stacks.length
 most:y.Stacks.length≤6
 fit:∀ s∈y.Stacks,(s.length:Int)≤y.Height
 ids:∀ b∈y.Stacks.flatten,1≤b∧b≤20
theorem Qdb {stacks height:Int} {l:List Int} (hs:0≤stacks∧stacks≤255) (hh:0≤height∧height≤255) (hl:∀ v∈l,0≤v∧v≤255):Wp (Jv stacks height l) J67:=by
 unfold Jv
 refine Q5 ?_ (Hj ?_)
 ·rw [Ki,List.all_eq_true]
  exact⟨Es ⟨hs.1,hs.2,hh.1,hh.2⟩,fun v hv=>Es (hl v hv)⟩
 ·have e1:stacks.tmod 6=stacks % 6:=Int.tmod_eq_emod_of_nonneg hs.1
  have e2:height.tmod 6=height % 6:=Int.tmod_eq_emod_of_nonneg hh.1
  rw [e1,e2]
  obtain⟨h1,h2,h3⟩:=J48 (H:=1+(height % 6).toNat) l 0 (List.replicate (1+(stacks % 6).toNat) []) (fun s hs=>by rw [List.eq_of_mem_replicate hs]; simp) (fun s hs=>by rw [List.eq_of_mem_replicate hs]; simp)
  rw [List.length_replicate] at h1
  refine⟨by dsimp only; omega,by dsimp only; omega,by dsimp only; omega,by dsimp only; omega,fun s hs=>by have:=h2 s hs; dsimp only; omega,fun b hb=>?_⟩
  obtain⟨s,h0,h4⟩:=List.mem_flatten.1 hb
  exact h3 s h0 b h4
theorem J67.len {y:Gm} (h:J67 y):y.Stacks.flatten.length≤36:=by
 have:=H44 (ss:=y.Stacks) (k:=6) (fun s hs=>by have:=h.fit s hs; have:=h.high; omega)
 have:=h.most
 omega
open Go.RowKit

/-! ### The first yard aQ bytes -/
theorem R56 (boxes:List Int):G88 boxes []=Gu.zero:=by
 refine Gu.ext_g fun j hj=>?_
 rw [H48 boxes [] hj]
 have:Gu.zero.g j=0:=by
  unfold Gu.zero Gu.g
  rw [List.getD_eq_getElem?_getD,List.getElem?_replicate]
  split <;> rfl
 rw [this]
 rfl
theorem Qd3 (boxes:List Int) (pre:List (List Int)):G88 boxes (pre++[[]])=G88 boxes pre:=by
 refine Gu.ext_g fun j hj=>?_
 rw [H48 _ _ hj,H48 _ _ hj]
 congr 1
 unfold cellAt
 rcases En (j / 6) pre.length with h | h
 ·rw [Kb h]
 ·rw [Ka h,List.getElem?_eq_none h]
  cases hq:([[]]:List (List Int))[j / 6 - pre.length]? with
  | none=>rfl
  | some s=>
   have:=Ey hq
   rw [Ko] at this
   subst this; rfl
theorem R11 (boxes:List Int) (pre:List (List Int)) (pr:List Int) (b:Int) (hp:pre.length < 4) (hl:pr.length < 6):G88 boxes (pre++[pr++[b]])=(G88 boxes (pre++[pr])).set (pre.length*6+pr.length*1) (codeOf boxes (some b)):=by
 refine Gu.ext_g fun j hj=>?_
 rw [Gu.Q9c _ (by omega),H48 _ _ hj,H48 _ _ hj]
 obtain⟨i,k,hi,hk,rfl⟩:∃ i k,i < 4∧k < 6∧j=i*6+k:=⟨j / 6,j % 6,by omega,by omega,by omega⟩
 rw [show (i*6+k) / 6=i by omega,show (i*6+k) % 6=k by omega]
 by_cases e:i=pre.length
 ·subst e
  have g1:∀ s:List Int,cellAt (pre++[s]) pre.length k=s[k]? := fun s=>G5b (by simp)
  rw [g1,g1]
  by_cases e2:k=pr.length
  ·subst e2; rw [if_pos (by omega)]; simp
  ·rw [if_neg (by omega)]
   rcases En k pr.length with h | h
   ·rw [Kb h]
   ·rw [List.getElem?_eq_none (by simp; omega),List.getElem?_eq_none (by omega)]
 ·rw [if_neg (by omega)]
  congr 1
  unfold cellAt
  rcases En i pre.length with h | h
  ·rw [Kb h,Kb h]
  ·rw [List.getElem?_eq_none (by simp; omega),List.getElem?_eq_none (by simp; omega)]
theorem Jae {ss:List (List Int)} (h:ss.flatten.length≤180):Yk ss=some ss.flatten:=by
 refine Rj ?_
 unfold Yk
 refine Jz (fun pre s=>s=(pre.flatten.length:Int)) rfl (fun pre x post s nx e hI h0=>?_) (fun s hI=>?_)
 ·subst hI
  have:pre.flatten.length+x.length≤180:=by
   rw [e,List.flatten_append,List.flatten_cons,Kg,Kg] at h; omega
  refine Q0 (by omega) (Hn (fun g=>by have:=Ep g; omega) (fun _=>h0 _ ?_))
  rw [List.flatten_append,List.flatten_singleton,Kg]; omega
 ·have hI:s=(ss.flatten.length:Int):=hI
  subst hI
  refine Gj (x:=[]) ?_ ?_
  ·unfold G33 need
   rw [Es ⟨by omega,by omega,by unfold maxLen; omega⟩]; rfl
  ·refine Jz (fun pre s=>s=pre.flatten) rfl (fun pre x post s nx e hI h0=>?_) (fun s hI=>Hj hI)
   subst hI
   have:pre.flatten.length+x.length≤180:=by
    rw [e,List.flatten_append,List.flatten_cons,Kg,Kg] at h; omega
   refine Q5 (Zi (by omega) (by decide)) (h0 _ (by simp))

section
variable {boxes order:List Int} {n:Nat} {H:Int}
theorem Q8c {G:Nat} (hG:9000030 < G) (hb:boxes.length≤5) {Z:List Gb×Option Nat} (hZ:R2b boxes n H Z) {res:(List G8)×Int} (h1:(Z.2=none∧res=([],6))∨∃ i l,Z.2=some i∧J70 Z.1 i l∧l.length≤i∧res=(l.reverse,0)):∀ (f:Nat) {all:List Gb} (at_:Nat),Met boxes n H all→at_≤all.length→7962624 < f+at_→bfs order H f all at_=Z →
  loop (fun nx13 (s13:Int×(List Gb))=>bif decide (s13.1 < (s13.2.length:Int)) then (R5 s13.2 s13.1 fun y19=>bnd (J3 G y19.y order) fun r20=>bif decide (0 < (r20.length:Int)) then (bnd (Re G s13.2 s13.1) fun r22=>chk (s13.1+1) fun v24=>nx13 (v24,r22)) else (loop (fun nx37 (s37:(List G8)×Int)=>bif decide (0 < s37.2) then (R5 s13.2 s37.2 fun y41=>need (decide (([y41.by_].length+s37.1.length)*16≤140737488355328∧[y41.by_].length+s37.1.length≤maxLen)) <| R5 s13.2 s37.2 fun y43=>nx37 (([y41.by_]++s37.1),y43.from_)) else (some (s37.1,(0:Int)))) G ([],s13.1))) else (some ([],6))) f ((at_:Int),all)=some res
 | 0,all,at_,hA,h5,hf,h0=>by have:=hA.len hb; omega
 | f+1,all,at_,hA,h5,hf,h0=>by
  refine Rj ?_
  have h7:=hA.len hb
  rw [loop]
  rw [bfs] at h0
  cases hz:all[at_]? with
  | none=>
   have h8:all.length≤at_:=List.getElem?_eq_none_iff.1 hz
   rw [hz] at h0
   dsimp only at h0
   subst h0
   refine Hn (fun h=>by have h:(at_:Int) < (all.length:Int):=Ep h; omega) (fun _=>Hj ?_)
   rcases h1 with ⟨_,h⟩ | ⟨i,l,h,_⟩
   ·exact h.symm
   ·cases h
  | some z=>
   have h4:=(Ev hz).1
   have h3:=hA.ok z (Ey hz)
   rw [hz] at h0
   dsimp only at h0
   refine Hn (fun _=>?_) (fun h=>by have h:¬ (at_:Int) < (all.length:Int):=Er h; omega)
   refine Qm rfl hz ?_
   have ey:z.y=⟨z.y.Stacks,z.y.Height⟩:=rfl
   rw [ey]
   refine Gj (H45 G h3.1.right.all) (Hn (fun h=>?_) (fun h=>?_))
   ·have hw:Q1 order z.y.Stacks≠[]:=fun e=>by rw [e] at h; simp at h
    rw [if_neg hw] at h0
    refine Gj (R1a (all:=all) hz (fun z hz=>hA.ok z hz) (by omega) (by omega)) (Q0 (by dsimp only; omega) ?_)
    have h6:=hA.G3e (G6a z.y.Stacks H.toNat) h4 (H40 h3.1)
    have hl:=(H4d H (at_:Int) (G6a z.y.Stacks H.toNat) all).1
    exact⟨res,Q8c hG hb hZ h1 f (at_+1) h6 (by omega) (by omega) h0,rfl⟩
   ·have hw:Q1 order z.y.Stacks=[]:=by
     have h:¬ 0 < ((Q1 order z.y.Stacks).length:Int):=Er h
     exact Ej (by omega)
    rw [if_pos hw] at h0
    subst h0
    rcases h1 with ⟨h,_⟩ | ⟨i,l,h,h2,h9,hr⟩
    ·cases h
    ·have hi:at_=i:=Ex h
     subst hi
     refine⟨_,R7f hA G at_ (acc:=[]) h2 (by omega) (by rw [List.length_nil]; omega),?_⟩
     rw [List.append_nil]; exact hr.symm
theorem Q8f {G:Nat} (hG:9000030 < G) (hb:boxes.length≤5) {Z:List Gb×Option Nat} {β:Type} {Q:β→Prop} {K:Int×(Qh Gu Int)×(List Gv)×Int→Option β}
  (hK:∀ m,(Z.2=none→Wp (K (-1,m,Z.1.map (cv boxes),(Z.1.length:Int))) Q)∧∀ i:Nat,Z.2=some i→Wp (K ((i:Int),m,Z.1.map (cv boxes),(i:Int))) Q):∀ (f:Nat) {all:List Gb} {met:Qh Gu Int} (at_:Nat),Met boxes n H all→Rb6 boxes met all→at_≤all.length→7962624 < f+at_→bfs order H f all at_=Z →
  Wp (loop (fun nx84 (s84:Int×(List Gv)×Int×(Qh Gu Int))=>bif decide (s84.2.2.1 < (s84.2.1.length:Int)) then (R5 s84.2.1 s84.2.2.1 fun y89=>bnd (Ri G y89.s (n:Int) (Ge0 order boxes)) fun r93=>bif r93 then (K (s84.2.2.1,s84.2.2.2,s84.2.1,s84.2.2.1)) else (bnd (Zy y89.s (n:Int) H) fun r96=>bnd (Y7 G (n:Int) y89.s H) fun ys109=>
   each (fun(y109:G3×Gu) i109 (s109:(List Gv)×(Qh Gu Int)) nx109=>bnd (some (Qh.get s109.2 y109.2 0)) fun v112=>bif (!(Qh.has s109.2 y109.2)) then (need (decide ((s109.1.length+[(Gv.mk y109.2 s84.2.2.1 y109.1)].length)*48≤140737488355328∧s109.1.length+[(Gv.mk y109.2 s84.2.2.1 y109.1)].length≤maxLen)) <| nx109 ((s109.1++[(Gv.mk y109.2 s84.2.2.1 y109.1)]),(Qh.put s109.2 y109.2 (s109.1.length:Int)))) else (nx109 (s109.1,s109.2)))
    (fun(s109:(List Gv)×(Qh Gu Int))=>chk (s84.2.2.1+1) fun v118=>nx84 (s84.1,s109.1,v118,s109.2)) ys109 0 (s84.2.1,s84.2.2.2))) else (K (s84.1,s84.2.2.2,s84.2.1,s84.2.2.1))) f (-1,all.map (cv boxes),(at_:Int),met)) Q
 | 0,all,met,at_,hA,hm,h2,hf,h0=>by have:=hA.len hb; omega
 | f+1,all,met,at_,hA,hm,h2,hf,h0=>by
  have h6:=hA.len hb
  rw [loop]
  rw [bfs] at h0
  cases hz:all[at_]? with
  | none=>
   have h7:all.length≤at_:=List.getElem?_eq_none_iff.1 hz
   have h2:at_=all.length:=by omega
   rw [hz] at h0
   dsimp only at h0
   subst h0
   refine Hn (fun h=>by have h:(at_:Int) < ((all.map (cv boxes)).length:Int):=Ep h; rw [Kk] at h; omega) (fun _=>?_)
   dsimp only
   rw [h2]
   exact(hK met).1 rfl
  | some z=>
   have h3:=(Ev hz).1
   have h1:=hA.ok z (Ey hz)
   rw [hz] at h0
   dsimp only at h0
   refine Hn (fun _=>?_) (fun h=>by have h:¬ (at_:Int) < ((all.map (cv boxes)).length:Int):=Er h; rw [Kk] at h; omega)
   refine Qm (m:=at_) (x:=cv boxes z) rfl (by rw [Kd,hz]; rfl) ?_
   refine Gj (Qbe (by omega) h1.1) (Hn (fun h=>?_) (fun h=>?_))
   ·have hw:Q1 order z.y.Stacks=[]:=Ep h
    rw [if_pos hw] at h0
    subst h0
    exact(hK met).2 at_ rfl
   ·have hw:¬ Q1 order z.y.Stacks=[]:=Er h
    rw [if_neg hw] at h0
    refine Gj (x:=()) rfl (Gj (R03 (by omega) h1.1) ?_)
    have h4:=hA.G3e (G6a z.y.Stacks H.toNat) h3 (H40 h1.1)
    have hl:=(H4d H (at_:Int) (G6a z.y.Stacks H.toNat) all).1
    have h8:=Qcb (ss:=z.y.Stacks) (h:=H.toNat) (by rw [h1.1.len]; exact h1.1.few)
    refine R9b (G6a z.y.Stacks H.toNat) 0 hA h3 (H40 h1.1) hm (by omega) (fun met' h5=>Q0 (by dsimp only; omega) ?_)
    exact Q8f hG hb hK f (at_+1) h4 h5 (by omega) (by omega) h0
end

theorem R96 {α β:Type} {Q:β→Prop} {m:(α→Option β)→Option β} {k:α→Option β} (h:∀ K,K=k→Wp (m K) Q):Wp (jp m k) Q:=h k rfl
theorem Reb {z:Int} (h:0≤z∧z≤255):IntKind.u8.wrap z=z:=by
 simp [IntKind.wrap,IntKind.bits,IntKind.signed]; omega
theorem R0f {ss:List (List Int)} (hn:ss.flatten.Nodup) (h5:ss.flatten.length≤5) (h4:ss.length≤4) {β:Type} {Q:β→Prop} {K:Int×Gu→Option β} (hK:Wp (K ((ss.flatten.length:Int),G88 ss.flatten ss)) Q) :
  Wp (each (fun(y40:List Int) i40 (s40:Int×Gu) nx40=>each (fun y70 i70 (s70:Int×Gu) nx70=>bnd (Rw (i40:Int) 3) fun m76=>bnd (Rw (i70:Int) 5) fun m77=>nx70 (IntKind.u8.wrap (s70.1+1),(s70.2.set (m76*6+m77*1) (IntKind.u8.wrap (s70.1+1))))) (fun(s70:Int×Gu)=>nx40 (s70.1,s70.2)) y40 0 (s40.1,s40.2)) K ss 0 (0,Gu.zero)) Q:=by
 refine Jz (fun pre s=>s=((pre.flatten.length:Int),G88 ss.flatten pre)) (by rw [R56]; rfl) (fun pre x post s nx e hI h3=>?_) (fun s hI=>by rw [hI]; exact hK)
 subst hI
 have hp:pre.length < 4:=by
  have:=congrArg List.length e
  simp only [Kg,Kc] at this; omega
 refine Jz (fun pr s=>s=(((pre.flatten.length+pr.length:Nat):Int),G88 ss.flatten (pre++[pr]))) (by rw [Qd3]; rfl) (fun pr b po s nx' e' hJ h1=>?_) (fun s hJ=>h3 _ ?_)
 ·subst hJ
  have hf:ss.flatten=(pre.flatten++pr)++b::(po++post.flatten):=by rw [e,e',List.flatten_append,List.flatten_cons]; simp
  have hl:=congrArg List.length hf
  simp only [Kg,Kc] at hl
  have hb:b ∉ pre.flatten++pr:=fun hb=>by
   rw [hf] at hn
   exact(List.nodup_append.1 hn).2.2 b hb b (by simp) rfl
  have h2:ss.flatten.idxOf b=pre.flatten.length+pr.length:=by
   have:=(J19 (post:=po++post.flatten)).2 hb
   unfold rnk at this
   rw [hf,this,Kg]
  refine Yc (R6 (m:=pre.length) rfl (by omega) (Yc (R6 (m:=pr.length) rfl (by omega) ?_)))
  have hw:IntKind.u8.wrap (((pre.flatten.length+pr.length:Nat):Int)+1)=((pre.flatten.length+(pr++[b]).length:Nat):Int):=by
   rw [Reb (by omega),Kg,Kh]; omega
  dsimp only
  rw [hw]
  refine h1 _ ?_
  rw [R11 ss.flatten pre pr b hp (by omega)]
  have h0:codeOf ss.flatten (some b)=((pre.flatten.length+(pr++[b]).length:Nat):Int):=by
   show ((ss.flatten.idxOf b+1:Nat):Int)=_
   rw [h2,Kg,Kh]; omega
  rw [h0]
 ·subst hJ
  rw [List.flatten_append,List.flatten_singleton,Kg]
theorem Qf8 {order boxes:List Int} (h:boxes.length≤5) {β:Type} {Q:β→Prop} {K:List Int→Option β} (hK:Wp (K (Ge0 order boxes)) Q) :
  Wp (each (fun(y29:Int) i29 (s29:List Int) nx29=>bnd (Qb order y29) fun r34=>need (decide ((s29.length+[r34].length)*8≤140737488355328∧s29.length+[r34].length≤maxLen)) <| nx29 (s29++[r34])) K boxes 0 [0]) Q:=by
 refine Jz (fun pre s=>s=Ge0 order pre) rfl (fun pre x post s nx e hI h0=>?_) (fun s hI=>by rw [hI]; exact hK)
 subst hI
 have hp:pre.length < 5:=by
  have:=congrArg List.length e
  simp only [Kg,Kc] at this; omega
 refine Gj (H70 order x) (Q5 (Zi (by unfold Ge0; rw [Kc,Kk,Kh]; omega) (by decide)) (h0 _ ?_))
 unfold Ge0
 rw [List.map_append]; rfl
theorem Q12 {F:Nat} (hF:9000030 < F) (ss:List (List Int)) (H:Int) (order:List Int):∃ l e,J4 F ⟨ss,H⟩ order=some (l.map mv,e)∧Qw F ⟨ss,H⟩ order=some (l,e)∧l.length≤8000000∧(Y2 ss H order→5 < ss.flatten.length∨4 < ss.length→l=[]∧e=5) ∧
  (Y2 ss H order→ss.flatten.length≤5→ss.length≤4→((bfs order H F [⟨⟨ss,H⟩,-1,⟨0,0⟩⟩] 0).2=none∧l=[]∧e=6)∨∃ i b,(bfs order H F [⟨⟨ss,H⟩,-1,⟨0,0⟩⟩] 0).2=some i∧J70 (bfs order H F [⟨⟨ss,H⟩,-1,⟨0,0⟩⟩] 0).1 i b∧l=b.reverse∧e=0):=by
 by_cases hR:Y2 ss H order
 ·have h9:=hR.y.all
  by_cases a4:5 < ss.flatten.length∨4 < ss.length
  ·refine⟨[],5,?_,?_,by simp,fun _ _=>⟨rfl,rfl⟩,fun _ h1 h2=>by omega⟩
   ·unfold J4
    rw [G43,if_pos hR,G0c,Eu (by simp),cond_false]
    show (bnd (Yk ss) _)=_
    rw [Jae h9,G0c]
    have hd:(decide (5 < (ss.flatten.length:Int))||decide (4 < (ss.length:Int)))=true:=by
     rw [Kr,Kj,Kj]; omega
    show (bif (decide (5 < (ss.flatten.length:Int))||decide (4 < (ss.length:Int))) then _ else _)=_
    rw [hd]; rfl
   ·unfold Qw
    rw [G63,Es hR,G0c,Bool.not_true,cond_false,J6f (by omega),G0c]
    have hd:(decide (5 < (ss.flatten.length:Int))||decide (4 < (ss.length:Int)))=true:=by
     rw [Kr,Kj,Kj]; omega
    show (bif (decide (5 < (ss.flatten.length:Int))||decide (4 < (ss.length:Int))) then _ else _)=_
    rw [hd]; rfl
  ·have h5:ss.flatten.length≤5:=by omega
   have h4:ss.length≤4:=by omega
   obtain⟨boxes,h6⟩:∃ boxes,boxes=ss.flatten:=⟨_,rfl⟩
   obtain⟨first,h7⟩:∃ first:Gb,first=⟨⟨ss,H⟩,-1,⟨0,0⟩⟩:=⟨_,rfl⟩
   have hS:SmY boxes ss.length H ss:=⟨hR.y,rfl,h4,fun b=>by rw [h6]⟩
   have hA:Met boxes ss.length H [first]:=by
    refine⟨fun z hz=>?_,by simp,⟨first,rfl,by rw [h7]⟩,fun i z hz hi=>?_⟩
    ·rw [Ko] at hz; subst hz; rw [h7]; exact⟨hS,rfl⟩
    ·have:=(Ev hz).1
     simp at this; omega
   obtain⟨Z,hZ⟩:∃ Z,Z=bfs order H F [first] 0:=⟨_,rfl⟩
   have h0:R2b boxes ss.length H Z:=by rw [hZ]; exact Jc8 F 0 hA
   have a5:=h0.1.len (by rw [h6]; exact h5)
   obtain⟨res,h8⟩:∃ res:(List G8)×Int,(Z.2=none∧res=([],6))∨∃ i l,Z.2=some i∧J70 Z.1 i l∧l.length≤i∧res=(l.reverse,0):=by
    cases a2:Z.2 with
    | none=>exact⟨_,.inl ⟨rfl,rfl⟩⟩
    | some i=>
     obtain⟨l,h1,h2⟩:=Qa3 h0.1 i i (K0) (h0.2 i a2)
     exact⟨_,.inr ⟨i,l,rfl,h1,h2,rfl⟩⟩
   have a1:res.1.length≤8000000:=by
    rcases h8 with ⟨_,rfl⟩ | ⟨i,l,h1,h2,h3,rfl⟩
    ·simp
    ·have:=h0.2 i h1
     rw [List.length_reverse]; omega
   have hd:(decide (5 < (ss.flatten.length:Int))||decide (4 < (ss.length:Int)))=false:=by
    rw [Ks,decide_eq_false_iff_not,decide_eq_false_iff_not]; omega
   refine⟨res.1,res.2,?_,?_,a1,fun _ h=>by omega,fun _ _ _=>?_⟩
   rotate_left 2
   ·rw [h7] at hZ
    rw [← hZ]
    rcases h8 with ⟨g1,rfl⟩ | ⟨i,l,g1,g2,g3,rfl⟩
    ·exact .inl ⟨g1,rfl,rfl⟩
    ·exact .inr ⟨i,l,g1,g2,rfl,rfl⟩
   ·refine Rj ?_
    unfold J4
    refine Gj (G43 ss H order) ?_
    rw [if_pos hR]
    refine Hn (fun h=>by simp at h) (fun _=>Gj (Jae h9) (Hn (fun h=>?_) (fun _=>?_)))
    ·have h:(decide (5 < (ss.flatten.length:Int))||decide (4 < (ss.length:Int)))=true:=h
     rw [hd] at h; cases h
    ·rw [← h6]
     refine Qf8 (by rw [h6]; exact h5) ?_
     refine R0f (ss:=ss) hR.y.nodup h5 h4 ?_
     rw [← h6]
     refine R96 (fun K a0=>?_)
     subst h7
     refine Q8f (K:=K) (boxes:=boxes) (n:=ss.length) (H:=H) (order:=order) (G:=F) (Z:=Z) hF (by rw [h6]; exact h5) (fun m=>⟨fun h=>?_,fun i h=>?_⟩) F (all:=[⟨⟨ss,H⟩,-1,⟨0,0⟩⟩]) (met:=Qh.put (Qh.empty:Qh Gu Int) (G88 boxes ss) 0) 0 hA (fun s=>?_) (by simp) (by omega) hZ.symm
     ·rw [a0]
      refine Hn (fun _=>Hj ?_) (fun h=>by have h:¬ ((-1:Int) < 0):=Er h; omega)
      rcases h8 with ⟨_,rfl⟩ | ⟨i,l,h1,_⟩
      ·rfl
      ·rw [h] at h1; cases h1
     ·rw [a0]
      refine Hn (fun h=>by have h:(i:Int) < 0:=Ep h; omega) (fun _=>?_)
      rcases h8 with ⟨h1,_⟩ | ⟨i',l,h1,h2,h3,rfl⟩
      ·rw [h] at h1; cases h1
      ·rw [h] at h1
       have ei:i=i':=Ex h1
       subst ei
       have a3:=h0.2 i h
       refine⟨_,R81 h0.1 (G:=F) (by omega) F i (out:=[]) h2 (by omega) a3 (by rw [List.length_nil]; omega),?_⟩
       rw [List.nil_append,List.map_reverse]
     ·rw [R19,Kr,Kj]
      constructor
      ·rintro(g | g)
       ·exact⟨_,Ko.2 rfl,g⟩
       ·exact absurd g (by simp [Qh.has,Qh.empty,G08])
      ·rintro⟨z,hz,g⟩
       rw [Ko] at hz
       subst hz
       exact .inl g
   ·refine Rj ?_
    unfold Qw
    refine Gj (G63 F ss H order) ?_
    rw [Es hR]
    refine Hn (fun h=>by cases h) (fun _=>Gj (J6f (by omega)) (Hn (fun h=>?_) (fun _=>?_)))
    ·have h:(decide (5 < (ss.flatten.length:Int))||decide (4 < (ss.length:Int)))=true:=h
     rw [hd] at h; cases h
    ·have:=Q8c (boxes:=boxes) (order:=order) (G:=F) hF (by rw [h6]; exact h5) h0 h8 F (all:=[first]) 0 hA (by simp) (by omega) hZ.symm
     rw [h7] at this
     exact⟨_,this,rfl⟩
 ·refine⟨[],2,?_,?_,by simp,fun h=>(hR h).elim,fun h=>(hR h).elim⟩
  ·unfold J4
   rw [G43,if_neg hR]; rfl
  ·unfold Qw
   rw [G63,Eu hR]; rfl

def fct:Nat→Nat
 | 0=>1
 | n+1=>(n+1)*fct n
def pc:List Int→List Int→Nat
 | _,[]=>0
 | bs,p::ps=>bs.idxOf p+bs.length*pc (bs.erase p) ps
theorem R80:∀ {ps bs:List Int},ps.Perm bs→pc bs ps < fct bs.length
 | [],bs,h=>by
  have:bs=[]:=h.nil_eq.symm
  subst this; decide
 | p::ps,bs,h=>by
  have hp:p∈bs:=h.mem_iff.1 (List.mem_cons_self ..)
  have he:=(List.cons_perm_iff_perm_erase.1 h).2
  have ih:=R80 he
  have hl:=List.idxOf_lt_length_of_mem hp
  have h0:(bs.erase p).length=bs.length - 1:=List.length_erase_of_mem hp
  rw [pc]
  obtain⟨n,hn⟩:∃ n,bs.length=n+1:=⟨bs.length - 1,by omega⟩
  rw [h0,hn,Nat.add_sub_cancel] at ih
  rw [hn] at hl ⊢
  rw [fct]
  have:(n+1)*(pc (bs.erase p) ps+1)≤(n+1)*fct n:=Nat.mul_le_mul_left _ ih
  rw [Nat.mul_add] at this
  omega
theorem Qfb:∀ {ps qs bs:List Int},ps.Perm bs→qs.Perm bs→pc bs ps=pc bs qs→ps=qs
 | [],[],_,_,_,_=>rfl
 | [],q::qs,bs,h,g,_=>by
  have:bs=[]:=h.nil_eq.symm
  subst this
  exact absurd g.length_eq (by simp)
 | p::ps,[],bs,h,g,_=>by
  have:bs=[]:=g.nil_eq.symm
  subst this
  exact absurd h.length_eq (by simp)
 | p::ps,q::qs,bs,h,g,e=>by
  have hp:p∈bs:=h.mem_iff.1 (List.mem_cons_self ..)
  have hq:q∈bs:=g.mem_iff.1 (List.mem_cons_self ..)
  have lp:=List.idxOf_lt_length_of_mem hp
  have lq:=List.idxOf_lt_length_of_mem hq
  rw [pc,pc] at e
  have e1:bs.idxOf p=bs.idxOf q:=by
   have h1:(bs.idxOf p+bs.length*pc (bs.erase p) ps) % bs.length=(bs.idxOf q+bs.length*pc (bs.erase q) qs) % bs.length:=by rw [e]
   rw [Nat.add_mul_mod_self_left,Nat.add_mul_mod_self_left,Nat.mod_eq_of_lt lp,Nat.mod_eq_of_lt lq] at h1
   exact h1
  have epq:p=q:=by
   have h1:=List.getElem_idxOf lp
   have h2:=List.getElem_idxOf lq
   have:bs[bs.idxOf p]? = bs[bs.idxOf q]? := by rw [e1]
   rw [Ew lp,Ew lq,h1,h2] at this
   exact Ex this
  subst epq
  have e2:pc (bs.erase p) ps=pc (bs.erase p) qs:=Nat.eq_of_mul_eq_mul_left (show 0 < bs.length by omega) (by omega)
  rw [Qfb (List.cons_perm_iff_perm_erase.1 h).2 (List.cons_perm_iff_perm_erase.1 g).2 e2]
def G32:Nat→Nat→List (List Nat)
 | 0,0=>[[]]
 | 0,_+1=>[]
 | n+1,N=>(List.range (N+1)).flatMap fun k=>(G32 n (N - k)).map (k::·)
theorem Jf9:∀ {v:List Nat} {n N:Nat},v.length=n→v.sum=N→v∈G32 n N
 | [],n,N,h1,h2=>by
  subst h1 h2; simp [G32]
 | k::v,n,N,h1,h2=>by
  cases n with
  | zero=>simp at h1
  | succ n=>
   rw [List.sum_cons] at h2
   rw [G32]
   exact List.mem_flatMap.2 ⟨k,List.mem_range.2 (by omega),Kn.2 ⟨v,Jf9 (by simpa using h1) (by omega),rfl⟩⟩
theorem R0b:∀ n,n < 5→∀ N,N < 6→(G32 n N).length≤56:=by decide
theorem Hc1:∀ {a b:List (List Int)},a.map List.length=b.map List.length→a.flatten=b.flatten→a=b
 | [],[],_,_=>rfl
 | [],_::_,h,_=>by simp at h
 | _::_,[],h,_=>by simp at h
 | x::a,y::b,h,g=>by
  simp only [List.map_cons,List.cons.injEq] at h
  rw [List.flatten_cons,List.flatten_cons] at g
  have:=List.append_inj g h.1
  rw [this.1,Hc1 h.2 this.2]
theorem Qf1 (a:List (List Int)):(a.map List.length).sum=a.flatten.length:=by rw [List.length_flatten]
def R15 (boxes:List Int) (n:Nat) (ss:List (List Int)):Nat:=pc boxes ss.flatten+120*(G32 n boxes.length).idxOf (ss.map List.length)
theorem Ra5 {n:Nat} (h:n≤5):fct n≤120:=by
 have:n=0∨n=1∨n=2∨n=3∨n=4∨n=5:=by omega
 rcases this with rfl | rfl | rfl | rfl | rfl | rfl <;> decide
theorem SmY.perm {boxes:List Int} {n:Nat} {H:Int} {ss:List (List Int)} (h:SmY boxes n H ss) (hn:boxes.Nodup):ss.flatten.Perm boxes:=(List.perm_ext_iff_of_nodup h.right.nodup hn).2 h.in_
theorem SmY.lens {boxes:List Int} {n:Nat} {H:Int} {ss:List (List Int)} (h:SmY boxes n H ss) (hn:boxes.Nodup):ss.map List.length∈G32 n boxes.length:=
 Jf9 (by rw [Kk,h.len]) (by rw [Qf1,(h.perm hn).length_eq])
theorem Met.len2 {boxes:List Int} {n:Nat} {H:Int} {all:List Gb} (h:Met boxes n H all) (hb:boxes.length≤5) (hn:boxes.Nodup) (h4:n≤4):all.length≤6720:=by
 have h0:∀ {ss},SmY boxes n H ss→pc boxes ss.flatten < 120:=fun {ss} g=>Ei (R80 (g.perm hn)) (Ra5 hb)
 have h3:∀ {ss},SmY boxes n H ss→(G32 n boxes.length).idxOf (ss.map List.length) < 56:=fun {ss} g=>Ei (List.idxOf_lt_length_of_mem (g.lens hn)) (R0b n (by omega) boxes.length (by omega))
 have h5:(all.map fun z=>R15 boxes n z.y.Stacks).Nodup:=by
  have:=h.nodup
  unfold List.Nodup at this ⊢
  rw [List.pairwise_map] at this ⊢
  refine this.imp_of_mem fun {a c} ha hc h6 e=>h6 ?_
  have ga:=(h.ok a ha).1
  have gc:=(h.ok c hc).1
  unfold R15 at e
  have l1:=h0 ga
  have l2:=h0 gc
  have e1:pc boxes a.y.Stacks.flatten=pc boxes c.y.Stacks.flatten:=by omega
  have e2:(G32 n boxes.length).idxOf (a.y.Stacks.map List.length)=(G32 n boxes.length).idxOf (c.y.Stacks.map List.length):=by omega
  refine Hc1 ?_ (Qfb (ga.perm hn) (gc.perm hn) e1)
  have la:=List.idxOf_lt_length_of_mem (ga.lens hn)
  have lc:=List.idxOf_lt_length_of_mem (gc.lens hn)
  have h1:=List.getElem_idxOf la
  have h2:=List.getElem_idxOf lc
  have:(G32 n boxes.length)[(G32 n boxes.length).idxOf (a.y.Stacks.map List.length)]? = (G32 n boxes.length)[(G32 n boxes.length).idxOf (c.y.Stacks.map List.length)]? := by rw [e2]
  rw [Ew la,Ew lc,h1,h2] at this
  exact Ex this
 have:=Q5e 6720 _ h5 (fun x hx=>by
  obtain⟨z,hz,rfl⟩:=Kn.1 hx
  have g:=(h.ok z hz).1
  have l1:=h0 g
  have l2:=h3 g
  unfold R15
  omega)
 rwa [Kk] at this
theorem Q0a {all:List Gb}:∀ {i:Nat} {l:List G8},J70 all i l→l.length≤i
 | _,_,.stop=>by simp
 | i,_,.go hz h0 hf hj hb=>by have:=Q0a hb; rw [Kc]; omega

theorem H53 {F:Nat} (hF:9000030 < F) {ss:List (List Int)} {H:Int} {order:List Int} (hR:Y2 ss H order) (h5:ss.flatten.length≤5) (h4:ss.length≤4) :
  (∃ p t,J4 F ⟨ss,H⟩ order=some (p,0)∧p.length≤6720∧run H.toNat ss p=some t∧Q1 order t=[]∧∀ q u,run H.toNat ss q=some u→Q1 order u=[]→sle p q) ∨
  (J4 F ⟨ss,H⟩ order=some ([],6)∧∀ q u,run H.toNat ss q=some u→Q1 order u≠[]):=by
 obtain⟨l,e,hp,_,a0,_,h0⟩:=Q12 hF ss H order
 have hS:SmY ss.flatten ss.length H ss:=⟨hR.y,rfl,h4,fun b=>Iff.rfl⟩
 have hA:Met ss.flatten ss.length H [⟨⟨ss,H⟩,-1,⟨0,0⟩⟩]:=by
  refine⟨fun z hz=>?_,by simp,⟨_,rfl,rfl⟩,fun i z hz hi=>?_⟩
  ·rw [Ko] at hz; subst hz; exact⟨hS,rfl⟩
  ·have:=(Ev hz).1
   simp at this; omega
 obtain⟨ps,h9⟩:=Q09 (order:=order) (ss:=ss) h5 F (all:=[⟨⟨ss,H⟩,-1,⟨0,0⟩⟩]) 0 hA (H25.start rfl) (by simp) (by omega)
 rcases h9 with ⟨i,z,p,g1,g2,g3,g4,g5⟩ | ⟨g1,g2⟩
 ·rcases h0 hR h5 h4 with ⟨h1,_⟩ | ⟨j,b,h1,h2,h3,h6⟩
  ·rw [g1] at h1; cases h1
  ·rw [g1] at h1
   have e1:i=j:=Ex h1
   subst e1
   have h8:=g5.back h2 g3
   subst h3 h6
   refine .inl ⟨p,z.y.Stacks,?_,?_,g5.node i z p g2 g3,g4,fun q u hq hu=>g5.first g3 hq hu⟩
   ·rw [hp,h8,List.map_reverse]
   ·rw [h8,List.length_reverse,Kk]
    have:=Q0a h2
    have h7:=G3d g2
    have hZ:=(Jc8 (order:=order) F 0 hA).1.len2 h5 hR.y.nodup h4
    omega
 ·rcases h0 hR h5 h4 with ⟨h1,rfl,rfl⟩ | ⟨j,b,h1,h2,h3,h6⟩
  ·exact .inr ⟨hp,fun q u hq=>g2.none_ hq⟩
  ·rw [g1] at h1; cases h1
theorem Hdb {H:Int}:∀ {p:List G3} {ss t:List (List Int)},Jq ss H→run H.toNat ss p=some t→Jq t H∧(∀ b,b∈t.flatten ↔ b∈ss.flatten)∧t.length=ss.length
 | [],ss,t,h,hr=>by cases hr; exact⟨h,fun _=>Iff.rfl,rfl⟩
 | m::p,ss,t,h,hr=>by
  rw [run] at hr
  split at hr
  ·rename_i h0
   obtain⟨h1,h2,h3⟩:=Hdb (G46 h h0) hr
   rcases G39 ss H.toNat m with h' | ⟨f,t',a,b,x,c⟩
   ·exact(h' h0).elim
   ·have hp:=c.perm
    rw [c.eq] at h2 h3
    exact⟨h1,fun v=>(h2 v).trans hp.mem_iff,by rw [h3]; simp⟩
  ·cases hr
end Go.Proofs.Ytokjlondbjdlfaa
