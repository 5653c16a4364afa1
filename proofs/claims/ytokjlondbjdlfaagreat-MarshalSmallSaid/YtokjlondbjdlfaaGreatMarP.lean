/-
 Way and place of program and reference; The search,from yard to yard. Moves one af the other;
-/
import Derived.Test.YtokjlondbjdlfaaGreatMarI
set_option maxRecDepth 100000
set_option linter.unusedVariables false
namespace Go.Proofs.YtokjlondbjdlfaaGreat
open Go.RowKit Go.Sort Go.Shelf

/-! ### The reference's sort -/
structure Gap (c:List Int) (i k:Nat):Prop where
 rest:∀ (p q:Nat) (a b:Int),p < q→q≤i→p≠k→q≠k→c[p]? = some a→c[q]? = some b→a≤b
 at_:∀ (q:Nat) (a b:Int),k < q→q≤i→c[k]? = some a→c[q]? = some b→a≤b
theorem Hf5 {c l:List Int} (h1:c.Perm l) (h2:∀ (p q:Nat) (a b:Int),p < q→c[p]? = some a→c[q]? = some b→a≤b):c=G11 l:=by
 refine List.Perm.eq_of_pairwise (le:=fun a b:Int=>a≤b) (fun a b _ _ h g=>by omega) ?_ (H0b l) (h1.trans (G87 l).symm)
 rw [List.pairwise_iff_getElem]
 exact fun i j hi hj h0=>h2 i j _ _ h0 (Ey hi) (Ey hj)
theorem Q79 {F:Nat} (hF:400 < F) {ss:List (List Int)} {H:Int} {order:List Int}:R4 F ⟨ss,H⟩ order=some (if Z5 ss H order then (G11 (Qj order ss),0) else ([],2)):=by
 refine Y1 ?_
 unfold R4
 refine Gg (G26 F ss H order) ?_
 by_cases h:Z5 ss H order
 case neg=>
  rw [if_neg h,Ew h]
  exact J0 (fun _=>Hy rfl) (fun h=>by cases h)
 rw [if_pos h,Ev h]
 refine J0 (fun h=>by cases h) (fun _=>Gg (H3a F h.y.all) ?_)
 have hl:(Qj order ss).length≤180:=Nat.le_trans (G95 order ss).length_le h.y.all
 generalize Qj order ss=l at hl
 refine wp_loop (fun z=>∃ i:Nat,z.1=(i:Int)∧1≤i∧z.2.Perm l∧∀ (p q:Nat) (a b:Int),p < q→q < i→z.2[p]? = some a→z.2[q]? = some b→a≤b) (fun z=>l.length+1 - z.1.toNat) ⟨1,rfl,by omega,.refl _,fun p q a b h1 h2=>by omega⟩ (by dsimp only; omega) (fun z nx hz a5=>?_)
 obtain⟨iz,c0⟩:=z
 obtain⟨i,hi,a9,a0,a2⟩:=hz
 have hi:iz=(i:Int):=hi
 subst hi
 have a7:c0.length=l.length:=a0.length_eq
 refine J0 (fun h2=>?_) (fun h2=>Hy ?_)
 ·have h2:(i:Int) < (c0.length:Int):=Es h2
  refine wp_loop (fun z=>∃ k:Nat,z.1=(k:Int)∧k≤i∧z.2.Perm l∧Gap z.2 i k) (fun z=>z.1.toNat) ⟨i,rfl,Kb,a0,⟨fun p q a b h3 h4 h5 h6=>a2 p q a b h3 (by omega),fun q a b h3 h4=>by omega⟩⟩ (by dsimp only; omega) (fun z nx' hz a3=>?_)
  obtain⟨kz,c⟩:=z
  obtain⟨k,hk,b0,hp,hg⟩:=hz
  have hk:kz=(k:Int):=hk
  subst hk
  have hp:c.Perm l:=hp
  have a8:c.length=l.length:=hp.length_eq
  have fin:(k=0∨∃ a b,c[k - 1]? = some a∧c[k]? = some b∧a≤b)→Wp (nx (((i:Int)+1),c)) _:=fun a4=>a5 _ ⟨i+1,by dsimp only; omega,by omega,hp,fun p q a b h3 h4 ha hb=>?_⟩ (by dsimp only; omega)
  ·by_cases hd:0 < k
   ·have h8:k < c.length:=by omega
    have h9:k - 1 < c.length:=by omega
    have vk:c[k]? = some c[k]:=Ey h8
    have vk':c[k - 1]? = some c[k - 1]:=Ey h9
    have a1:decide ((0:Int) < (k:Int))=true:=Ev (by omega)
    dsimp only
    rw [a1]
    refine Gg (x:=c[k]) (Gad vk _) (Gg (x:=(k:Int) - 1) (Y1 (Qh (by omega) (Hy rfl))) ?_)
    have e1:(k:Int) - 1=((k - 1:Nat):Int):=by omega
    rw [e1]
    refine Gg (x:=c[k - 1]) (Gad vk' _) (J0 (fun h3=>?_) (fun h3=>Qh (by omega) (fin (.inr ⟨_,_,vk',vk,?_⟩))))
    ·simp only [Bool.true_and,Km] at h3
     refine Qh (by omega) (Qh (by omega) ?_)
     refine Qf rfl vk' (Qf rfl vk (Qf rfl vk ?_))
     have tk:((k:Int)).toNat=k:=by omega
     rw [tk,show (((k - 1:Nat):Int)).toNat=k - 1 by omega]
     refine Qf (m:=k - 1) (x:=c[k - 1]) rfl (by rw [List.getElem?_set_ne (by omega)]; exact vk') (Qh (by omega) (a3 _ ⟨k - 1,by dsimp only,by omega,?_,⟨fun p q a b h4 h5 h6 h7 ha hb=>?_,fun q a b h4 h5 ha hb=>?_⟩⟩ (by dsimp only; omega)))
     ·exact(List.set_set_perm h8 h9).trans hp
     ·-- two others
      dsimp only at ha hb
      rw [List.getElem?_set_ne (Ne.symm h6)] at ha
      rw [List.getElem?_set_ne (Ne.symm h7)] at hb
      by_cases ep:p=k
      ·subst ep
       rw [List.getElem?_set_self h8] at ha
       rw [List.getElem?_set_ne (by omega)] at hb
       exact hg.rest (p - 1) q a b (by omega) h5 (by omega) (by omega) (by rw [vk']; exact ha) hb
      ·rw [List.getElem?_set_ne (Ne.symm ep)] at ha
       by_cases eq:q=k
       ·subst eq
        rw [List.getElem?_set_self h8] at hb
        exact hg.rest p (q - 1) a b (by omega) (by omega) ep (by omega) ha (by rw [vk']; exact hb)
       ·rw [List.getElem?_set_ne (Ne.symm eq)] at hb
        exact hg.rest p q a b h4 h5 ep eq ha hb
     ·dsimp only at ha hb
      rw [List.getElem?_set_self (by rw [List.length_set]; exact h9)] at ha
      rw [List.getElem?_set_ne (by omega)] at hb
      have ea:=Ez ha
      subst ea
      by_cases eq:q=k
      ·subst eq
       rw [List.getElem?_set_self h8] at hb
       have eb:=Ez hb
       subst eb
       omega
      ·rw [List.getElem?_set_ne (Ne.symm eq)] at hb
       exact hg.at_ q _ b (by omega) h5 vk hb
    ·simp only [Bool.true_and,decide_eq_false_iff_not] at h3
     omega
   ·have a1:decide ((0:Int) < (k:Int))=false:=Ew (by omega)
    dsimp only
    rw [a1]
    refine Gg (x:=default) rfl (Gg (x:=0) rfl (Gg (x:=default) rfl (J0 (fun h3=>by simp at h3) (fun _=>Qh (by omega) (fin (.inl (by omega)))))))
  ·dsimp only at ha hb
   by_cases ep:p=k
   ·subst ep
    exact hg.at_ q a b h3 (by omega) ha hb
   ·by_cases eq:q=k
    ·subst eq
     rcases a4 with h0 | ⟨x,y,hx,hy,a6⟩
     ·omega
     ·rw [hb] at hy; cases hy
      by_cases e2:p=q - 1
      ·subst e2
       rw [ha] at hx; cases hx; exact a6
      ·have:=hg.rest p (q - 1) a x (by omega) (by omega) ep (by omega) ha hx
       omega
    ·exact hg.rest p q a b h3 (by omega) ep eq ha hb
 ·have h2:¬ (i:Int) < (c0.length:Int):=Eu h2
  have he:c0=G11 l:=Hf5 a0 fun p q a b h3 ha hb=>a2 p q a b h3 (by have:=(Ex hb).1; omega) ha hb
  rw [he]
theorem R37 {ss:List (List Int)} {H:Int} {order:List Int}:Zj ⟨ss,H⟩ order=some (if Z5 ss H order then (G11 (Qj order ss),0) else ([],2)):=by
 unfold Zj
 rw [Ga0,G04]
 by_cases h:Z5 ss H order
 ·rw [if_pos h,if_pos h,J96 h.y.all]; rfl
 ·rw [if_neg h,if_neg h]; rfl
theorem Je3 {F:Nat} (hF:400 < F) {ss:List (List Int)} {H:Int} {order:List Int}:∃ r,Zk ⟨ss,H⟩ order=some r∧R1 F ⟨ss,H⟩ order=some r:=by
 unfold Zk R1
 rw [Ga0,Q79 hF,G04,G04]
 by_cases h:Z5 ss H order
 ·rw [if_pos h,if_pos h]
  refine⟨_,rfl,?_⟩
  rw [Gb3]
 ·rw [if_neg h,if_neg h]
  exact⟨_,rfl,rfl⟩

/-! ### The place -/
def mnL (order:List Int) (s:List Int):Nat:=s.foldl (fun m b=>min m (rnk order b)) (order.length+1)
theorem Jcd (order:List Int) (s:List Int) (b:Int):mnL order (s++[b])=min (mnL order s) (rnk order b):=by
 unfold mnL; rw [List.foldl_append]; rfl
def okP (H:Int) (order:List Int) (from_ rank:Nat) (i:Nat) (s:List Int):Prop:=i≠from_∧(s.length:Int) < H∧rank≤mnL order s
def Hbd (ss:List (List Int)) (H:Int) (order:List Int) (from_ rank:Nat) (D:Nat→Prop) (out:Int):Prop:=
 (out = -1∧∀ i s,D i→ss[i]? = some s→¬ okP H order from_ rank i s) ∨
 ∃ (i:Nat) (s:List Int),out=(i:Int)∧D i∧ss[i]? = some s∧okP H order from_ rank i s∧∀ j t,D j→ss[j]? = some t→okP H order from_ rank j t→mnL order s≤mnL order t∧(mnL order s=mnL order t→i≤j)
theorem Hbd.uniq {ss:List (List Int)} {H:Int} {order:List Int} {from_ rank:Nat} {D E:Nat→Prop} (h0:∀ i,i < ss.length→(D i ↔ E i)) {a b:Int} (ha:Hbd ss H order from_ rank D a) (hb:Hbd ss H order from_ rank E b):a=b:=by
 have lt:∀ {i s},ss[i]? = some s→i < ss.length:=fun h=>(Ex h).1
 rcases ha with ⟨rfl,h1⟩ | ⟨i,s,rfl,d1,g1,o1,h1⟩
 ·rcases hb with ⟨rfl,_⟩ | ⟨j,t,rfl,d2,g2,o2,h2⟩
  ·rfl
  ·exact absurd o2 (h1 j t ((h0 j (lt g2)).2 d2) g2)
 ·rcases hb with ⟨rfl,h2⟩ | ⟨j,t,rfl,d2,g2,o2,h2⟩
  ·exact absurd o1 (h2 i s ((h0 i (lt g1)).1 d1) g1)
  ·have p1:=h1 j t ((h0 j (lt g2)).2 d2) g2 o2
   have p2:=h2 i s ((h0 i (lt g1)).1 d1) g1 o1
   have e:mnL order s=mnL order t:=by omega
   have:=p1.2 e
   have:=p2.2 e.symm
   have:i=j:=by omega
   rw [this]
theorem Q2e {ss:List (List Int)} {H:Int} {order:List Int} (hr:Q5 ss H) (ho:order.length≤1000000) (from_ rank:Nat):Wp (R7 ⟨ss,H⟩ order (from_:Int) (rank:Int)) (Hbd ss H order from_ rank (fun _=>True)):=by
 unfold R7
 refine Qd (fun pre s=>Hbd ss H order from_ rank (fun i=>i < pre.length) s.1∧∀ (i:Nat) t,s.1=(i:Int)→ss[i]? = some t→s.2=(mnL order t:Int)) ⟨.inl ⟨rfl,fun i s h=>by simp at h⟩,fun i t h=>by dsimp only at h; omega⟩ (fun pre x post s nx e hI a1=>?_) (fun s hI=>Hy ?_)
 ·have e:ss=pre++x::post:=e
  have hx:ss[pre.length]? = some x:=by rw [e]; simp
  have a2:=hr.fit x (K0 hx)
  obtain⟨hB,hv⟩:=hI
  refine H69 (fun r=>Hbd ss H order from_ rank (fun i=>i < (pre++[x]).length) r.1∧∀ (i:Nat) t,r.1=(i:Int)→ss[i]? = some t→r.2=(mnL order t:Int)) (fun K hK=>?_) (fun a ha=>a1 _ ha)
  rw [Ki,Kj] at hK
  -- no, or not better
  have stay:(okP H order from_ rank pre.length x→0≤s.1∧s.2≤(mnL order x:Int))→Wp (K (s.1,s.2)) _:=fun h8=>hK _ ⟨by
   rcases hB with ⟨h1,h2⟩ | ⟨i,t,h1,h2,h3,h4,h5⟩
   ·refine .inl ⟨h1,fun j u hj hu=>?_⟩
    by_cases ej:j=pre.length
    ·subst ej
     rw [hx] at hu; cases hu
     intro ho
     have:=(h8 ho).1; omega
    ·exact h2 j u (by omega) hu
   ·refine .inr ⟨i,t,h1,by omega,h3,h4,fun j u hj hu h9=>?_⟩
    by_cases ej:j=pre.length
    ·subst ej
     rw [hx] at hu; cases hu
     have g1:=(h8 h9).2
     rw [hv i t h1 h3] at g1
     exact⟨by omega,fun _=>by omega⟩
    ·exact h5 j u (by omega) hu h9,hv⟩
  refine J0 (fun h=>stay fun h0=>?_) (fun h=>?_)
  ·simp only [Kt,Km] at h
   have:=h0.1; have:=h0.2.1
   omega
  ·simp only [Ku,decide_eq_false_iff_not] at h
   refine Qh (by omega) ?_
   refine Qd (fun pr z=>z=(mnL order pr:Int)) (by unfold mnL; simp) (fun pr b po z nx' e' hJ a0=>?_) (fun z hJ=>?_)
   ·subst hJ
    refine Gg (H61 order b) (a0 _ ?_)
    rw [Jcd]; omega
   ·have hJ:z=(mnL order x:Int):=hJ
    subst hJ
    refine J0 (fun h2=>hK _ ⟨.inr ⟨pre.length,x,rfl,by omega,hx,⟨by omega,by omega,?_⟩,fun j t hj ht h0=>?_⟩,fun i t hi ht=>?_⟩) (fun h2=>stay fun h0=>?_)
    ·simp only [Kk,Kt,Km] at h2; omega
    ·simp only [Kk,Kt,Km] at h2
     by_cases ej:j=pre.length
     ·subst ej
      rw [hx] at ht; cases ht
      exact⟨Kb,fun _=>Kb⟩
     ·rcases hB with ⟨h3,h4⟩ | ⟨i,u,h3,h4,h5,h6,h7⟩
      ·exact absurd h0 (h4 j t (by omega) ht)
      ·have g1:=h7 j t (by omega) ht h0
       have g2:=hv i u h3 h5
       rw [g2] at h2
       exact⟨by omega,fun _=>by omega⟩
    ·have hi:(pre.length:Int)=(i:Int):=hi
     have:i=pre.length:=by omega
     subst this
     rw [hx] at ht; cases ht; rfl
    ·have:=h0.2.2
     simp only [Bool.and_eq_false_iff,Ku,decide_eq_false_iff_not] at h2
     omega
 ·have hI:Hbd ss H order from_ rank (fun i=>i < ss.length) s.1:=hI.1
  rcases hI with ⟨h1,h2⟩ | ⟨i,t,h1,h2,h3,h4,h5⟩
  ·exact .inl ⟨h1,fun j u _ hu=>h2 j u (Ex hu).1 hu⟩
  ·exact .inr ⟨i,t,h1,trivial,h3,h4,fun j u _ hu=>h5 j u (Ex hu).1 hu⟩
theorem J6a {order s:List Int} (ho:order.length≤1000000):R8 s order=some (mnL order s:Int):=by
 refine Y1 ?_
 unfold R8
 refine Qh (by omega) (Qd (fun pr z=>z=(mnL order pr:Int)) (by unfold mnL; simp) (fun pr b po z nx' e' hJ h0=>?_) (fun z hJ=>Hy hJ))
 subst hJ
 refine H69 (fun r=>r=(mnL order (pr++[b]):Int)) (fun K hK=>?_) (fun a ha=>h0 _ ha)
 rw [Jcd] at hK
 refine Gg (G9d order b) (J0 (fun h=>Gg (G9d order b) (hK _ ?_)) (fun h=>hK _ ?_))
 ·have:=Es h; omega
 ·have:=Eu h; omega
theorem Jc3 {F:Nat} (hF:400 < F) {ss:List (List Int)} {H:Int} {order:List Int} (hr:Q5 ss H) (ho:order.length≤1000000) (from_:Nat) (box:Int):Wp (Q8 F ⟨ss,H⟩ order (from_:Int) box) (Hbd ss H order from_ (rnk order box) (fun _=>True)):=by
 unfold Q8
 have h9:=hr.most
 have a0:=hr.some_
 refine Qh (by dsimp only; omega) ?_
 refine wp_loop (fun z=>∃ k:Nat,z.2=(k:Int) - 1∧k≤ss.length∧Hbd ss H order from_ (rnk order box) (fun i=>k≤i) z.1) (fun z=>(z.2+1).toNat) ⟨ss.length,rfl,Kb,.inl ⟨rfl,fun i s h1 h2=>by have:=(Ex h2).1; omega⟩⟩ (by dsimp only; omega) (fun z nx hz h8=>?_)
 obtain⟨out,kz⟩:=z
 obtain⟨k,hk,a1,hB⟩:=hz
 have hk:kz=(k:Int) - 1:=hk
 subst hk
 have hB:Hbd ss H order from_ (rnk order box) (fun i=>k≤i) out:=hB
 refine J0 (fun h=>?_) (fun h=>Hy ?_)
 ·have h:(0:Int)≤(k:Int) - 1:=Es h
  obtain⟨m,rfl⟩:∃ m,k=m+1:=⟨k - 1,by omega⟩
  have em:((m+1:Nat):Int) - 1=(m:Int):=by omega
  have hx:ss[m]? = some ss[m]:=Ey (by omega)
  dsimp only
  rw [em]
  refine H69 (fun r=>Hbd ss H order from_ (rnk order box) (fun i=>m≤i) r) (fun K hK=>?_) (fun a ha=>Qh (by omega) (h8 _ ⟨m,by dsimp only,by omega,ha⟩ (by dsimp only; omega)))
  have skip:(okP H order from_ (rnk order box) m ss[m]→∃ (i:Nat) (t:List Int),out=(i:Int)∧ss[i]? = some t∧mnL order t < mnL order ss[m])→Wp (K out) _:=fun h7=>hK _ (by
   rcases hB with ⟨h1,h2⟩ | ⟨i,t,h1,h2,h3,h4,h5⟩
   ·refine .inl ⟨h1,fun j u hj hu=>?_⟩
    by_cases ej:j=m
    ·subst ej
     rw [hx] at hu; cases hu
     intro ho
     obtain⟨i,t,g1,_⟩:=h7 ho
     omega
    ·exact h2 j u (by omega) hu
   ·refine .inr ⟨i,t,h1,by omega,h3,h4,fun j u hj hu h6=>?_⟩
    by_cases ej:j=m
    ·subst ej
     rw [hx] at hu; cases hu
     obtain⟨i',t',g1,g2,g3⟩:=h7 h6
     have:i=i':=by omega
     subst this
     rw [h3] at g2; cases g2
     exact⟨by omega,fun _=>by omega⟩
    ·exact h5 j u (by omega) hu h6)
  refine Qf rfl hx (Gg (J6a ho) ?_)
  by_cases c1:(m:Int)≠(from_:Int)
  case neg=>
   have e1:decide ((m:Int)≠(from_:Int))=false:=Ew c1
   rw [e1]
   exact Gg (x:=default) rfl (Gg (x:=default) rfl (Gg (x:=default) rfl (Gg (x:=default) rfl (J0 (fun h=>by cases h) (fun _=>skip fun h0=>absurd h0.1 (by omega))))))
  have e1:decide ((m:Int)≠(from_:Int))=true:=Ev c1
  rw [e1]
  refine Zm rfl (Gad hx _) ?_
  by_cases c2:(ss[m].length:Int) < H
  case neg=>
   have e2:decide ((ss[m].length:Int) < H)=false:=Ew c2
   rw [e2]
   exact Gg (x:=default) rfl (Gg (x:=default) rfl (Gg (x:=default) rfl (J0 (fun h=>by cases h) (fun _=>skip fun h0=>absurd h0.2.1 c2))))
  have e2:decide ((ss[m].length:Int) < H)=true:=Ev c2
  rw [e2]
  refine Zm rfl (G9d order box) ?_
  by_cases c3:(rnk order box:Int)≤(mnL order ss[m]:Int)
  case neg=>
   have e3:decide ((rnk order box:Int)≤(mnL order ss[m]:Int))=false:=Ew c3
   rw [e3]
   exact Gg (x:=default) rfl (Gg (x:=default) rfl (J0 (fun h=>by cases h) (fun _=>skip fun h0=>absurd h0.2.2 (by omega))))
  have e3:decide ((rnk order box:Int)≤(mnL order ss[m]:Int))=true:=Ev c3
  rw [e3]
  have h0:okP H order from_ (rnk order box) m ss[m]:=⟨by omega,c2,by omega⟩
  rcases hB with ⟨h1,h2⟩ | ⟨i,t,h1,h2,h3,h4,h5⟩
  ·subst h1
   refine Gg (x:=default) rfl (Gg (x:=default) rfl (J0 (fun _=>hK _ (.inr ⟨m,ss[m],rfl,Kb,hx,h0,fun j u hj hu h6=>?_⟩)) (fun h=>by cases h)))
   by_cases ej:j=m
   ·subst ej
    rw [hx] at hu; cases hu
    exact⟨Kb,fun _=>Kb⟩
   ·exact absurd h6 (h2 j u (by omega) hu)
  ·subst h1
   have e4:decide ((i:Int) < 0)=false:=Ew (by omega)
   rw [e4]
   refine Zm rfl (Gad h3 _) (Zm rfl (J6a ho) (J0 (fun h=>hK _ (.inr ⟨m,ss[m],rfl,Kb,hx,h0,fun j u hj hu h6=>?_⟩)) (fun h=>skip fun _=>⟨i,t,rfl,h3,?_⟩)))
   ·simp only [Bool.true_and,Bool.false_or,Km] at h
    by_cases ej:j=m
    ·subst ej
     rw [hx] at hu; cases hu
     exact⟨Kb,fun _=>Kb⟩
    ·have:=h5 j u (by omega) hu h6
     exact⟨by omega,fun _=>by omega⟩
   ·simp only [Bool.true_and,Bool.false_or,decide_eq_false_iff_not] at h
    omega
 ·have h:¬ (0:Int)≤(k:Int) - 1:=Eu h
  have:k=0:=by omega
  subst this
  rcases hB with ⟨h1,h2⟩ | ⟨i,t,h1,h2,h3,h4,h5⟩
  ·exact .inl ⟨h1,fun j u _ hu=>h2 j u (Nat.zero_le _) hu⟩
  ·exact .inr ⟨i,t,h1,trivial,h3,h4,fun j u _ hu=>h5 j u (Nat.zero_le _) hu⟩
theorem places {F:Nat} (hF:400 < F) {ss:List (List Int)} {H:Int} {order:List Int} (hr:Q5 ss H) (ho:order.length≤1000000) (from_:Nat) (box:Int):∃ v,R7 ⟨ss,H⟩ order (from_:Int) (rnk order box:Int)=some v∧Q8 F ⟨ss,H⟩ order (from_:Int) box=some v∧Hbd ss H order from_ (rnk order box) (fun _=>True) v:=by
 obtain⟨v,h1,h2⟩:=Q2e hr ho from_ (rnk order box)
 obtain⟨u,h3,h4⟩:=Jc3 hF hr ho from_ box
 have:=Hbd.uniq (fun i _=>Iff.rfl) h2 h4
 subst this
 exact⟨v,h1,h3,h2⟩
open Go.RowKit

def bfs (order:List Int) (H:Int):Nat→List Gb→Nat→List Gb×Option Nat
 | 0,all,_=>(all,none)
 | f+1,all,at_=>match all[at_]? with
  | none=>(all,none)
  | some z=>if Qj order z.y.Stacks=[] then (all,some at_) else bfs order H f (G3e H (at_:Int) all (G64 z.y.Stacks H.toNat)) (at_+1)
def R02 (boxes:List Int) (n:Nat) (H:Int) (r:List Gb×Option Nat):Prop:=Met boxes n H r.1∧∀ i,r.2=some i→i < r.1.length
theorem Q75 {boxes order:List Int} {n:Nat} {H:Int}:∀ (f:Nat) {all:List Gb} (at_:Nat),Met boxes n H all→R02 boxes n H (bfs order H f all at_)
 | 0,all,at_,hA=>⟨hA,fun i h=>by cases h⟩
 | f+1,all,at_,hA=>by
  rw [bfs]
  cases hz:all[at_]? with
  | none=>exact⟨hA,fun i h=>by cases h⟩
  | some z=>
   have h0:=(Ex hz).1
   dsimp only
   split
   ·exact⟨hA,fun i h=>by cases h; exact h0⟩
   ·exact Q75 f (at_+1) (hA.G3e _ h0 (H36 (hA.ok z (K0 hz)).1))

/-! ### Which moves come first -/
def ltM (a b:G2):Prop:=a.From < b.From∨(a.From=b.From∧a.To < b.To)
def Jd3:List G2→List G2→Prop
 | a::p,b::q=>ltM a b∨(a=b∧Jd3 p q)
 | _,_=>False
def slt (p q:List G2):Prop:=p.length < q.length∨(p.length=q.length∧Jd3 p q)
def sle (p q:List G2):Prop:=p=q∨slt p q
theorem Qa0 {a b c:G2} (h:ltM a b) (g:ltM b c):ltM a c:=by unfold ltM at *; omega
theorem J26:∀ {p q r:List G2},Jd3 p q→Jd3 q r→Jd3 p r
 | a::p,b::q,c::r,h,g=>by
  rcases h with h | ⟨rfl,h⟩
  ·rcases g with g | ⟨rfl,g⟩
   ·exact .inl (Qa0 h g)
   ·exact .inl h
  ·rcases g with g | ⟨rfl,g⟩
   ·exact .inl g
   ·exact .inr ⟨rfl,J26 h g⟩
 | [],_,_,h,_=>h.elim
 | _::_,[],_,h,_=>h.elim
 | _::_,_::_,[],_,g=>g.elim
theorem Q93 {p q r:List G2} (h:slt p q) (g:slt q r):slt p r:=by
 rcases h with h | ⟨h1,h2⟩
 ·rcases g with g | ⟨g1,g2⟩
  ·exact .inl (by omega)
  ·exact .inl (by omega)
 ·rcases g with g | ⟨g1,g2⟩
  ·exact .inl (by omega)
  ·exact .inr ⟨by omega,J26 h2 g2⟩
theorem H4d {p q r:List G2} (h:sle p q) (g:sle q r):sle p r:=by
 rcases h with rfl | h
 ·exact g
 ·rcases g with rfl | g
  ·exact .inr h
  ·exact .inr (Q93 h g)
theorem Jd2 {a b:List G2}:∀ {p q:List G2},Jd3 p q→Jd3 (p++a) (q++b)
 | x::p,y::q,h=>by
  rcases h with h | ⟨rfl,h⟩
  ·exact .inl h
  ·exact .inr ⟨rfl,Jd2 h⟩
 | [],_,h=>h.elim
 | _::_,[],h=>h.elim
theorem J74 {m m':G2} (h:ltM m m'):∀ p:List G2,Jd3 (p++[m]) (p++[m'])
 | []=>.inl h
 | x::p=>.inr ⟨rfl,J74 h p⟩
theorem Q5b {p q:List G2} {m m':G2} (h:slt p q):slt (p++[m]) (q++[m']):=by
 rcases h with h | ⟨h1,h2⟩
 ·exact .inl (by rw [Ki,Ki,Kj,Kj]; omega)
 ·exact .inr ⟨by rw [Ki,Ki,Kj,Kj,h1],Jd2 h2⟩
theorem Qc5 {m m':G2} (h:ltM m m') (p:List G2):slt (p++[m]) (p++[m']):=.inr ⟨by simp,J74 h p⟩
theorem R1f {p q:List G2} {m:G2} (h:sle p q):sle (p++[m]) (q++[m]):=by
 rcases h with rfl | h
 ·exact .inl rfl
 ·exact .inr (Q5b h)
theorem R1e (p q:List G2):sle p (p++q):=by
 cases q with
 | nil=>exact .inl (by simp)
 | cons x q=>exact .inr (.inl (by rw [Ki,Ke]; omega))

/-! ### Moves that can be done -/
def run (h:Nat):List (List Int)→List G2→Option (List (List Int))
 | ss,[]=>some ss
 | ss,m::p=>if (Hn ss h m).2=0 then run h (Hn ss h m).1 p else none
theorem J14 {h:Nat} {m:G2}:∀ {p:List G2} {ss t:List (List Int)},run h ss (p++[m])=some t ↔ ∃ u,run h ss p=some u∧(Hn u h m).2=0∧(Hn u h m).1=t
 | [],ss,t=>by
  show (if (Hn ss h m).2=0 then some (Hn ss h m).1 else none)=some t ↔ _
  constructor
  ·intro g
   split at g
   ·rename_i h0; exact⟨ss,rfl,h0,Ez g⟩
   ·cases g
  ·rintro⟨u,hu,h0,rfl⟩
   cases hu
   rw [if_pos h0]
 | x::p,ss,t=>by
  rw [List.cons_append,run,run]
  split
  ·exact J14
  ·exact⟨fun g=>(by cases g),fun⟨u,hu,_⟩=>(by cases hu)⟩
theorem Q9d {ss:List (List Int)} {h:Nat} {m:G2} (h0:(Hn ss h m).2=0):(m,(Hn ss h m).1)∈G64 ss h:=by
 rcases G63 ss h m with h' | ⟨f,t,a,b,x,c⟩
 ·exact(h' h0).elim
 ·have h3:=(Ex c.hf).1
  have h4:=(Ex c.ht).1
  have e:m=⟨(f:Int),(t:Int)⟩:=by
   obtain⟨p,q⟩:=m
   have h1:p=(f:Int):=c.from_
   have h2:q=(t:Int):=c.to_
   rw [h1,h2]
  unfold G64 H1a
  refine List.mem_flatMap.2 ⟨f,List.mem_range.2 h3,?_⟩
  unfold Gf3
  refine List.mem_flatMap.2 ⟨t,List.mem_range.2 h4,?_⟩
  unfold G2f
  rw [← e,if_pos h0]
  exact Kq.2 rfl
theorem He5 (ss:List (List Int)) (h a:Nat):∀ m,(Gf3 ss h a m).Pairwise (fun x y=>ltM x.1 y.1)∧∀ x∈Gf3 ss h a m,x.1.From=(a:Int)∧x.1.To < (m:Int)
 | 0=>⟨by simp [Gf3],by simp [Gf3]⟩
 | m+1=>by
  obtain⟨h1,h2⟩:=He5 ss h a m
  have h3:∀ x∈G2f ss h a m,x.1=⟨(a:Int),(m:Int)⟩:=fun x hx=>by
   unfold G2f at hx
   split at hx
   ·rw [Kq] at hx; rw [hx]
   ·simp at hx
  rw [H50]
  refine⟨List.pairwise_append.2 ⟨h1,?_,fun x hx y hy=>?_⟩,fun x hx=>?_⟩
  ·unfold G2f; split <;> simp
  ·have:=h2 x hx
   rw [h3 y hy]
   exact .inr ⟨this.1,this.2⟩
  ·rcases Ko.1 hx with hx | hx
   ·have:=h2 x hx; exact⟨this.1,by omega⟩
   ·rw [h3 x hx]; exact⟨rfl,by show (m:Int) < ((m+1:Nat):Int); omega⟩
theorem J97 (ss:List (List Int)) (h:Nat):(G64 ss h).Pairwise (fun x y=>ltM x.1 y.1):=by
 have key:∀ m,(H1a ss h ss.length m).Pairwise (fun x y=>ltM x.1 y.1)∧∀ x∈H1a ss h ss.length m,x.1.From < (m:Int):=by
  intro m
  induction m with
  | zero=>exact⟨by simp [H1a],by simp [H1a]⟩
  | succ m ih=>
   obtain⟨h1,h2⟩:=He5 ss h m ss.length
   rw [H5f]
   refine⟨List.pairwise_append.2 ⟨ih.1,h1,fun x hx y hy=>?_⟩,fun x hx=>?_⟩
   ·have:=ih.2 x hx
    have:=(h2 y hy).1
    exact .inl (by omega)
   ·rcases Ko.1 hx with hx | hx
    ·have:=ih.2 x hx; omega
    ·have:=(h2 x hx).1; omega
 exact(key _).1

/-! ### The search with the ways it came -/
structure H26 (h:Nat) (order:List Int) (ss:List (List Int)) (all:List Gb) (ps:List (List G2)) (at_:Nat):Prop where
 len:ps.length=all.length
 node:∀ (i:Nat) z p,all[i]? = some z→ps[i]? = some p→run h ss p=some z.y.Stacks
 inc:∀ (i j:Nat) p q,i < j→ps[i]? = some p→ps[j]? = some q→slt p q
 root:ps[0]? = some []
 par:∀ (j:Nat) z q,0 < j→all[j]? = some z→ps[j]? = some q→∃ (i:Nat) (p:List G2),i < at_∧z.from_=(i:Int)∧ps[i]? = some p∧q=p++[mv z.by_]
 cl:∀ (i:Nat) z p,i < at_→all[i]? = some z→ps[i]? = some p→∀ m,(Hn z.y.Stacks h m).2=0→∃ (j:Nat) (z':Gb) (q:List G2),all[j]? = some z'∧ps[j]? = some q∧z'.y.Stacks=(Hn z.y.Stacks h m).1∧sle q (p++[m])
 uns:∀ (i:Nat) z,i < at_→all[i]? = some z→Qj order z.y.Stacks≠[]
structure Hf2 (h:Nat) (order:List Int) (ss:List (List Int)) (all:List Gb) (ps:List (List G2)) (at_:Nat) (za:Gb) (pa:List G2) (pre:List (G2×List (List Int))):Prop where
 hza:all[at_]? = some za
 hpa:ps[at_]? = some pa
 len:ps.length=all.length
 node:∀ (i:Nat) z p,all[i]? = some z→ps[i]? = some p→run h ss p=some z.y.Stacks
 inc:∀ (i j:Nat) p q,i < j→ps[i]? = some p→ps[j]? = some q→slt p q
 root:ps[0]? = some []
 par:∀ (j:Nat) z q,0 < j→all[j]? = some z→ps[j]? = some q→∃ (i:Nat) (p:List G2),z.from_=(i:Int)∧ps[i]? = some p∧q=p++[mv z.by_]∧(i < at_∨(i=at_∧∃ x∈pre,x.1=mv z.by_))
 cl:∀ (i:Nat) z p,i < at_→all[i]? = some z→ps[i]? = some p→∀ m,(Hn z.y.Stacks h m).2=0→∃ (j:Nat) (z':Gb) (q:List G2),all[j]? = some z'∧ps[j]? = some q∧z'.y.Stacks=(Hn z.y.Stacks h m).1∧sle q (p++[m])
 cla:∀ x∈pre,∃ (j:Nat) (z':Gb) (q:List G2),all[j]? = some z'∧ps[j]? = some q∧z'.y.Stacks=x.2∧sle q (pa++[x.1])
 uns:∀ (i:Nat) z,i < at_→all[i]? = some z→Qj order z.y.Stacks≠[]
theorem G4a {α:Type} {l:List α} {i:Nat} {x:α} (h:l[i]? = some x):i < l.length:=(Ex h).1
theorem Hf2.step {h:Nat} {order:List Int} {ss:List (List Int)} {all:List Gb} {ps:List (List G2)} {at_:Nat} {za:Gb} {pa:List G2} {pre:List (G2×List (List Int))} (hS:Hf2 h order ss all ps at_ za pa pre) {H:Int} {x:G2×List (List Int)}
  (hx:(Hn za.y.Stacks h x.1).2=0∧x.2=(Hn za.y.Stacks h x.1).1) (h7:∀ y∈pre,ltM y.1 x.1):∃ ps',Hf2 h order ss (addN H (at_:Int) all x) ps' at_ za pa (pre++[x]):=by
 -- all ways so far are ahead of this one
 have below:∀ (j:Nat) q,ps[j]? = some q→slt q (pa++[x.1]):=fun j q hq=>by
  by_cases hj:j=0
  ·subst hj
   rw [hS.root] at hq
   have hq:=Ez hq
   subst hq
   exact .inl (by rw [Ki,Kj,List.length_nil]; omega)
  ·have h8:j < all.length:=by rw [← hS.len]; exact G4a hq
   obtain⟨i,p,h1,h2,h3,h4⟩:=hS.par j _ q (by omega) (Ey h8) hq
   rw [h3]
   rcases h4 with h4 | ⟨rfl,y,hy,e⟩
   ·exact Q5b (hS.inc i at_ p pa h4 h2 hS.hpa)
   ·rw [hS.hpa] at h2
    have h2:=Ez h2
    subst h2
    rw [← e]
    exact Qc5 (h7 y hy) pa
 have a3:=G4a hS.hza
 unfold addN
 split
 ·rename_i h9
  obtain⟨z,hz,e⟩:=h9
  obtain⟨j,hj⟩:=List.mem_iff_getElem?.1 hz
  have h5:j < ps.length:=by rw [hS.len]; exact G4a hj
  refine⟨ps,hS.hza,hS.hpa,hS.len,hS.node,hS.inc,hS.root,fun j z q h0 h1 h2=>?_,hS.cl,fun y hy=>?_,hS.uns⟩
  ·obtain⟨i,p,g1,g2,g3,g4⟩:=hS.par j z q h0 h1 h2
   exact⟨i,p,g1,g2,g3,g4.imp id fun⟨a,y,hy,e⟩=>⟨a,y,Ko.2 (.inl hy),e⟩⟩
  ·rcases Ko.1 hy with hy | hy
   ·exact hS.cla y hy
   ·rw [Kq] at hy
    subst hy
    exact⟨j,z,ps[j],hj,Ey h5,e,.inr (below j _ (Ey h5))⟩
 ·obtain⟨z,hz⟩:∃ z:Gb,z=⟨⟨x.2,H⟩,(at_:Int),⟨x.1.From,x.1.To⟩⟩:=⟨_,rfl⟩
  rw [← hz]
  have h6:mv z.by_=x.1:=by rw [hz]; rfl
  have old:∀ {i:Nat} {z':Gb},(all++[z])[i]? = some z'→(i < all.length∧all[i]? = some z')∨(i=all.length∧z'=z):=fun {i z'} g=>by
   rcases Ep i all.length with hl | hl
   ·rw [Kd hl] at g; exact .inl ⟨hl,g⟩
   ·have:=G4a g
    rw [Ki,Kj] at this
    have e:i=all.length:=by omega
    subst e
    rw [Kc hl,Nat.sub_self] at g
    exact .inr ⟨rfl,(Ez g).symm⟩
  have oldp:∀ {i:Nat} {q:List G2},(ps++[pa++[x.1]])[i]? = some q→(i < ps.length∧ps[i]? = some q)∨(i=ps.length∧q=pa++[x.1]):=fun {i q} g=>by
   rcases Ep i ps.length with hl | hl
   ·rw [Kd hl] at g; exact .inl ⟨hl,g⟩
   ·have:=G4a g
    rw [Ki,Kj] at this
    have e:i=ps.length:=by omega
    subst e
    rw [Kc hl,Nat.sub_self] at g
    exact .inr ⟨rfl,(Ez g).symm⟩
  have up:∀ {i:Nat} {z':Gb},all[i]? = some z'→(all++[z])[i]? = some z':=fun g=>by rw [Kd (G4a g)]; exact g
  have upp:∀ {i:Nat} {q:List G2},ps[i]? = some q→(ps++[pa++[x.1]])[i]? = some q:=fun g=>by rw [Kd (G4a g)]; exact g
  have newz:(all++[z])[all.length]? = some z:=by simp
  have newp:(ps++[pa++[x.1]])[all.length]? = some (pa++[x.1]):=by rw [← hS.len]; simp
  have hl:=hS.len
  refine⟨ps++[pa++[x.1]],up hS.hza,upp hS.hpa,by rw [Ki,Ki,hl,Kj,Kj],fun i z' p h1 h2=>?_,fun i j p q a0 h1 h2=>?_,upp hS.root,fun j z' q h0 h1 h2=>?_,fun i z' p hi h1 h2 m hm=>?_,fun y hy=>?_,fun i z' hi h1=>?_⟩
  ·rcases old h1 with ⟨a1,a2⟩ | ⟨rfl,rfl⟩
   ·rcases oldp h2 with ⟨b1,b2⟩ | ⟨rfl,rfl⟩
    ·exact hS.node i z' p a2 b2
    ·omega
   ·rcases oldp h2 with ⟨b1,b2⟩ | ⟨_,rfl⟩
    ·omega
    ·refine J14.2 ⟨za.y.Stacks,hS.node at_ za pa hS.hza hS.hpa,hx.1,?_⟩
     rw [hz]; exact hx.2.symm
  ·rcases oldp h1 with ⟨a1,a2⟩ | ⟨rfl,rfl⟩
   ·rcases oldp h2 with ⟨b1,b2⟩ | ⟨rfl,rfl⟩
    ·exact hS.inc i j p q a0 a2 b2
    ·exact below i p a2
   ·have:=G4a h2
    rw [Ki,Kj] at this
    omega
  ·rcases old h1 with ⟨a1,a2⟩ | ⟨rfl,rfl⟩
   ·rcases oldp h2 with ⟨b1,b2⟩ | ⟨rfl,rfl⟩
    ·obtain⟨i,p,g1,g2,g3,g4⟩:=hS.par j z' q h0 a2 b2
     exact⟨i,p,g1,upp g2,g3,g4.imp id fun⟨a,y,hy,e⟩=>⟨a,y,Ko.2 (.inl hy),e⟩⟩
    ·omega
   ·rcases oldp h2 with ⟨b1,b2⟩ | ⟨_,rfl⟩
    ·omega
    ·exact⟨at_,pa,by rw [hz],upp hS.hpa,by rw [h6],.inr ⟨rfl,x,by simp,h6.symm⟩⟩
  ·rcases old h1 with ⟨a1,a2⟩ | ⟨rfl,rfl⟩
   ·rcases oldp h2 with ⟨b1,b2⟩ | ⟨rfl,rfl⟩
    ·obtain⟨j,z2,q,g1,g2,g3,g4⟩:=hS.cl i z' p hi a2 b2 m hm
     exact⟨j,z2,q,up g1,upp g2,g3,g4⟩
    ·omega
   ·omega
  ·rcases Ko.1 hy with hy | hy
   ·obtain⟨j,z2,q,g1,g2,g3,g4⟩:=hS.cla y hy
    exact⟨j,z2,q,up g1,upp g2,g3,g4⟩
   ·rw [Kq] at hy
    subst hy
    exact⟨all.length,z,_,newz,newp,by rw [hz],.inl rfl⟩
  ·rcases old h1 with ⟨a1,a2⟩ | ⟨rfl,rfl⟩
   ·exact hS.uns i z' hi a2
   ·omega
theorem Hf2.steps {h:Nat} {order:List Int} {ss:List (List Int)} {H:Int} {at_:Nat} {za:Gb} {pa:List G2}:∀ (l:List (G2×List (List Int))) {all:List Gb} {ps:List (List G2)} {pre:List (G2×List (List Int))},Hf2 h order ss all ps at_ za pa pre→(∀ x∈l,(Hn za.y.Stacks h x.1).2=0∧x.2=(Hn za.y.Stacks h x.1).1)→(pre++l).Pairwise (fun x y=>ltM x.1 y.1) →
  ∃ ps',Hf2 h order ss (G3e H (at_:Int) all l) ps' at_ za pa (pre++l)
 | [],all,ps,pre,hS,_,_=>⟨ps,by rw [List.append_nil]; exact hS⟩
 | x::l,all,ps,pre,hS,hl,ho=>by
  have h0:=List.pairwise_append.1 ho
  obtain⟨ps1,h1⟩:=hS.step (H:=H) (hl x (List.mem_cons_self ..)) (fun y hy=>h0.2.2 y hy x (List.mem_cons_self ..))
  have e:pre++x::l=(pre++[x])++l:=by simp
  obtain⟨ps2,h2⟩:=Hf2.steps l h1 (fun y hy=>hl y (List.mem_cons_of_mem _ hy)) (by rw [← e]; exact ho)
  exact⟨ps2,by rw [e]; exact h2⟩
theorem H26.next {h:Nat} {order:List Int} {ss:List (List Int)} {all:List Gb} {ps:List (List G2)} {at_:Nat} (hS:H26 h order ss all ps at_) {za:Gb} (hza:all[at_]? = some za) (hw:Qj order za.y.Stacks≠[]) (H:Int):∃ ps',H26 h order ss (G3e H (at_:Int) all (G64 za.y.Stacks h)) ps' (at_+1):=by
 have h3:=G4a hza
 have hpa:ps[at_]? = some (ps[at_]'(by rw [hS.len]; exact h3)):=Ey _
 obtain⟨ps',hM⟩:=Hf2.steps (H:=H) (G64 za.y.Stacks h) (pre:=[]) ⟨hza,hpa,hS.len,hS.node,hS.inc,hS.root,fun j z q h0 h1 h2=>by
  obtain⟨i,p,g1,g2,g3,g4⟩:=hS.par j z q h0 h1 h2
  exact⟨i,p,g2,g3,g4,.inl g1⟩,hS.cl,fun x hx=>by simp at hx,hS.uns⟩ (fun x hx=>by
   obtain⟨a,b,_,_,_,h0,e⟩:=J70 hx
   exact⟨h0,e⟩) (by rw [List.nil_append]; exact J97 _ _)
 rw [List.nil_append] at hM
 refine⟨ps',hM.len,hM.node,hM.inc,hM.root,fun j z q h0 h1 h2=>?_,fun i z p hi h1 h2 m hm=>?_,fun i z hi h1=>?_⟩
 ·obtain⟨i,p,g1,g2,g3,g4⟩:=hM.par j z q h0 h1 h2
  exact⟨i,p,by rcases g4 with g4 | ⟨g4,_⟩ <;> omega,g1,g2,g3⟩
 ·by_cases e:i=at_
  ·subst e
   rw [hM.hza] at h1; cases h1
   rw [hM.hpa] at h2; cases h2
   exact hM.cla _ (Q9d hm)
  ·exact hM.cl i z p (by omega) h1 h2 m hm
 ·by_cases e:i=at_
  ·subst e
   rw [hM.hza] at h1; cases h1
   exact hw
  ·exact hM.uns i z (by omega) h1
theorem H26.cover {h:Nat} {order:List Int} {ss:List (List Int)} {all:List Gb} {ps:List (List G2)} {at_:Nat} (hS:H26 h order ss all ps at_):∀ (n:Nat) (q:List G2) (t:List (List Int)),q.length=n→run h ss q=some t →
  (∃ (i:Nat) (z:Gb) (p:List G2),all[i]? = some z∧ps[i]? = some p∧z.y.Stacks=t∧sle p q)∨∃ (k:Nat) (z:Gb) (p q1 q2:List G2),at_≤k∧all[k]? = some z∧ps[k]? = some p∧q=q1++q2∧sle p q1
 | 0,q,t,hn,hr=>by
  have:q=[]:=Em hn
  subst this
  have hl:=G4a hS.root
  rw [hS.len] at hl
  have h0:=hS.node 0 _ [] (Ey hl) hS.root
  rw [hr] at h0
  exact .inl ⟨0,_,[],Ey hl,hS.root,(Ez h0).symm,.inl rfl⟩
 | n+1,q,t,hn,hr=>by
  rcases List.eq_nil_or_concat q with rfl | ⟨q0,m,rfl⟩
  ·simp at hn
  rw [List.concat_eq_append] at hn hr ⊢
  obtain⟨u,hu,h0,ht⟩:=J14.1 hr
  rcases hS.cover n q0 u (by rw [Ki,Kj] at hn; omega) hu with ⟨i,z,p,h1,h2,h3,h4⟩ | ⟨k,z,p,q1,q2,h1,h2,h3,h4,h5⟩
  ·rcases Ep i at_ with hi | hi
   ·obtain⟨j,z',q',g1,g2,g3,g4⟩:=hS.cl i z p hi h1 h2 m (by rw [h3]; exact h0)
    exact .inl ⟨j,z',q',g1,g2,by rw [g3,h3]; exact ht,H4d g4 (R1f h4)⟩
   ·exact .inr ⟨i,z,p,q0,[m],hi,h1,h2,rfl,h4⟩
  ·exact .inr ⟨k,z,p,q1,q2++[m],h1,h2,h3,by rw [h4,List.append_assoc],h5⟩
theorem H26.le {h:Nat} {order:List Int} {ss:List (List Int)} {all:List Gb} {ps:List (List G2)} {at_:Nat} (hS:H26 h order ss all ps at_) {i j:Nat} {p q:List G2} (h0:i≤j) (hp:ps[i]? = some p) (hq:ps[j]? = some q):sle p q:=by
 rcases Ep i j with hl | hl
 ·exact .inr (hS.inc i j p q hl hp hq)
 ·have:i=j:=by omega
  subst this
  rw [hp] at hq
  exact .inl (Ez hq)
theorem H26.first {h:Nat} {order:List Int} {ss:List (List Int)} {all:List Gb} {ps:List (List G2)} {at_:Nat} (hS:H26 h order ss all ps at_) {p:List G2} (hp:ps[at_]? = some p) {q:List G2} {t:List (List Int)} (hr:run h ss q=some t) (hw:Qj order t=[]):sle p q:=by
 rcases hS.cover q.length q t rfl hr with ⟨i,z,p',h1,h2,h3,h4⟩ | ⟨k,z,p',q1,q2,h1,h2,h3,h4,h5⟩
 ·have hi:at_≤i:=Nat.le_of_not_lt fun hl=>hS.uns i z hl h1 (by rw [h3]; exact hw)
  exact H4d (hS.le hi hp h2) h4
 ·rw [h4]
  exact H4d (H4d (hS.le h1 hp h3) h5) (R1e q1 q2)
theorem H26.back {h:Nat} {order:List Int} {ss:List (List Int)} {all:List Gb} {ps:List (List G2)} {at_:Nat} (hS:H26 h order ss all ps at_):∀ {i:Nat} {l:List G7},J5e all i l→∀ {p:List G2},ps[i]? = some p→p=(l.map mv).reverse
 | _,_,.stop,p,hp=>by rw [hS.root] at hp; exact(Ez hp).symm
 | i,_,.go (z:=z) (j:=j) (l:=l) hz h0 hf hj hb,p,hp=>by
  obtain⟨k,p',g1,g2,g3,g4⟩:=hS.par i z p h0 hz hp
  have:k=j:=by omega
  subst this
  have:=hS.back hb g3
  rw [g4,this]; simp
theorem H26.start {h:Nat} {order:List Int} {ss:List (List Int)} {z:Gb} (hz:z.y.Stacks=ss):H26 h order ss [z] [[]] 0:=by
 refine⟨rfl,fun i z' p h1 h2=>?_,fun i j p q h3 h1 h2=>?_,rfl,fun j z' q h0 h1=>?_,fun i z' p hi=>by omega,fun i z' hi=>by omega⟩
 ·have:=G4a h1
  have e:i=0:=by simpa using this
  subst e
  simp at h1 h2
  subst h1 h2
  rw [hz]; rfl
 ·have:=G4a h2
  simp at this; omega
 ·have:=G4a h1
  simp at this; omega
end Go.Proofs.YtokjlondbjdlfaaGreat
