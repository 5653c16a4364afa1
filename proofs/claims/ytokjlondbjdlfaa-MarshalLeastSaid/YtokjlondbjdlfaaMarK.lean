/-
 Least; Least of program and reference;
-/
import Derived.Test.YtokjlondbjdlfaaMarI
import Derived.Test.YtokjlondbjdlfaaXH
set_option maxRecDepth 100000
set_option linter.unusedVariables false
namespace Go.Proofs.Ytokjlondbjdlfaa
open Go.RowKit

/-! ### The first yard aQ bytes -/
theorem Qdd (boxes:List Int):G68 boxes []=Gn.zero:=by
 refine Gn.ext_g fun j hj=>?_
 rw [H1d boxes [] hj]
 have:Gn.zero.g j=0:=by
  unfold Gn.zero Gn.g
  rw [List.getD_eq_getElem?_getD,List.getElem?_replicate]
  split <;> rfl
 rw [this]
 rfl
theorem Q60 (boxes:List Int) (pre:List (List Int)):G68 boxes (pre++[[]])=G68 boxes pre:=by
 refine Gn.ext_g fun j hj=>?_
 rw [H1d _ _ hj,H1d _ _ hj]
 congr 1
 unfold cellAt
 rcases Eo (j / 6) pre.length with h | h
 ·rw [Kc h]
 ·rw [Kb h,List.getElem?_eq_none h]
  cases hq:([[]]:List (List Int))[j / 6 - pre.length]? with
  | none=>rfl
  | some s=>
   have:=Ez hq
   rw [Kp] at this
   subst this; rfl
theorem Q97 (boxes:List Int) (pre:List (List Int)) (pr:List Int) (b:Int) (hp:pre.length < 4) (hl:pr.length < 6):G68 boxes (pre++[pr++[b]])=(G68 boxes (pre++[pr])).set (pre.length*6+pr.length*1) (codeOf boxes (some b)):=by
 refine Gn.ext_g fun j hj=>?_
 rw [Gn.Q2d _ (by omega),H1d _ _ hj,H1d _ _ hj]
 obtain⟨i,k,hi,hk,rfl⟩:∃ i k,i < 4∧k < 6∧j=i*6+k:=⟨j / 6,j % 6,by omega,by omega,by omega⟩
 rw [show (i*6+k) / 6=i by omega,show (i*6+k) % 6=k by omega]
 by_cases e:i=pre.length
 ·subst e
  have g1:∀ s:List Int,cellAt (pre++[s]) pre.length k=s[k]? := fun s=>G43 (by simp)
  rw [g1,g1]
  by_cases e2:k=pr.length
  ·subst e2; rw [if_pos (by omega)]; simp
  ·rw [if_neg (by omega)]
   rcases Eo k pr.length with h | h
   ·rw [Kc h]
   ·rw [List.getElem?_eq_none (by simp; omega),List.getElem?_eq_none (by omega)]
 ·rw [if_neg (by omega)]
  congr 1
  unfold cellAt
  rcases Eo i pre.length with h | h
  ·rw [Kc h,Kc h]
  ·rw [List.getElem?_eq_none (by simp; omega),List.getElem?_eq_none (by simp; omega)]
theorem J53 {ss:List (List Int)} (h:ss.flatten.length≤180):Rv ss=some ss.flatten:=by
 refine Yi ?_
 unfold Rv
 refine Qf (fun pre s=>s=(pre.flatten.length:Int)) rfl (fun pre x post s nx e hI h0=>?_) (fun s hI=>?_)
 ·subst hI
  have:pre.flatten.length+x.length≤180:=by
   rw [e,List.flatten_append,List.flatten_cons,Kh,Kh] at h; omega
  refine Yj (by omega) (Jt (fun g=>by have:=Er g; omega) (fun _=>h0 _ ?_))
  rw [List.flatten_append,List.flatten_singleton,Kh]; omega
 ·have hI:s=(ss.flatten.length:Int):=hI
  subst hI
  refine He (x:=[]) ?_ ?_
  ·unfold G1f need
   rw [Eu ⟨by omega,by omega,by unfold maxLen; omega⟩]; rfl
  ·refine Qf (fun pre s=>s=pre.flatten) rfl (fun pre x post s nx e hI h0=>?_) (fun s hI=>Hs hI)
   subst hI
   have:pre.flatten.length+x.length≤180:=by
    rw [e,List.flatten_append,List.flatten_cons,Kh,Kh] at h; omega
   refine Qk (G28 (by omega) (by decide)) (h0 _ (by simp))

def bfs (order:List Int) (H:Int):Nat→List Gd→Nat→List Gd×Option Nat
 | 0,all,_=>(all,none)
 | f+1,all,at_=>match all[at_]? with
  | none=>(all,none)
  | some z=>if G23 order z.y.Stacks=[] then (all,some at_) else bfs order H f (G3b H (at_:Int) all (Gc5 z.y.Stacks H.toNat)) (at_+1)
def Qb1 (boxes:List Int) (n:Nat) (H:Int) (r:List Gd×Option Nat):Prop:=Met boxes n H r.1∧∀ i,r.2=some i→i < r.1.length
theorem Q34 {boxes order:List Int} {n:Nat} {H:Int}:∀ (f:Nat) {all:List Gd} (at_:Nat),Met boxes n H all→Qb1 boxes n H (bfs order H f all at_)
 | 0,all,at_,hA=>⟨hA,fun i h=>by cases h⟩
 | f+1,all,at_,hA=>by
  rw [bfs]
  cases hz:all[at_]? with
  | none=>exact⟨hA,fun i h=>by cases h⟩
  | some z=>
   have h0:=(Ew hz).1
   dsimp only
   split
   ·exact⟨hA,fun i h=>by cases h; exact h0⟩
   ·exact Q34 f (at_+1) (hA.G3b _ h0 (H82 (hA.ok z (Ez hz)).1))
section
variable {boxes order:List Int} {n:Nat} {H:Int}
theorem Q1d {G:Nat} (hG:9000030 < G) (hb:boxes.length≤5) {Z:List Gd×Option Nat} (hZ:Qb1 boxes n H Z) {res:(List G8)×Int} (h1:(Z.2=none∧res=([],6))∨∃ i l,Z.2=some i∧Jad Z.1 i l∧l.length≤i∧res=(l.reverse,0)):∀ (f:Nat) {all:List Gd} (at_:Nat),Met boxes n H all→at_≤all.length→7962624 < f+at_→bfs order H f all at_=Z →
  loop (fun nx13 (s13:Int×(List Gd))=>bif decide (s13.1 < (s13.2.length:Int)) then (Qn s13.2 s13.1 fun y19=>bnd (Hz G y19.y order) fun r20=>bif decide (0 < (r20.length:Int)) then (bnd (Qu G s13.2 s13.1) fun r22=>chk (s13.1+1) fun v24=>nx13 (v24,r22)) else (loop (fun nx37 (s37:(List G8)×Int)=>bif decide (0 < s37.2) then (Qn s13.2 s37.2 fun y41=>need (decide (([y41.by_].length+s37.1.length)*16≤140737488355328∧[y41.by_].length+s37.1.length≤maxLen)) <| Qn s13.2 s37.2 fun y43=>nx37 (([y41.by_]++s37.1),y43.from_)) else (some (s37.1,(0:Int)))) G ([],s13.1))) else (some ([],6))) f ((at_:Int),all)=some res
 | 0,all,at_,hA,h5,hf,h0=>by have:=hA.len hb; omega
 | f+1,all,at_,hA,h5,hf,h0=>by
  refine Yi ?_
  have h7:=hA.len hb
  rw [loop]
  rw [bfs] at h0
  cases hz:all[at_]? with
  | none=>
   have h8:all.length≤at_:=List.getElem?_eq_none_iff.1 hz
   rw [hz] at h0
   dsimp only at h0
   subst h0
   refine Jt (fun h=>by have h:(at_:Int) < (all.length:Int):=Er h; omega) (fun _=>Hs ?_)
   rcases h1 with ⟨_,h⟩ | ⟨i,l,h,_⟩
   ·exact h.symm
   ·cases h
  | some z=>
   have h4:=(Ew hz).1
   have h3:=hA.ok z (Ez hz)
   rw [hz] at h0
   dsimp only at h0
   refine Jt (fun _=>?_) (fun h=>by have h:¬ (at_:Int) < (all.length:Int):=Es h; omega)
   refine Rj rfl hz ?_
   have ey:z.y=⟨z.y.Stacks,z.y.Height⟩:=rfl
   rw [ey]
   refine He (J97 G h3.1.right.all) (Jt (fun h=>?_) (fun h=>?_))
   ·have hw:G23 order z.y.Stacks≠[]:=fun e=>by rw [e] at h; simp at h
    rw [if_neg hw] at h0
    refine He (Q9f (all:=all) hz (fun z hz=>hA.ok z hz) (by omega) (by omega)) (Yj (by dsimp only; omega) ?_)
    have h6:=hA.G3b (Gc5 z.y.Stacks H.toNat) h4 (H82 h3.1)
    have hl:=(H91 H (at_:Int) (Gc5 z.y.Stacks H.toNat) all).1
    exact⟨res,Q1d hG hb hZ h1 f (at_+1) h6 (by omega) (by omega) h0,rfl⟩
   ·have hw:G23 order z.y.Stacks=[]:=by
     have h:¬ 0 < ((G23 order z.y.Stacks).length:Int):=Es h
     exact Ek (by omega)
    rw [if_pos hw] at h0
    subst h0
    rcases h1 with ⟨h,_⟩ | ⟨i,l,h,h2,h9,hr⟩
    ·cases h
    ·have hi:at_=i:=Ey h
     subst hi
     refine⟨_,R01 hA G at_ (acc:=[]) h2 (by omega) (by rw [List.length_nil]; omega),?_⟩
     rw [List.append_nil]; exact hr.symm
theorem Q21 {G:Nat} (hG:9000030 < G) (hb:boxes.length≤5) {Z:List Gd×Option Nat} {β:Type} {Q:β→Prop} {K:Int×(Q0 Gn Int)×(List Gq)×Int→Option β}
  (hK:∀ m,(Z.2=none→Wp (K (-1,m,Z.1.map (cv boxes),(Z.1.length:Int))) Q)∧∀ i:Nat,Z.2=some i→Wp (K ((i:Int),m,Z.1.map (cv boxes),(i:Int))) Q):∀ (f:Nat) {all:List Gd} {met:Q0 Gn Int} (at_:Nat),Met boxes n H all→R2d boxes met all→at_≤all.length→7962624 < f+at_→bfs order H f all at_=Z →
  Wp (loop (fun nx84 (s84:Int×(List Gq)×Int×(Q0 Gn Int))=>bif decide (s84.2.2.1 < (s84.2.1.length:Int)) then (Qn s84.2.1 s84.2.2.1 fun y89=>bnd (Qy G y89.s (n:Int) (Gc4 order boxes)) fun r93=>bif r93 then (K (s84.2.2.1,s84.2.2.2,s84.2.1,s84.2.2.1)) else (bnd (Zc y89.s (n:Int) H) fun r96=>bnd (Rc G (n:Int) y89.s H) fun ys109=>
   each (fun(y109:G5×Gn) i109 (s109:(List Gq)×(Q0 Gn Int)) nx109=>bnd (some (Q0.get s109.2 y109.2 0)) fun v112=>bif (!(Q0.has s109.2 y109.2)) then (need (decide ((s109.1.length+[(Gq.mk y109.2 s84.2.2.1 y109.1)].length)*48≤140737488355328∧s109.1.length+[(Gq.mk y109.2 s84.2.2.1 y109.1)].length≤maxLen)) <| nx109 ((s109.1++[(Gq.mk y109.2 s84.2.2.1 y109.1)]),(Q0.put s109.2 y109.2 (s109.1.length:Int)))) else (nx109 (s109.1,s109.2)))
    (fun(s109:(List Gq)×(Q0 Gn Int))=>chk (s84.2.2.1+1) fun v118=>nx84 (s84.1,s109.1,v118,s109.2)) ys109 0 (s84.2.1,s84.2.2.2))) else (K (s84.1,s84.2.2.2,s84.2.1,s84.2.2.1))) f (-1,all.map (cv boxes),(at_:Int),met)) Q
 | 0,all,met,at_,hA,hm,h2,hf,h0=>by have:=hA.len hb; omega
 | f+1,all,met,at_,hA,hm,h2,hf,h0=>by
  have h6:=hA.len hb
  rw [loop]
  rw [bfs] at h0
  cases hz:all[at_]? with
  | none=>
   have h7:all.length≤at_:=List.getElem?_eq_none_iff.1 hz
   have h2:at_=all.length:=by omega
   rw [hz] at h0
   dsimp only at h0
   subst h0
   refine Jt (fun h=>by have h:(at_:Int) < ((all.map (cv boxes)).length:Int):=Er h; rw [Km] at h; omega) (fun _=>?_)
   dsimp only
   rw [h2]
   exact(hK met).1 rfl
  | some z=>
   have h3:=(Ew hz).1
   have h1:=hA.ok z (Ez hz)
   rw [hz] at h0
   dsimp only at h0
   refine Jt (fun _=>?_) (fun h=>by have h:¬ (at_:Int) < ((all.map (cv boxes)).length:Int):=Es h; rw [Km] at h; omega)
   refine Rj (m:=at_) (x:=cv boxes z) rfl (by rw [Ke,hz]; rfl) ?_
   refine He (Q4f (by omega) h1.1) (Jt (fun h=>?_) (fun h=>?_))
   ·have hw:G23 order z.y.Stacks=[]:=Er h
    rw [if_pos hw] at h0
    subst h0
    exact(hK met).2 at_ rfl
   ·have hw:¬ G23 order z.y.Stacks=[]:=Es h
    rw [if_neg hw] at h0
    refine He (x:=()) rfl (He (Q8a (by omega) h1.1) ?_)
    have h4:=hA.G3b (Gc5 z.y.Stacks H.toNat) h3 (H82 h1.1)
    have hl:=(H91 H (at_:Int) (Gc5 z.y.Stacks H.toNat) all).1
    have h8:=Q59 (ss:=z.y.Stacks) (h:=H.toNat) (by rw [h1.1.len]; exact h1.1.few)
    refine R19 (Gc5 z.y.Stacks H.toNat) 0 hA h3 (H82 h1.1) hm (by omega) (fun met' h5=>Yj (by dsimp only; omega) ?_)
    exact Q21 hG hb hK f (at_+1) h4 h5 (by omega) (by omega) h0
end

theorem R14 {α β:Type} {Q:β→Prop} {m:(α→Option β)→Option β} {k:α→Option β} (h:∀ K,K=k→Wp (m K) Q):Wp (jp m k) Q:=h k rfl
theorem R63 {z:Int} (h:0≤z∧z≤255):IntKind.u8.wrap z=z:=by
 simp [IntKind.wrap,IntKind.bits,IntKind.signed]; omega
theorem Q94 {ss:List (List Int)} (hn:ss.flatten.Nodup) (h5:ss.flatten.length≤5) (h4:ss.length≤4) {β:Type} {Q:β→Prop} {K:Int×Gn→Option β} (hK:Wp (K ((ss.flatten.length:Int),G68 ss.flatten ss)) Q) :
  Wp (each (fun(y40:List Int) i40 (s40:Int×Gn) nx40=>each (fun y70 i70 (s70:Int×Gn) nx70=>bnd (Rn (i40:Int) 3) fun m76=>bnd (Rn (i70:Int) 5) fun m77=>nx70 (IntKind.u8.wrap (s70.1+1),(s70.2.set (m76*6+m77*1) (IntKind.u8.wrap (s70.1+1))))) (fun(s70:Int×Gn)=>nx40 (s70.1,s70.2)) y40 0 (s40.1,s40.2)) K ss 0 (0,Gn.zero)) Q:=by
 refine Qf (fun pre s=>s=((pre.flatten.length:Int),G68 ss.flatten pre)) (by rw [Qdd]; rfl) (fun pre x post s nx e hI h3=>?_) (fun s hI=>by rw [hI]; exact hK)
 subst hI
 have hp:pre.length < 4:=by
  have:=congrArg List.length e
  simp only [Kh,Kd] at this; omega
 refine Qf (fun pr s=>s=(((pre.flatten.length+pr.length:Nat):Int),G68 ss.flatten (pre++[pr]))) (by rw [Q60]; rfl) (fun pr b po s nx' e' hJ h1=>?_) (fun s hJ=>h3 _ ?_)
 ·subst hJ
  have hf:ss.flatten=(pre.flatten++pr)++b::(po++post.flatten):=by rw [e,e',List.flatten_append,List.flatten_cons]; simp
  have hl:=congrArg List.length hf
  simp only [Kh,Kd] at hl
  have hb:b ∉ pre.flatten++pr:=fun hb=>by
   rw [hf] at hn
   exact(List.nodup_append.1 hn).2.2 b hb b (by simp) rfl
  have h2:ss.flatten.idxOf b=pre.flatten.length+pr.length:=by
   have:=(Hd3 (post:=po++post.flatten)).2 hb
   unfold rnk at this
   rw [hf,this,Kh]
  refine G00 (Yh (m:=pre.length) rfl (by omega) (G00 (Yh (m:=pr.length) rfl (by omega) ?_)))
  have hw:IntKind.u8.wrap (((pre.flatten.length+pr.length:Nat):Int)+1)=((pre.flatten.length+(pr++[b]).length:Nat):Int):=by
   rw [R63 (by omega),Kh,Ki]; omega
  dsimp only
  rw [hw]
  refine h1 _ ?_
  rw [Q97 ss.flatten pre pr b hp (by omega)]
  have h0:codeOf ss.flatten (some b)=((pre.flatten.length+(pr++[b]).length:Nat):Int):=by
   show ((ss.flatten.idxOf b+1:Nat):Int)=_
   rw [h2,Kh,Ki]; omega
  rw [h0]
 ·subst hJ
  rw [List.flatten_append,List.flatten_singleton,Kh]
theorem Q80 {order boxes:List Int} (h:boxes.length≤5) {β:Type} {Q:β→Prop} {K:List Int→Option β} (hK:Wp (K (Gc4 order boxes)) Q) :
  Wp (each (fun(y29:Int) i29 (s29:List Int) nx29=>bnd (Qd order y29) fun r34=>need (decide ((s29.length+[r34].length)*8≤140737488355328∧s29.length+[r34].length≤maxLen)) <| nx29 (s29++[r34])) K boxes 0 [0]) Q:=by
 refine Qf (fun pre s=>s=Gc4 order pre) rfl (fun pre x post s nx e hI h0=>?_) (fun s hI=>by rw [hI]; exact hK)
 subst hI
 have hp:pre.length < 5:=by
  have:=congrArg List.length e
  simp only [Kh,Kd] at this; omega
 refine He (Q39 order x) (Qk (G28 (by unfold Gc4; rw [Kd,Km,Ki]; omega) (by decide)) (h0 _ ?_))
 unfold Gc4
 rw [List.map_append]; rfl
theorem Qa6 {F:Nat} (hF:9000030 < F) (ss:List (List Int)) (H:Int) (order:List Int):∃ l e,Qe F ⟨ss,H⟩ order=some (l.map mv,e)∧Qa F ⟨ss,H⟩ order=some (l,e)∧l.length≤8000000:=by
 by_cases hR:G79 ss H order
 ·have h9:=hR.y.all
  by_cases a4:5 < ss.flatten.length∨4 < ss.length
  ·refine⟨[],5,?_,?_,by simp⟩
   ·unfold Qe
    rw [H99,if_pos hR,Gb9,Ev (by simp),cond_false]
    show (bnd (Rv ss) _)=_
    rw [J53 h9,Gb9]
    have hd:(decide (5 < (ss.flatten.length:Int))||decide (4 < (ss.length:Int)))=true:=by
     rw [Ks,Kk,Kk]; omega
    show (bif (decide (5 < (ss.flatten.length:Int))||decide (4 < (ss.length:Int))) then _ else _)=_
    rw [hd]; rfl
   ·unfold Qa
    rw [Gff,Eu hR,Gb9,Bool.not_true,cond_false,J1f (by omega),Gb9]
    have hd:(decide (5 < (ss.flatten.length:Int))||decide (4 < (ss.length:Int)))=true:=by
     rw [Ks,Kk,Kk]; omega
    show (bif (decide (5 < (ss.flatten.length:Int))||decide (4 < (ss.length:Int))) then _ else _)=_
    rw [hd]; rfl
  ·have h5:ss.flatten.length≤5:=by omega
   have h4:ss.length≤4:=by omega
   obtain⟨boxes,h6⟩:∃ boxes,boxes=ss.flatten:=⟨_,rfl⟩
   obtain⟨first,h7⟩:∃ first:Gd,first=⟨⟨ss,H⟩,-1,⟨0,0⟩⟩:=⟨_,rfl⟩
   have hS:SmY boxes ss.length H ss:=⟨hR.y,rfl,h4,fun b=>by rw [h6]⟩
   have hA:Met boxes ss.length H [first]:=by
    refine⟨fun z hz=>?_,by simp,⟨first,rfl,by rw [h7]⟩,fun i z hz hi=>?_⟩
    ·rw [Kp] at hz; subst hz; rw [h7]; exact⟨hS,rfl⟩
    ·have:=(Ew hz).1
     simp at this; omega
   obtain⟨Z,hZ⟩:∃ Z,Z=bfs order H F [first] 0:=⟨_,rfl⟩
   have h0:Qb1 boxes ss.length H Z:=by rw [hZ]; exact Q34 F 0 hA
   have a5:=h0.1.len (by rw [h6]; exact h5)
   obtain⟨res,h8⟩:∃ res:(List G8)×Int,(Z.2=none∧res=([],6))∨∃ i l,Z.2=some i∧Jad Z.1 i l∧l.length≤i∧res=(l.reverse,0):=by
    cases a2:Z.2 with
    | none=>exact⟨_,.inl ⟨rfl,rfl⟩⟩
    | some i=>
     obtain⟨l,h1,h2⟩:=Q35 h0.1 i i (Ka) (h0.2 i a2)
     exact⟨_,.inr ⟨i,l,rfl,h1,h2,rfl⟩⟩
   have a1:res.1.length≤8000000:=by
    rcases h8 with ⟨_,rfl⟩ | ⟨i,l,h1,h2,h3,rfl⟩
    ·simp
    ·have:=h0.2 i h1
     rw [List.length_reverse]; omega
   have hd:(decide (5 < (ss.flatten.length:Int))||decide (4 < (ss.length:Int)))=false:=by
    rw [Kt,decide_eq_false_iff_not,decide_eq_false_iff_not]; omega
   refine⟨res.1,res.2,?_,?_,a1⟩
   ·refine Yi ?_
    unfold Qe
    refine He (H99 ss H order) ?_
    rw [if_pos hR]
    refine Jt (fun h=>by simp at h) (fun _=>He (J53 h9) (Jt (fun h=>?_) (fun _=>?_)))
    ·have h:(decide (5 < (ss.flatten.length:Int))||decide (4 < (ss.length:Int)))=true:=h
     rw [hd] at h; cases h
    ·rw [← h6]
     refine Q80 (by rw [h6]; exact h5) ?_
     refine Q94 (ss:=ss) hR.y.nodup h5 h4 ?_
     rw [← h6]
     refine R14 (fun K a0=>?_)
     subst h7
     refine Q21 (K:=K) (boxes:=boxes) (n:=ss.length) (H:=H) (order:=order) (G:=F) (Z:=Z) hF (by rw [h6]; exact h5) (fun m=>⟨fun h=>?_,fun i h=>?_⟩) F (all:=[⟨⟨ss,H⟩,-1,⟨0,0⟩⟩]) (met:=Q0.put (Q0.empty:Q0 Gn Int) (G68 boxes ss) 0) 0 hA (fun s=>?_) (by simp) (by omega) hZ.symm
     ·rw [a0]
      refine Jt (fun _=>Hs ?_) (fun h=>by have h:¬ ((-1:Int) < 0):=Es h; omega)
      rcases h8 with ⟨_,rfl⟩ | ⟨i,l,h1,_⟩
      ·rfl
      ·rw [h] at h1; cases h1
     ·rw [a0]
      refine Jt (fun h=>by have h:(i:Int) < 0:=Er h; omega) (fun _=>?_)
      rcases h8 with ⟨h1,_⟩ | ⟨i',l,h1,h2,h3,rfl⟩
      ·rw [h] at h1; cases h1
      ·rw [h] at h1
       have ei:i=i':=Ey h1
       subst ei
       have a3:=h0.2 i h
       refine⟨_,R02 h0.1 (G:=F) (by omega) F i (out:=[]) h2 (by omega) a3 (by rw [List.length_nil]; omega),?_⟩
       rw [List.nil_append,List.map_reverse]
     ·rw [Q9e,Ks,Kk]
      constructor
      ·rintro(g | g)
       ·exact⟨_,Kp.2 rfl,g⟩
       ·exact absurd g (by simp [Q0.has,Q0.empty,Zn])
      ·rintro⟨z,hz,g⟩
       rw [Kp] at hz
       subst hz
       exact .inl g
   ·refine Yi ?_
    unfold Qa
    refine He (Gff F ss H order) ?_
    rw [Eu hR]
    refine Jt (fun h=>by cases h) (fun _=>He (J1f (by omega)) (Jt (fun h=>?_) (fun _=>?_)))
    ·have h:(decide (5 < (ss.flatten.length:Int))||decide (4 < (ss.length:Int)))=true:=h
     rw [hd] at h; cases h
    ·have:=Q1d (boxes:=boxes) (order:=order) (G:=F) hF (by rw [h6]; exact h5) h0 h8 F (all:=[first]) 0 hA (by simp) (by omega) hZ.symm
     rw [h7] at this
     exact⟨_,this,rfl⟩
 ·refine⟨[],2,?_,?_,by simp⟩
  ·unfold Qe
   rw [H99,if_neg hR]; rfl
  ·unfold Qa
   rw [Gff,Ev hR]; rfl
theorem Qc9 {l:List G8} (h:l.length≤8000000):R5 l=some (l.map mv):=by
 refine Yi ?_
 unfold R5
 refine Qf (fun pre s=>s=pre.map mv) rfl (fun pre x post s nx e hI h0=>?_) (fun s hI=>Hs hI)
 subst hI
 have hp:pre.length < 8000000:=by
  have:=congrArg List.length e
  simp only [Kh,Kd] at this; omega
 refine Qk (G28 (by rw [Km,Ki]; omega) (by decide)) (h0 _ ?_)
 rw [List.map_append]; rfl
theorem Q95 {F:Nat} (hF:9000030 < F) {y:Gp} {order:List Int} (h1:∀ s∈y.Stacks,s.length≤10) (h2:y.Stacks.length≤32) (h3:order.length≤60):Rr F y order=some true:=by
 refine Yi ?_
 unfold Rr
 have hs:∀ s∈y.Stacks,s.length≤1048576:=fun s hs=>by have:=h1 s hs; omega
 obtain⟨l,e,hp,hr,hl⟩:=Qa6 hF y.Stacks y.Height order
 refine He (Qa4 (by omega) hs) (He (H28 (by omega)) ?_)
 show Wp (bnd (Qe F ⟨(y.Stacks.map J00).map Prod.fst,y.Height⟩ order) _) _
 rw [J3f]
 refine He hp (He hr ?_)
 have he:decide ((l.map mv,e).2=(l,e).2)=true:=Eu rfl
 rw [he]
 exact G59 rfl (Qc9 hl) (G59 rfl (J50 _) (G59 rfl (Q3b (by omega) hs) (G59 rfl (H29 (by omega)) (Hs rfl))))
theorem J10:Qc 9000100=some true:=by kernel_rfl
theorem Jf7 (y:Gp) (h1:∀ s∈y.Stacks,s.length≤10) (h2:y.Stacks.length≤32):Wp (Rq y) (fun _=>True):=by
 unfold Rq
 refine Qf (fun(pre:List (List Int)) (s:Int)=>0≤s∧s≤10*(pre.length:Int)) ⟨by omega,by simp⟩ (fun pre x post s nx e hI h0=>?_) (fun s hI=>Hs trivial)
 have hx:=h1 x (by rw [e]; simp)
 have hp:pre.length < 32:=by
  have:=congrArg List.length e
  simp only [Kh,Kd] at this; omega
 refine Yj (by omega) (h0 _ ?_)
 rw [Kh,Ki]; omega
theorem Q90 (y:Gp) (order:List Int):R3 9000100 y order=some true:=by
 refine Yi ?_
 unfold R3
 refine G00 (wp_mono (Jab y) (fun r hr=>?_))
 cases hc:((!r)||(decide (60 < (order.length:Int)))) with
 | true=>
  refine Q16 rfl ?_
  rw [Bool.true_or]
  refine Q16 rfl ?_
  rw [Bool.true_or]
  exact G59 rfl J10 (Hs rfl)
 | false=>
  simp only [Kt,decide_eq_false_iff_not,Bool.not_eq_false'] at hc
  obtain⟨h1,h2⟩:=hr hc.1
  rw [Bool.not_false,cond_true]
  refine G00 (wp_mono (Jf7 y h1 h2) (fun b _=>?_))
  rw [Bool.false_or]
  cases b with
  | false=>
   refine Q16 rfl ?_
   exact G59 rfl J10 (Hs rfl)
  | true=>
   refine G59 rfl (Q95 (by decide) h1 h2 (by omega)) ?_
   exact G59 rfl J10 (Hs rfl)
end Go.Proofs.Ytokjlondbjdlfaa
