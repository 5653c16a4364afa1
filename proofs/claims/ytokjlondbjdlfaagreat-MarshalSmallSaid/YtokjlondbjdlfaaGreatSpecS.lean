/-
 The examples of chapter 36,by what is known of the rule. Least; Least of program and reference; arranges,finds and checks answer true for yards and orders t A row of slices that are the call's own,in a box of their ow MarshalSmall:
-/
import Derived.Test.YtokjlondbjdlfaaGreatMarM
import Derived.Test.YtokjlondbjdlfaaGreatMarP
import Derived.Test.YtokjlondbjdlfaaGreatPin
import Derived.Test.YtokjlondbjdlfaaGreatPsm
set_option maxRecDepth 100000
set_option linter.unusedVariables false
namespace Go.Proofs.YtokjlondbjdlfaaGreat
open Go.RowKit Go.Sort Go.Shelf

theorem G42 {F:Nat} (hF:400 < F) {ss:List (List Int)} {H:Int} {order:List Int} {l:List G7} {e:Int} (ho:order.length≤1000000) (h:He F ⟨ss,H⟩ order=some (l,e)):Q0 F ⟨ss,H⟩ order=some (l.map mv,e):=by
 obtain⟨l',e',h1,h2,_,_⟩:=H1d hF ss H ho
 rw [h] at h2
 have:=Ez h2
 cases this
 exact h1
theorem ex1:He 500 ⟨[[1,3,2],[4],[]],3⟩ [1,2,3,4]=some ([⟨0,1⟩,⟨0,2⟩],0):=by kernel_rfl
theorem ex2:He 500 ⟨[[1,2],[3,4]],2⟩ [1,2,3,4]=some ([],360):=by kernel_rfl
theorem ex3:He 500 ⟨[[1,3],[2]],2⟩ [1,2,3]=some ([],360):=by kernel_rfl
theorem ex4:He 500 ⟨[[1,3],[2,4],[]],2⟩ [1,2,3,4]=some ([⟨1,2⟩,⟨0,2⟩],0):=by kernel_rfl
theorem exW:Zj ⟨[[1,3,2],[4],[]],3⟩ [1,2,3,4]=some ([2,3],0):=by kernel_rfl
theorem R80:Jh 500 ⟨[[1,3,2],[4],[]],3⟩ [1,2,3,4]=some ([⟨0,1⟩,⟨0,2⟩],0):=by kernel_rfl
theorem R7f:Jh 500 ⟨[[1,2],[3,4]],2⟩ [1,2,3,4]=some ([],6):=by kernel_rfl
theorem R7e:Jh 500 ⟨[[1,3],[2]],2⟩ [1,2,3]=some ([],6):=by kernel_rfl
theorem exC:Ye ⟨[[1,3,2],[4],[]],3⟩ [1,2,3,4] [⟨0,1⟩,⟨0,2⟩]=some (true,0):=by kernel_rfl
open Go.RowKit

/-! ### The first yard aQ bytes -/
theorem R30 (boxes:List Int):G81 boxes []=Gp.zero:=by
 refine Gp.ext_g fun j hj=>?_
 rw [H3d boxes [] hj]
 have:Gp.zero.g j=0:=by
  unfold Gp.zero Gp.g
  rw [List.getD_eq_getElem?_getD,List.getElem?_replicate]
  split <;> rfl
 rw [this]
 rfl
theorem Qa4 (boxes:List Int) (pre:List (List Int)):G81 boxes (pre++[[]])=G81 boxes pre:=by
 refine Gp.ext_g fun j hj=>?_
 rw [H3d _ _ hj,H3d _ _ hj]
 congr 1
 unfold cellAt
 rcases Ep (j / 6) pre.length with h | h
 ·rw [Kd h]
 ·rw [Kc h,List.getElem?_eq_none h]
  cases hq:([[]]:List (List Int))[j / 6 - pre.length]? with
  | none=>rfl
  | some s=>
   have:=K0 hq
   rw [Kq] at this
   subst this; rfl
theorem Qe6 (boxes:List Int) (pre:List (List Int)) (pr:List Int) (b:Int) (hp:pre.length < 4) (hl:pr.length < 6):G81 boxes (pre++[pr++[b]])=(G81 boxes (pre++[pr])).set (pre.length*6+pr.length*1) (codeOf boxes (some b)):=by
 refine Gp.ext_g fun j hj=>?_
 rw [Gp.Q6e _ (by omega),H3d _ _ hj,H3d _ _ hj]
 obtain⟨i,k,hi,hk,rfl⟩:∃ i k,i < 4∧k < 6∧j=i*6+k:=⟨j / 6,j % 6,by omega,by omega,by omega⟩
 rw [show (i*6+k) / 6=i by omega,show (i*6+k) % 6=k by omega]
 by_cases e:i=pre.length
 ·subst e
  have g1:∀ s:List Int,cellAt (pre++[s]) pre.length k=s[k]? := fun s=>G59 (by simp)
  rw [g1,g1]
  by_cases e2:k=pr.length
  ·subst e2; rw [if_pos (by omega)]; simp
  ·rw [if_neg (by omega)]
   rcases Ep k pr.length with h | h
   ·rw [Kd h]
   ·rw [List.getElem?_eq_none (by simp; omega),List.getElem?_eq_none (by omega)]
 ·rw [if_neg (by omega)]
  congr 1
  unfold cellAt
  rcases Ep i pre.length with h | h
  ·rw [Kd h,Kd h]
  ·rw [List.getElem?_eq_none (by simp; omega),List.getElem?_eq_none (by simp; omega)]
theorem J85 {ss:List (List Int)} (h:ss.flatten.length≤180):Yd ss=some ss.flatten:=by
 refine Y1 ?_
 unfold Yd
 refine Qd (fun pre s=>s=(pre.flatten.length:Int)) rfl (fun pre x post s nx e hI h0=>?_) (fun s hI=>?_)
 ·subst hI
  have:pre.flatten.length+x.length≤180:=by
   rw [e,List.flatten_append,List.flatten_cons,Ki,Ki] at h; omega
  refine Qh (by omega) (J0 (fun g=>by have:=Es g; omega) (fun _=>h0 _ ?_))
  rw [List.flatten_append,List.flatten_singleton,Ki]; omega
 ·have hI:s=(ss.flatten.length:Int):=hI
  subst hI
  refine Gg (x:=[]) ?_ ?_
  ·unfold G33 need
   rw [Ev ⟨by omega,by omega,by unfold maxLen; omega⟩]; rfl
  ·refine Qd (fun pre s=>s=pre.flatten) rfl (fun pre x post s nx e hI h0=>?_) (fun s hI=>Hy hI)
   subst hI
   have:pre.flatten.length+x.length≤180:=by
    rw [e,List.flatten_append,List.flatten_cons,Ki,Ki] at h; omega
   refine Jn (Zt (by omega) (by decide)) (h0 _ (by simp))

section
variable {boxes order:List Int} {n:Nat} {H:Int}
theorem Q5e {G:Nat} (hG:9000030 < G) (hb:boxes.length≤5) {Z:List Gb×Option Nat} (hZ:R02 boxes n H Z) {res:(List G7)×Int} (h1:(Z.2=none∧res=([],6))∨∃ i l,Z.2=some i∧J5e Z.1 i l∧l.length≤i∧res=(l.reverse,0)):∀ (f:Nat) {all:List Gb} (at_:Nat),Met boxes n H all→at_≤all.length→7962624 < f+at_→bfs order H f all at_=Z →
  loop (fun nx13 (s13:Int×(List Gb))=>bif decide (s13.1 < (s13.2.length:Int)) then (Qx s13.2 s13.1 fun y19=>bnd (J1 G y19.y order) fun r20=>bif decide (0 < (r20.length:Int)) then (bnd (R9 G s13.2 s13.1) fun r22=>chk (s13.1+1) fun v24=>nx13 (v24,r22)) else (loop (fun nx37 (s37:(List G7)×Int)=>bif decide (0 < s37.2) then (Qx s13.2 s37.2 fun y41=>need (decide (([y41.by_].length+s37.1.length)*16≤140737488355328∧[y41.by_].length+s37.1.length≤maxLen)) <| Qx s13.2 s37.2 fun y43=>nx37 (([y41.by_]++s37.1),y43.from_)) else (some (s37.1,(0:Int)))) G ([],s13.1))) else (some ([],6))) f ((at_:Int),all)=some res
 | 0,all,at_,hA,h5,hf,h0=>by have:=hA.len hb; omega
 | f+1,all,at_,hA,h5,hf,h0=>by
  refine Y1 ?_
  have h7:=hA.len hb
  rw [loop]
  rw [bfs] at h0
  cases hz:all[at_]? with
  | none=>
   have h8:all.length≤at_:=List.getElem?_eq_none_iff.1 hz
   rw [hz] at h0
   dsimp only at h0
   subst h0
   refine J0 (fun h=>by have h:(at_:Int) < (all.length:Int):=Es h; omega) (fun _=>Hy ?_)
   rcases h1 with ⟨_,h⟩ | ⟨i,l,h,_⟩
   ·exact h.symm
   ·cases h
  | some z=>
   have h4:=(Ex hz).1
   have h3:=hA.ok z (K0 hz)
   rw [hz] at h0
   dsimp only at h0
   refine J0 (fun _=>?_) (fun h=>by have h:¬ (at_:Int) < (all.length:Int):=Eu h; omega)
   refine Qf rfl hz ?_
   have ey:z.y=⟨z.y.Stacks,z.y.Height⟩:=rfl
   rw [ey]
   refine Gg (H3a G h3.1.right.all) (J0 (fun h=>?_) (fun h=>?_))
   ·have hw:Qj order z.y.Stacks≠[]:=fun e=>by rw [e] at h; simp at h
    rw [if_neg hw] at h0
    refine Gg (Qf1 (all:=all) hz (fun z hz=>hA.ok z hz) (by omega) (by omega)) (Qh (by dsimp only; omega) ?_)
    have h6:=hA.G3e (G64 z.y.Stacks H.toNat) h4 (H36 h3.1)
    have hl:=(H43 H (at_:Int) (G64 z.y.Stacks H.toNat) all).1
    exact⟨res,Q5e hG hb hZ h1 f (at_+1) h6 (by omega) (by omega) h0,rfl⟩
   ·have hw:Qj order z.y.Stacks=[]:=by
     have h:¬ 0 < ((Qj order z.y.Stacks).length:Int):=Eu h
     exact Em (by omega)
    rw [if_pos hw] at h0
    subst h0
    rcases h1 with ⟨h,_⟩ | ⟨i,l,h,h2,h9,hr⟩
    ·cases h
    ·have hi:at_=i:=Ez h
     subst hi
     refine⟨_,R58 hA G at_ (acc:=[]) h2 (by omega) (by rw [List.length_nil]; omega),?_⟩
     rw [List.append_nil]; exact hr.symm
theorem Q61 {G:Nat} (hG:9000030 < G) (hb:boxes.length≤5) {Z:List Gb×Option Nat} {β:Type} {Q:β→Prop} {K:Int×(Qb Gp Int)×(List Gq)×Int→Option β}
  (hK:∀ m,(Z.2=none→Wp (K (-1,m,Z.1.map (cv boxes),(Z.1.length:Int))) Q)∧∀ i:Nat,Z.2=some i→Wp (K ((i:Int),m,Z.1.map (cv boxes),(i:Int))) Q):∀ (f:Nat) {all:List Gb} {met:Qb Gp Int} (at_:Nat),Met boxes n H all→R8e boxes met all→at_≤all.length→7962624 < f+at_→bfs order H f all at_=Z →
  Wp (loop (fun nx84 (s84:Int×(List Gq)×Int×(Qb Gp Int))=>bif decide (s84.2.2.1 < (s84.2.1.length:Int)) then (Qx s84.2.1 s84.2.2.1 fun y89=>bnd (Rc G y89.s (n:Int) (Gd4 order boxes)) fun r93=>bif r93 then (K (s84.2.2.1,s84.2.2.2,s84.2.1,s84.2.2.1)) else (bnd (Zq y89.s (n:Int) H) fun r96=>bnd (Y2 G (n:Int) y89.s H) fun ys109=>
   each (fun(y109:G2×Gp) i109 (s109:(List Gq)×(Qb Gp Int)) nx109=>bnd (some (Qb.get s109.2 y109.2 0)) fun v112=>bif (!(Qb.has s109.2 y109.2)) then (need (decide ((s109.1.length+[(Gq.mk y109.2 s84.2.2.1 y109.1)].length)*48≤140737488355328∧s109.1.length+[(Gq.mk y109.2 s84.2.2.1 y109.1)].length≤maxLen)) <| nx109 ((s109.1++[(Gq.mk y109.2 s84.2.2.1 y109.1)]),(Qb.put s109.2 y109.2 (s109.1.length:Int)))) else (nx109 (s109.1,s109.2)))
    (fun(s109:(List Gq)×(Qb Gp Int))=>chk (s84.2.2.1+1) fun v118=>nx84 (s84.1,s109.1,v118,s109.2)) ys109 0 (s84.2.1,s84.2.2.2))) else (K (s84.1,s84.2.2.2,s84.2.1,s84.2.2.1))) f (-1,all.map (cv boxes),(at_:Int),met)) Q
 | 0,all,met,at_,hA,hm,h2,hf,h0=>by have:=hA.len hb; omega
 | f+1,all,met,at_,hA,hm,h2,hf,h0=>by
  have h6:=hA.len hb
  rw [loop]
  rw [bfs] at h0
  cases hz:all[at_]? with
  | none=>
   have h7:all.length≤at_:=List.getElem?_eq_none_iff.1 hz
   have h2:at_=all.length:=by omega
   rw [hz] at h0
   dsimp only at h0
   subst h0
   refine J0 (fun h=>by have h:(at_:Int) < ((all.map (cv boxes)).length:Int):=Es h; rw [Kn] at h; omega) (fun _=>?_)
   dsimp only
   rw [h2]
   exact(hK met).1 rfl
  | some z=>
   have h3:=(Ex hz).1
   have h1:=hA.ok z (K0 hz)
   rw [hz] at h0
   dsimp only at h0
   refine J0 (fun _=>?_) (fun h=>by have h:¬ (at_:Int) < ((all.map (cv boxes)).length:Int):=Eu h; rw [Kn] at h; omega)
   refine Qf (m:=at_) (x:=cv boxes z) rfl (by rw [Kf,hz]; rfl) ?_
   refine Gg (Q90 (by omega) h1.1) (J0 (fun h=>?_) (fun h=>?_))
   ·have hw:Qj order z.y.Stacks=[]:=Es h
    rw [if_pos hw] at h0
    subst h0
    exact(hK met).2 at_ rfl
   ·have hw:¬ Qj order z.y.Stacks=[]:=Eu h
    rw [if_neg hw] at h0
    refine Gg (x:=()) rfl (Gg (Qd6 (by omega) h1.1) ?_)
    have h4:=hA.G3e (G64 z.y.Stacks H.toNat) h3 (H36 h1.1)
    have hl:=(H43 H (at_:Int) (G64 z.y.Stacks H.toNat) all).1
    have h8:=Q9c (ss:=z.y.Stacks) (h:=H.toNat) (by rw [h1.1.len]; exact h1.1.few)
    refine R76 (G64 z.y.Stacks H.toNat) 0 hA h3 (H36 h1.1) hm (by omega) (fun met' h5=>Qh (by dsimp only; omega) ?_)
    exact Q61 hG hb hK f (at_+1) h4 h5 (by omega) (by omega) h0
end

theorem R6e {α β:Type} {Q:β→Prop} {m:(α→Option β)→Option β} {k:α→Option β} (h:∀ K,K=k→Wp (m K) Q):Wp (jp m k) Q:=h k rfl
theorem Rc3 {z:Int} (h:0≤z∧z≤255):IntKind.u8.wrap z=z:=by
 simp [IntKind.wrap,IntKind.bits,IntKind.signed]; omega
theorem Qe2 {ss:List (List Int)} (hn:ss.flatten.Nodup) (h5:ss.flatten.length≤5) (h4:ss.length≤4) {β:Type} {Q:β→Prop} {K:Int×Gp→Option β} (hK:Wp (K ((ss.flatten.length:Int),G81 ss.flatten ss)) Q) :
  Wp (each (fun(y40:List Int) i40 (s40:Int×Gp) nx40=>each (fun y70 i70 (s70:Int×Gp) nx70=>bnd (Rm (i40:Int) 3) fun m76=>bnd (Rm (i70:Int) 5) fun m77=>nx70 (IntKind.u8.wrap (s70.1+1),(s70.2.set (m76*6+m77*1) (IntKind.u8.wrap (s70.1+1))))) (fun(s70:Int×Gp)=>nx40 (s70.1,s70.2)) y40 0 (s40.1,s40.2)) K ss 0 (0,Gp.zero)) Q:=by
 refine Qd (fun pre s=>s=((pre.flatten.length:Int),G81 ss.flatten pre)) (by rw [R30]; rfl) (fun pre x post s nx e hI h3=>?_) (fun s hI=>by rw [hI]; exact hK)
 subst hI
 have hp:pre.length < 4:=by
  have:=congrArg List.length e
  simp only [Ki,Ke] at this; omega
 refine Qd (fun pr s=>s=(((pre.flatten.length+pr.length:Nat):Int),G81 ss.flatten (pre++[pr]))) (by rw [Qa4]; rfl) (fun pr b po s nx' e' hJ h1=>?_) (fun s hJ=>h3 _ ?_)
 ·subst hJ
  have hf:ss.flatten=(pre.flatten++pr)++b::(po++post.flatten):=by rw [e,e',List.flatten_append,List.flatten_cons]; simp
  have hl:=congrArg List.length hf
  simp only [Ki,Ke] at hl
  have hb:b ∉ pre.flatten++pr:=fun hb=>by
   rw [hf] at hn
   exact(List.nodup_append.1 hn).2.2 b hb b (by simp) rfl
  have h2:ss.flatten.idxOf b=pre.flatten.length+pr.length:=by
   have:=(Hfa (post:=po++post.flatten)).2 hb
   unfold rnk at this
   rw [hf,this,Ki]
  refine Zv (Rs (m:=pre.length) rfl (by omega) (Zv (Rs (m:=pr.length) rfl (by omega) ?_)))
  have hw:IntKind.u8.wrap (((pre.flatten.length+pr.length:Nat):Int)+1)=((pre.flatten.length+(pr++[b]).length:Nat):Int):=by
   rw [Rc3 (by omega),Ki,Kj]; omega
  dsimp only
  rw [hw]
  refine h1 _ ?_
  rw [Qe6 ss.flatten pre pr b hp (by omega)]
  have h0:codeOf ss.flatten (some b)=((pre.flatten.length+(pr++[b]).length:Nat):Int):=by
   show ((ss.flatten.idxOf b+1:Nat):Int)=_
   rw [h2,Ki,Kj]; omega
  rw [h0]
 ·subst hJ
  rw [List.flatten_append,List.flatten_singleton,Ki]
theorem Qcb {order boxes:List Int} (h:boxes.length≤5) {β:Type} {Q:β→Prop} {K:List Int→Option β} (hK:Wp (K (Gd4 order boxes)) Q) :
  Wp (each (fun(y29:Int) i29 (s29:List Int) nx29=>bnd (Q6 order y29) fun r34=>need (decide ((s29.length+[r34].length)*8≤140737488355328∧s29.length+[r34].length≤maxLen)) <| nx29 (s29++[r34])) K boxes 0 [0]) Q:=by
 refine Qd (fun pre s=>s=Gd4 order pre) rfl (fun pre x post s nx e hI h0=>?_) (fun s hI=>by rw [hI]; exact hK)
 subst hI
 have hp:pre.length < 5:=by
  have:=congrArg List.length e
  simp only [Ki,Ke] at this; omega
 refine Gg (H61 order x) (Jn (Zt (by unfold Gd4; rw [Ke,Kn,Kj]; omega) (by decide)) (h0 _ ?_))
 unfold Gd4
 rw [List.map_append]; rfl
theorem Qf7 {F:Nat} (hF:9000030 < F) (ss:List (List Int)) (H:Int) (order:List Int):∃ l e,Jh F ⟨ss,H⟩ order=some (l.map mv,e)∧Qp F ⟨ss,H⟩ order=some (l,e)∧l.length≤8000000∧(Z5 ss H order→5 < ss.flatten.length∨4 < ss.length→l=[]∧e=5) ∧
  (Z5 ss H order→ss.flatten.length≤5→ss.length≤4→((bfs order H F [⟨⟨ss,H⟩,-1,⟨0,0⟩⟩] 0).2=none∧l=[]∧e=6)∨∃ i b,(bfs order H F [⟨⟨ss,H⟩,-1,⟨0,0⟩⟩] 0).2=some i∧J5e (bfs order H F [⟨⟨ss,H⟩,-1,⟨0,0⟩⟩] 0).1 i b∧l=b.reverse∧e=0):=by
 by_cases hR:Z5 ss H order
 ·have h9:=hR.y.all
  by_cases a4:5 < ss.flatten.length∨4 < ss.length
  ·refine⟨[],5,?_,?_,by simp,fun _ _=>⟨rfl,rfl⟩,fun _ h1 h2=>by omega⟩
   ·unfold Jh
    rw [Ga0,if_pos hR,G04,Ew (by simp),cond_false]
    show (bnd (Yd ss) _)=_
    rw [J85 h9,G04]
    have hd:(decide (5 < (ss.flatten.length:Int))||decide (4 < (ss.length:Int)))=true:=by
     rw [Kt,Km,Km]; omega
    show (bif (decide (5 < (ss.flatten.length:Int))||decide (4 < (ss.length:Int))) then _ else _)=_
    rw [hd]; rfl
   ·unfold Qp
    rw [G26,Ev hR,G04,Bool.not_true,cond_false,J47 (by omega),G04]
    have hd:(decide (5 < (ss.flatten.length:Int))||decide (4 < (ss.length:Int)))=true:=by
     rw [Kt,Km,Km]; omega
    show (bif (decide (5 < (ss.flatten.length:Int))||decide (4 < (ss.length:Int))) then _ else _)=_
    rw [hd]; rfl
  ·have h5:ss.flatten.length≤5:=by omega
   have h4:ss.length≤4:=by omega
   obtain⟨boxes,h6⟩:∃ boxes,boxes=ss.flatten:=⟨_,rfl⟩
   obtain⟨first,h7⟩:∃ first:Gb,first=⟨⟨ss,H⟩,-1,⟨0,0⟩⟩:=⟨_,rfl⟩
   have hS:SmY boxes ss.length H ss:=⟨hR.y,rfl,h4,fun b=>by rw [h6]⟩
   have hA:Met boxes ss.length H [first]:=by
    refine⟨fun z hz=>?_,by simp,⟨first,rfl,by rw [h7]⟩,fun i z hz hi=>?_⟩
    ·rw [Kq] at hz; subst hz; rw [h7]; exact⟨hS,rfl⟩
    ·have:=(Ex hz).1
     simp at this; omega
   obtain⟨Z,hZ⟩:∃ Z,Z=bfs order H F [first] 0:=⟨_,rfl⟩
   have h0:R02 boxes ss.length H Z:=by rw [hZ]; exact Q75 F 0 hA
   have a5:=h0.1.len (by rw [h6]; exact h5)
   obtain⟨res,h8⟩:∃ res:(List G7)×Int,(Z.2=none∧res=([],6))∨∃ i l,Z.2=some i∧J5e Z.1 i l∧l.length≤i∧res=(l.reverse,0):=by
    cases a2:Z.2 with
    | none=>exact⟨_,.inl ⟨rfl,rfl⟩⟩
    | some i=>
     obtain⟨l,h1,h2⟩:=Q76 h0.1 i i (Kb) (h0.2 i a2)
     exact⟨_,.inr ⟨i,l,rfl,h1,h2,rfl⟩⟩
   have a1:res.1.length≤8000000:=by
    rcases h8 with ⟨_,rfl⟩ | ⟨i,l,h1,h2,h3,rfl⟩
    ·simp
    ·have:=h0.2 i h1
     rw [List.length_reverse]; omega
   have hd:(decide (5 < (ss.flatten.length:Int))||decide (4 < (ss.length:Int)))=false:=by
    rw [Ku,decide_eq_false_iff_not,decide_eq_false_iff_not]; omega
   refine⟨res.1,res.2,?_,?_,a1,fun _ h=>by omega,fun _ _ _=>?_⟩
   rotate_left 2
   ·rw [h7] at hZ
    rw [← hZ]
    rcases h8 with ⟨g1,rfl⟩ | ⟨i,l,g1,g2,g3,rfl⟩
    ·exact .inl ⟨g1,rfl,rfl⟩
    ·exact .inr ⟨i,l,g1,g2,rfl,rfl⟩
   ·refine Y1 ?_
    unfold Jh
    refine Gg (Ga0 ss H order) ?_
    rw [if_pos hR]
    refine J0 (fun h=>by simp at h) (fun _=>Gg (J85 h9) (J0 (fun h=>?_) (fun _=>?_)))
    ·have h:(decide (5 < (ss.flatten.length:Int))||decide (4 < (ss.length:Int)))=true:=h
     rw [hd] at h; cases h
    ·rw [← h6]
     refine Qcb (by rw [h6]; exact h5) ?_
     refine Qe2 (ss:=ss) hR.y.nodup h5 h4 ?_
     rw [← h6]
     refine R6e (fun K a0=>?_)
     subst h7
     refine Q61 (K:=K) (boxes:=boxes) (n:=ss.length) (H:=H) (order:=order) (G:=F) (Z:=Z) hF (by rw [h6]; exact h5) (fun m=>⟨fun h=>?_,fun i h=>?_⟩) F (all:=[⟨⟨ss,H⟩,-1,⟨0,0⟩⟩]) (met:=Qb.put (Qb.empty:Qb Gp Int) (G81 boxes ss) 0) 0 hA (fun s=>?_) (by simp) (by omega) hZ.symm
     ·rw [a0]
      refine J0 (fun _=>Hy ?_) (fun h=>by have h:¬ ((-1:Int) < 0):=Eu h; omega)
      rcases h8 with ⟨_,rfl⟩ | ⟨i,l,h1,_⟩
      ·rfl
      ·rw [h] at h1; cases h1
     ·rw [a0]
      refine J0 (fun h=>by have h:(i:Int) < 0:=Es h; omega) (fun _=>?_)
      rcases h8 with ⟨h1,_⟩ | ⟨i',l,h1,h2,h3,rfl⟩
      ·rw [h] at h1; cases h1
      ·rw [h] at h1
       have ei:i=i':=Ez h1
       subst ei
       have a3:=h0.2 i h
       refine⟨_,R59 h0.1 (G:=F) (by omega) F i (out:=[]) h2 (by omega) a3 (by rw [List.length_nil]; omega),?_⟩
       rw [List.nil_append,List.map_reverse]
     ·rw [Qf0,Kt,Km]
      constructor
      ·rintro(g | g)
       ·exact⟨_,Kq.2 rfl,g⟩
       ·exact absurd g (by simp [Qb.has,Qb.empty,G01])
      ·rintro⟨z,hz,g⟩
       rw [Kq] at hz
       subst hz
       exact .inl g
   ·refine Y1 ?_
    unfold Qp
    refine Gg (G26 F ss H order) ?_
    rw [Ev hR]
    refine J0 (fun h=>by cases h) (fun _=>Gg (J47 (by omega)) (J0 (fun h=>?_) (fun _=>?_)))
    ·have h:(decide (5 < (ss.flatten.length:Int))||decide (4 < (ss.length:Int)))=true:=h
     rw [hd] at h; cases h
    ·have:=Q5e (boxes:=boxes) (order:=order) (G:=F) hF (by rw [h6]; exact h5) h0 h8 F (all:=[first]) 0 hA (by simp) (by omega) hZ.symm
     rw [h7] at this
     exact⟨_,this,rfl⟩
 ·refine⟨[],2,?_,?_,by simp,fun h=>(hR h).elim,fun h=>(hR h).elim⟩
  ·unfold Jh
   rw [Ga0,if_neg hR]; rfl
  ·unfold Qp
   rw [G26,Ew hR]; rfl
theorem J8e {l:List G7} (h:l.length≤8000000):Q2 l=some (l.map mv):=by
 refine Y1 ?_
 unfold Q2
 refine Qd (fun pre s=>s=pre.map mv) rfl (fun pre x post s nx e hI h0=>?_) (fun s hI=>Hy hI)
 subst hI
 have hp:pre.length < 8000000:=by
  have:=congrArg List.length e
  simp only [Ki,Ke] at this; omega
 refine Jn (Zt (by rw [Kn,Kj]; omega) (by decide)) (h0 _ ?_)
 rw [List.map_append]; rfl
open Go.RowKit Go.Sort Go.Shelf

theorem Jdf {F:Nat} (hF:400 < F) {y:Gh} {order:List Int} (h1:∀ s∈y.Stacks,s.length≤10) (h2:y.Stacks.length≤32) (h3:order.length≤60):Rg F y order=some true:=by
 refine Y1 ?_
 unfold Rg
 have hs:∀ s∈y.Stacks,s.length≤1048576:=fun s hs=>by have:=h1 s hs; omega
 obtain⟨l,e,hp,hr,hl,_⟩:=H1d hF y.Stacks y.Height (order:=order) (by omega)
 obtain⟨so,s1,s2⟩:=Je3 hF (ss:=y.Stacks) (H:=y.Height) (order:=order)
 refine Gg (Q46 (by omega) hs) (Gg (Gdc (by omega)) ?_)
 show Wp (bnd (Zk ⟨(y.Stacks.map H6e).map Prod.fst,y.Height⟩ order) fun r7=>bnd (R1 F ⟨y.Stacks,y.Height⟩ order) fun r9=>bnd (Zj ⟨(y.Stacks.map H6e).map Prod.fst,y.Height⟩ order) fun r11=>bnd (R4 F ⟨y.Stacks,y.Height⟩ order) fun r13=>bnd (Q0 F ⟨(y.Stacks.map H6e).map Prod.fst,y.Height⟩ order) _) _
 rw [Hcc]
 refine Gg s1 (Gg s2 (Gg R37 (Gg (Q79 hF) (Gg hp (Gg hr ?_)))))
 generalize (if Z5 y.Stacks y.Height order then (G11 (Qj order y.Stacks),(0:Int)) else ([],2))=w
 have h0:(so.1==so.1&&decide (so.2=so.2))=true:=by simp
 rw [h0]
 refine Zm rfl (G93 _) ?_
 have hw:decide (w.2=w.2)=true:=Ev rfl
 rw [hw]
 refine Zm rfl (J8e hl) (Zm rfl (G48 _) ?_)
 have he:decide ((l.map mv,e).2=(l,e).2)=true:=Ev rfl
 rw [he]
 exact Zm rfl (Ja2 (by omega) hs) (Zm rfl (Gde (by omega)) (Hy rfl))
theorem Qe4 {F:Nat} (hF:9000030 < F) {y:Gh} {order:List Int} (h1:∀ s∈y.Stacks,s.length≤10) (h2:y.Stacks.length≤32) (h3:order.length≤60):Y9 F y order=some true:=by
 refine Y1 ?_
 unfold Y9
 have hs:∀ s∈y.Stacks,s.length≤1048576:=fun s hs=>by have:=h1 s hs; omega
 obtain⟨l,e,hp,hr,hl,_⟩:=Qf7 hF y.Stacks y.Height order
 refine Gg (Q46 (by omega) hs) (Gg (Gdc (by omega)) ?_)
 show Wp (bnd (Jh F ⟨(y.Stacks.map H6e).map Prod.fst,y.Height⟩ order) _) _
 rw [Hcc]
 refine Gg hp (Gg hr ?_)
 have he:decide ((l.map mv,e).2=(l,e).2)=true:=Ev rfl
 rw [he]
 exact Zm rfl (J8e hl) (Zm rfl (G48 _) (Zm rfl (Ja2 (by omega) hs) (Zm rfl (Gde (by omega)) (Hy rfl))))

def J5d (F:Nat) (y:Gh) (order:List Int):Prop:=9000030 < F∧(∀ s∈y.Stacks,s.length≤10)∧y.Stacks.length≤32∧order.length≤60
instance {F:Nat} {y:Gh} {order:List Int}:Decidable (J5d F y order):=inferInstanceAs (Decidable (_∧_∧_∧_))
def Qi (F:Nat) (y:Gh) (order:List Int) (l:List G2):Option Bool:=if J5d F y order∧l.length≤60 then some true else none
def Qm (F:Nat) (y:Gh) (order:List Int):Option Bool:=if J5d F y order then some true else none
def Q7 (F:Nat) (y:Gh) (order:List Int):Option Bool:=if J5d F y order then some true else none
theorem Qa8 {F:Nat} {y:Gh} {order:List Int} {l:List G2} {r:Bool} (h:Qi F y order l=some r):Y3 F y order l=some r:=by
 unfold Qi at h
 split at h
 ·rename_i hc
  cases h
  exact Qa9 F hc.1.2.1 hc.1.2.2.1 hc.1.2.2.2 hc.2
 ·cases h
theorem Jde {F:Nat} {y:Gh} {order:List Int} {r:Bool} (h:Qm F y order=some r):Rg F y order=some r:=by
 unfold Qm at h
 split at h
 ·rename_i hc
  cases h
  exact Jdf (Nat.lt_trans (by decide) hc.1) hc.2.1 hc.2.2.1 hc.2.2.2
 ·cases h
theorem Qe3 {F:Nat} {y:Gh} {order:List Int} {r:Bool} (h:Q7 F y order=some r):Y9 F y order=some r:=by
 unfold Q7 at h
 split at h
 ·rename_i hc
  cases h
  exact Qe4 hc.1 hc.2.1 hc.2.2.1 hc.2.2.2
 ·cases h
def Yg:=PLift.up (fun F y order l r h=>Gce F y order l r (Qa8 h))
def Zd:=PLift.up (fun F y order r h=>Gae F y order r (Jde h))
def Yp:=PLift.up (fun F y order r h=>Ged F y order r (Qe3 h))
set_option linter.unusedVariables false

section ops
variable {P:Program} {o:Oper} {l:Fr} {L:Loc}
theorem Qb7 (i:Nat) {x y:Operand} {T E by_ n:Nat} {kd kd':IntKind} {nx ny:Int} (ho:o.op=.makeSlice T x y) (hx:ev l x=.sc (.int kd nx)) (hy:ev l y=.sc (.int kd' ny)) (hi:lk L i=none)
  (hT:sliceB P T E 1=true) (hE:Qk P E 1 by_=true) (hz:(P.info? E).bind (fun i=>i.zero.map Value.cells)=some #[.slice none 0 0]) (hn:nx=(n:Int)) (hm:ny=(n:Int)) (hb:by_*n≤281474976710656∧n≤maxLen) :
  Gn P o l L (Is (.ms i 0 n n) ((i,.box E (List.replicate n (.sc (.slice none 0 0))))::L)):=by
 subst hn hm
 intro a w β K Q h0 hf hK
 obtain⟨inf,zv,e1,e2,e3,e4,e5,e6⟩:=Qk.out hE
 have h1:=hf.ev x
 rw [hx] at h1
 have h2:=hf.ev y
 rw [hy] at h2
 have h3:(n:Int)≤9223372036854775807:=by
  have h:=hb.2
  simp [maxLen] at h
  omega
 have h5:(inf.bytes:Int)*(n:Int)≤281474976710656:=by
  have h:((inf.bytes*n:Nat):Int)≤281474976710656:=by rw [e3]; have:=hb.1; omega
  rwa [Int.natCast_mul] at h
 have hr:=run_make (P:=P) w T E inf zv (sliceB.out hT).1 e1 e4 kd kd' n n (by omega) (Int.le_refl _) h5 h3
 simp only [Int.toNat_natCast] at hr
 have h4:(execOp a.eval o).run P w=.ok (.value (.slice (some ⟨w.heap.size,0,none⟩) n n)) (w.alloc (.cells (madeCells zv.cells (n*inf.size)) E)):=by
  simp [execOp,ho,h1.inv_sc,h2.inv_sc,hr]
 unfold Oper.wp
 rw [h4]
 have h6:zv.cells=#[.slice none 0 0]:=by
  rw [e1] at hz
  simp [e4] at hz
  exact hz
 rw [h6,e2]
 refine hK _ _ _ _ (upP β i (some w.heap.size)) ⟨rfl,rfl⟩ (h0.alloc hi _ (fun hs=>⟨_,rfl,madeCells #[.slice none 0 0] (n*1),heap_alloc_new w _,by rw [size_madeCells]; simp,fun j u v hu hv=>?_⟩)) (Step.alloc hi h0.bnd _) (.ms (t:=E) (by simp [G9]; rfl) (by simp [upP]) (Kb) hb.2)
 have h7:=List.eq_of_mem_replicate (K0 hu)
 subst h7
 have hj:=(Ej hv).1
 simp [size_madeCells] at hj
 rw [madeCells] at hv
 simp [hj] at hv
 have:j % 1=0:=Nat.mod_one j
 simp [this] at hv
 subst hv
 exact .sc
theorem Q85 {x ix:Operand} {T E i off n cap m t:Nat} {cs:List AV} {kd:IntKind} {z:Int} (ho:o.op=.indexAddr T x ix) (hx:ev l x=.ms i off n cap) (hi:ev l ix=.sc (.int kd z)) (hL:lk L i=some (.box t cs)) (hT:sliceB P T E 1=true) (hz:z=(m:Int)) (hm:m < n):Gn P o l L (Is (.ptr i (off+m)) L):=
 H2 fun a w β _ hf=>by
  subst hz
  have h1:=hf.ev x
  rw [hx] at h1
  have h2:=hf.ev ix
  rw [hi] at h2
  obtain⟨b,hb,he,hn,hc⟩:=h1.ms_inv
  have hr:=Ja (sliceB.out hT).2 w
  refine⟨_,?_,.ptr hL hb⟩
  simp [execOp,ho,Instr.indexAt,h2.inv_sc,he,asIntOf,underlying,(sliceB.out hT).1,hm,hr,Addr.add_lit]
end ops

def Gab (p t:Nat) (rows:List (List Int)):Loc:=(List.range 6).map fun j=>(p+j,J3.spare t 1 (rows.getD j []).length (rows.getD j []).length)
def G31 (p:Nat) (rows:List (List Int)):List AV:=rows.mapIdx fun j s=>OW (p+j) 1 I64 s
theorem Gc1 (p:Nat) (rows:List (List Int)):(G31 p rows).length=rows.length:=by simp [G31]
theorem Gf5 {p:Nat} {rows:List (List Int)} {j:Nat} {s:List Int} (h:rows[j]? = some s):(G31 p rows)[j]? = some (OW (p+j) 1 I64 s):=by simp [G31,h]
theorem H7f (p t:Nat) (rows:List (List Int)):Gab p t rows=[(p,.spare t 1 (rows.getD 0 []).length (rows.getD 0 []).length),(p+1,.spare t 1 (rows.getD 1 []).length (rows.getD 1 []).length),(p+2,.spare t 1 (rows.getD 2 []).length (rows.getD 2 []).length),(p+3,.spare t 1 (rows.getD 3 []).length (rows.getD 3 []).length),(p+4,.spare t 1 (rows.getD 4 []).length (rows.getD 4 []).length),(p+5,.spare t 1 (rows.getD 5 []).length (rows.getD 5 []).length)]:=rfl
theorem Gf4 {p t:Nat} {rows:List (List Int)} {L:Loc} {j:Nat} (hj:j < 6):lk (Gab p t rows++L) (p+j)=some (.spare t 1 (rows.getD j []).length (rows.getD j []).length):=by
 have hj:j=0∨j=1∨j=2∨j=3∨j=4∨j=5:=by omega
 rw [H7f]
 rcases hj with rfl | rfl | rfl | rfl | rfl | rfl <;> simp [G9]
theorem H15 {p t:Nat} {rows:List (List Int)} {L:Loc} {i:Nat} (hi:i < p∨p+6≤i):lk (Gab p t rows++L) i=lk L i:=by
 rw [H7f]
 simp only [List.cons_append,List.nil_append,G9]
 rw [if_neg (by omega),if_neg (by omega),if_neg (by omega),if_neg (by omega),if_neg (by omega),if_neg (by omega)]
theorem Q22 {p t:Nat} {rows:List (List Int)} {L:Loc} {j:Nat} {s:List Int} (hj:j < rows.length) (h6:j < 6):G7b ((p+j,.spare t 1 s.length s.length)::(Gab p t rows++L)) (Gab p t (rows.set j s)++L):=fun id=>by
 rw [G9]
 by_cases e:p+j=id
 ·subst e
  rw [if_pos rfl,Gf4 h6]
  have:(rows.set j s).getD j []=s:=by rw [List.getD_eq_getElem?_getD,List.getElem?_set_self hj]; rfl
  rw [this]
 ·rw [if_neg e]
  by_cases h:id < p∨p+6≤id
  ·rw [H15 h,H15 h]
  ·obtain⟨m,rfl⟩:∃ m,id=p+m:=⟨id - p,by omega⟩
   rw [Gf4 (by omega),Gf4 (by omega)]
   have:(rows.set j s).getD m []=rows.getD m []:=by rw [List.getD_eq_getElem?_getD,List.getD_eq_getElem?_getD,List.getElem?_set_ne (by omega)]
   rw [this]
theorem Qaa {p:Nat} {rows:List (List Int)} {j:Nat} {s:List Int}:(G31 p rows).set j (OW (p+j) 1 I64 s)=G31 p (rows.set j s):=by
 apply List.ext_getElem?
 intro i
 simp only [G31,List.getElem?_mapIdx,List.getElem?_set,List.length_mapIdx]
 by_cases e:j=i
 ·subst e
  by_cases h:j < rows.length <;> simp [h]
 ·simp [e]
theorem Jy.locEq' {N:Cfg} {w0 w:World} {β0 β:Gx} {L0 L L':Loc} {a:Act} {l:Fr} (hs:Jy N w0 β0 L0 a w β l L) (e:G7b L L'):Jy N w0 β0 L0 a w β l L':=
 ⟨hs.sat.locEq e,hs.step.locEq e,⟨fun t=>(hs.frame.tmp t).locEq e⟩,hs.size,hs.base,hs.defers.sub fun id D h1 h2=>⟨id,by rw [e id]; exact h1,h2⟩⟩
theorem Qfd {P:Program} {N:Cfg} {c:Code} {Q:Post} {l:Fr} {L L':Loc} (e:G7b L L') (hk:JC P N c Q l L'):JC P N c Q l L:=fun n w0 β0 L0 a w β hs=>hk n w0 β0 L0 a w β (hs.locEq' e)
theorem Jy.newSpare {N:Cfg} {w0 w:World} {β0 β:Gx} {L0 L:Loc} {a:Act} {l:Fr} (hs:Jy N w0 β0 L0 a w β l L) (id E k:Nat) (hid:lk L id=none):Jy N w0 β0 L0 a w (upP β id none) l ((id,.spare E k 0 0)::L):=by
 have st:=G86 (w:=w) (β:=β) E k hid
 exact⟨H4f E k hs.sat hid,hs.step.trans st,hs.frame.step st,hs.size,hs.base,hs.defers.step st⟩
theorem Qd4 {w:World} {β:Gx} {L:Loc} {i E:Nat} (hi:lk L i=some (.spare E 1 0 0)) (hb:β i=none):V w β L (.own i 0 1 []) (.slice none 0 0):=
 .own (.nil (Nat.zero_le _)) ⟨E,0,0,hi,Kb,fun _=>⟨rfl,by simp [Value.ownBlock,hb],[],⟨by simp,.inl ⟨rfl,rfl⟩⟩,fun j u hu=>by simp [flat] at hu⟩⟩
theorem Jcc (n j:Nat):(List.replicate n ([]:List Int)).getD j []=[]:=by
 rw [List.getD_eq_getElem?_getD,List.getElem?_replicate]; split <;> rfl
theorem Jy.rowBegin {N:Cfg} {w0 w:World} {β0 β:Gx} {L0 L:Loc} {a:Act} {l:Fr} (hs:Jy N w0 β0 L0 a w β l L) (i p T E n:Nat) (hi:lk L i=some (.box T (List.replicate n (.sc (.slice none 0 0))))) (hn:n≤6) (h8:i < p∨p+6≤i) (hp:∀ j,j < 6→lk L (p+j)=none) :
  ∃ β',Jy N w0 β0 L0 a w β' l ((i,.box T (G31 p (List.replicate n [])))::(Gab p E (List.replicate n [])++L)):=by
 have h5:=hs.newSpare (p+5) E 1 (hp 5 (by decide))
 have h4:=h5.newSpare (p+4) E 1 (by rw [G9,if_neg (by omega)]; exact hp 4 (by decide))
 have h3:=h4.newSpare (p+3) E 1 (by rw [G9,if_neg (by omega),G9,if_neg (by omega)]; exact hp 3 (by decide))
 have h2:=h3.newSpare (p+2) E 1 (by rw [G9,if_neg (by omega),G9,if_neg (by omega),G9,if_neg (by omega)]; exact hp 2 (by decide))
 have h1:=h2.newSpare (p+1) E 1 (by rw [G9,if_neg (by omega),G9,if_neg (by omega),G9,if_neg (by omega),G9,if_neg (by omega)]; exact hp 1 (by decide))
 have h0:=h1.newSpare p E 1 (by rw [G9,if_neg (by omega),G9,if_neg (by omega),G9,if_neg (by omega),G9,if_neg (by omega),G9,if_neg (by omega)]; exact hp 0 (by decide))
 have eL:((p,J3.spare E 1 0 0)::(p+1,.spare E 1 0 0)::(p+2,.spare E 1 0 0)::(p+3,.spare E 1 0 0)::(p+4,.spare E 1 0 0)::(p+5,.spare E 1 0 0)::L)=Gab p E (List.replicate n [])++L:=by
  rw [H7f]
  simp only [Jcc,List.length_nil]
  rfl
 rw [eL] at h0
 have h6:∀ j,j < 6→(upP (upP (upP (upP (upP (upP β (p+5) none) (p+4) none) (p+3) none) (p+2) none) (p+1) none) p none).at_ (p+j)=none:=fun j hj=>by
  have hj:j=0∨j=1∨j=2∨j=3∨j=4∨j=5:=by omega
  rcases hj with rfl | rfl | rfl | rfl | rfl | rfl <;> simp [upP]
 generalize (upP (upP (upP (upP (upP (upP β (p+5) none) (p+4) none) (p+3) none) (p+2) none) (p+1) none) p none)=β' at h0 h6
 refine⟨β',h0.redescribe (i:=i) (t:=T) (cs:=List.replicate n (.sc (.slice none 0 0))) (by rw [H15 h8]; exact hi) (by rw [List.length_replicate,Gc1,List.length_replicate]) fun vs q u v h7 a0 hu hv=>?_⟩
 have hq:q < n:=by
  have:=(Ex hu).1
  rwa [Gc1,List.length_replicate] at this
 have h9:=h7 q _ v (by rw [List.getElem?_replicate,if_pos hq]) hv
 rw [h9.inv_sc]
 rw [Gf5 (by rw [List.getElem?_replicate,if_pos hq])] at hu
 have hu:=Ez hu
 subst hu
 exact Qd4 (E:=E) (by rw [Gf4 (by omega),Jcc]; rfl) (h6 q (by omega))
theorem Je6 {P:Program} {N:Cfg} {ops:Array Oper} {rest:List Oper} {Q:Post} {l:Fr} {L:Loc} (i p T E n:Nat) (hi:lk L i=some (.box T (List.replicate n (.sc (.slice none 0 0))))) (hn:n≤6) (h0:i < p∨p+6≤i) (hp:∀ j,j < 6→lk L (p+j)=none)
  (hk:JL P N ops rest Q l ((i,.box T (G31 p (List.replicate n [])))::(Gab p E (List.replicate n [])++L))):JL P N ops rest Q l L:=fun n w0 β0 L0 a w β hs=>by
 obtain⟨β',h⟩:=hs.rowBegin i p T E _ hi hn h0 hp
 exact hk n w0 β0 L0 a w β' h
theorem J76 (rows:List (List Int)):flat (rows.map (LS 1 I64))=rows.map (LS 1 I64):=by
 induction rows with
 | nil=>rfl
 | cons y r ih=>show LS 1 I64 y::flat (r.map (LS 1 I64))=_; rw [ih]; rfl
theorem Jy.rowFree {N:Cfg} {w0 w:World} {β0 β:Gx} {L0 L L':Loc} {a:Act} {l l':Fr} (hs:Jy N w0 β0 L0 a w β l L) {Y i p tY T:Nat} {rows:List (List Int)} {r:List AV} (hY:lk L Y=some (.box tY (.ms i 0 rows.length rows.length::r))) (hi:lk L i=some (.box T (G31 p rows)))
  (hf:Fits N.base l L l' L') (h6:lk L' Y=some (.box tY (.junk::r))) (h7:lk L' i=none):Jy N w0 β0 L0 a w β l' ((Y,.box tY (LS 1 (LS 1 I64) rows::r))::L'):=by
 have h8:=hs.fits hf
 obtain⟨bY,g1,ys,g2,g3,g4⟩:=hs.sat.obj Y _ hY
 obtain⟨bi,k1,vs,k2,k3,k4⟩:=hs.sat.obj i _ hi
 refine h8.redescribeB (i:=Y) (t:=tY) (cs:=.junk::r) h6 rfl fun zs j u v hz h0 a3 hu hv=>?_
 obtain⟨b2,h1,h2⟩:=hz
 have:b2=bY:=by rw [g1] at h1; exact(Ez h1).symm
 subst this
 rw [g2] at h2
 have:ys=zs:=by simpa using h2
 subst this
 cases j with
 | succ j=>exact h0 (j+1) u v hu hv
 | zero=>
  have hu:LS 1 (LS 1 I64) rows=u:=Ez hu
  subst hu
  have h9:=g4 0 _ v rfl hv
  obtain⟨b3,h3,a0,_,h4⟩:=h9.ms_inv
  have:b3=bi:=by rw [k1] at h3; exact(Ez h3).symm
  subst this
  subst a0
  have stab:∀ j,J5 w β L' b3 j:=fun j=>⟨(Ej k2).1,fun hh=>hs.sat.apart i b3 j (by rw [hi]; rfl) k1 hh,fun id o ho hid=>by
   have h5:=hf.drop.some (id:=id) (by rw [ho]; rfl)
   have:=hs.sat.inj id i b3 h5 (by rw [hi]; rfl) hid k1
   subst this
   rw [h7] at ho; cases ho⟩
  have a4:vs.size=rows.length:=by rw [k3,Gc1]
  show V w β L' (.list 1 (rows.map (LS 1 I64))) (.slice (some ⟨b3,0,none⟩) rows.length rows.length)
  refine .data ?_
  have e0:rows.length=(rows.map (LS 1 I64)).length:=(Kn _).symm
  conv=>rhs; rw [e0]
  refine .list (fun k=>vs.getD k undef) (by simp) (by simpa using h4) (fun y hy=>by obtain⟨z,_,rfl⟩:=Kp.1 hy; rfl) (fun k hk=>⟨by rw [Nat.zero_add]; exact stab k,?_⟩) (fun k u hu=>?_)
  ·rw [J76,Kn] at hk
   have a1:k < vs.size:=by omega
   simp [World.cell?,k2,a1]
  ·rw [J76] at hu
   have hk:k < vs.size:=by
    have:=(Ex hu).1
    rw [Kn] at this; omega
   obtain⟨s,a2,rfl⟩:=Option.map_eq_some_iff.1 (by rw [Kf] at hu; exact hu)
   have hV:=k4 k _ vs[k] (Gf5 a2) (by simp [hk])
   have hc:=hV.conv hf.drop (u':=LS 1 I64 s) (.list rfl)
   have hD:=hc.toD rfl
   simpa [Array.getD_eq_getD_getElem?,hk] using hD
theorem Q4a {P:Program} {N:Cfg} {c:Code} {Q:Post} {l:Fr} {L:Loc} (l':Fr) (L':Loc) {Y i p tY T:Nat} {rows:List (List Int)} {r:List AV} (hY:lk L Y=some (.box tY (.ms i 0 rows.length rows.length::r))) (hi:lk L i=some (.box T (G31 p rows)))
  (hf:Fits N.base l L l' L') (h0:lk L' Y=some (.box tY (.junk::r))) (h1:lk L' i=none) (hk:JC P N c Q l' ((Y,.box tY (LS 1 (LS 1 I64) rows::r))::L')):JC P N c Q l L:=fun n w0 β0 L0 a w β hs=>hk n w0 β0 L0 a w β (hs.rowFree hY hi hf h0 h1)

/-! ### A guard that is known to hold -/
section guards
variable {P:Program} {N:Cfg} {ops:Array Oper} {o:Oper} {rest:List Oper} {Q:Post} {l:Fr} {L L':Loc} {u:AV}
theorem G41 {j dj d:Nat} {want:Bool} {gv:AV} (hg:o.guard=some (j,want)) (hj:(ops[j]?).bind (·.dst)=some dj) (h2:look l dj=gv) (h3:Gdf gv want true) (h:Gn P o l L (Is u L')) (hk:JL P N ops rest Q ((d,u)::l) L')
  (hd:o.dst=some d) (hn:Nat.blt d N.n=true) (h4:Nat.blt dj N.n=true) (h5:Zu o=true:=by rfl):JL P N ops (o::rest) Q l L:=by
 subst h2
 intro n w0 β0 L0 a w β hs
 have hw:=h3.wanted (ops:=ops) hs.frame (Ek (by simpa [Nat.blt_eq] using h4) hs.size) hg hj
 have h6:d < a.tmps.size:=Ek (by simpa [Nat.blt_eq] using hn) hs.size
 refine wpListIn_step fun K hK=>?_
 rw [hw,if_pos rfl]
 refine G83 h5 (h a w β K _ hs.sat hs.frame ?_)
 intro u' L'' v w' β' hr h1 h0 hv
 obtain⟨rfl,rfl⟩:=hr
 rw [hd]
 exact hK _ _ (hk n w0 β0 L0 _ w' β' ⟨h1,hs.step.trans h0,(hs.frame.step h0).put h6 hv,by rw [Act.put_size]; exact hs.size,hs.base,by rw [Act.put_defers']; exact hs.defers.step h0⟩)
theorem H71 {j dj:Nat} {want:Bool} {gv:AV} (hg:o.guard=some (j,want)) (hj:(ops[j]?).bind (·.dst)=some dj) (h1:look l dj=gv) (h2:Gdf gv want true) (h:Gn P o l L (Is u L')) (h3:Nat.blt dj N.n=true:=by rfl):G0d P N ops o l L u L':=by
 subst h1
 intro a w β K Q h0 hf hn hK
 have hw:=h2.wanted (ops:=ops) hf (Ek (by simpa [Nat.blt_eq] using h3) hn) hg hj
 rw [hw,if_pos rfl]
 exact h a w β K Q h0 hf (fun u' L'' v w' β' hr=>by obtain⟨rfl,rfl⟩:=hr; exact hK v w' β')
theorem Hc0 {c x y:Operand} (b:Bool) (ho:o.op=.pick c x y) (hc:ev l c=.sc (.bool b)) (hu:(bif b then ev l x else ev l y)=u):Gn P o l L (Is u L):=by
 subst hu
 exact R9b ho hc
end guards
set_option linter.unusedSimpArgs false

def Gba (n:Int):Nat→Nat→Int→List (List Int)→List (List Int)
 | 0,_,_,rows=>rows
 | f+1,b,left,rows=>Gba n f (b+1) (left.tdiv 3) (rows.set (left.tmod 3).toNat (rows.getD (left.tmod 3).toNat []++[((b:Int)+n.tmod 2).tmod 4+1]))
def J83 (n:Int):Option (List (List Int)):=need (decide (0≤n∧n≤1000)) <| some (Gba n 4 1 (n.tdiv 3) [[],[],[]])
namespace SpecSF
theorem G4b:Ry Tryz.prog 25 0 0=true:=by kernel_rfl
theorem H82:Qs Tryz.prog 23=true:=by kernel_rfl
theorem scS:Qs Tryz.prog 22=true:=by kernel_rfl
theorem H64:sliceB Tryz.prog 23 22 1=true:=by kernel_rfl
theorem slS:sliceB Tryz.prog 22 3 1=true:=by kernel_rfl
theorem elS:Qk Tryz.prog 22 1 24=true:=by kernel_rfl
theorem elI:Qk Tryz.prog 3 1 8=true:=by kernel_rfl
theorem szS:Rw Tryz.prog 22 1=true:=by kernel_rfl
theorem szY:Rw Tryz.prog 25 2=true:=by kernel_rfl
theorem Jaa:Qe Tryz.prog 25 2=true:=by kernel_rfl
theorem R6c:Qe Tryz.prog 3 1=true:=by kernel_rfl
theorem plY:placesOf Tryz.prog 25=some [(0,1),(1,1)]:=by kernel_rfl
theorem Hde:(Tryz.prog.info? 25).bind (fun i=>i.zero.map Value.cells)=some [.slice none 0 0,.int .i64 0].toArray:=by kernel_rfl
theorem Rc1:(Tryz.prog.info? 22).bind (fun i=>i.zero.map Value.cells)=some #[.slice none 0 0]:=by kernel_rfl
theorem mixed:Tryz.prog.follows .mixedOrders=true:=by kernel_rfl
end SpecSF
theorem R74 {P:Nat→Prop} (h:P 0∧P 1∧P 2∧P 3∧P 4∧P 5) (j:Nat) (hj:j < 6):P j:=by
 have hj:j=0∨j=1∨j=2∨j=3∨j=4∨j=5:=by omega
 obtain⟨h0,h1,h2,h3,h4,h5⟩:=h
 rcases hj with rfl | rfl | rfl | rfl | rfl | rfl <;> assumption
theorem R2b {rows:List (List Int)} {s:List Int} {v:Int} {m j:Nat} (h0:∀ t∈rows,t.length≤j) (hs:s.length≤j):∀ t∈rows.set m (s++[v]),t.length≤j+1:=fun t ht=>by
 rcases List.mem_or_eq_of_mem_set ht with ht | rfl
 ·have:=h0 t ht; omega
 ·rw [Ki,Kj]; omega
def Mos (h:Int) (rows:List (List Int)):Loc:=(40000003,.box 25 [.ms 40000030 0 3 3,I64 h])::(40000030,.box 22 (G31 40000900 rows))::(Gab 40000900 3 rows++[])
theorem Qdc {h:Int} {rows:List (List Int)} {j:Nat} (hj:j < 6):lk (Mos h rows) (40000900+j)=some (.spare 3 1 (rows.getD j []).length (rows.getD j []).length):=by
 unfold Mos
 rw [G9,if_neg (by omega),G9,if_neg (by omega),Gf4 hj]
theorem J6e {h:Int} {rows:List (List Int)} (hn:rows.length≤6):∀ (j:Nat) u u',(G31 40000900 rows)[j]? = some u→(G31 40000900 rows)[j]? = some u'→Conv (fun i=>(lk (Mos h rows) i).isSome) u u':=fun j u u' hu h0=>by
 rw [hu] at h0; cases h0
 have hj:j < rows.length:=by
  have:=(Ex hu).1
  rwa [Gc1] at this
 rw [Gf5 (Ey hj)] at hu
 have hu:=Ez hu
 subst hu
 refine .same ?_
 have h1:(lk (Mos h rows) (40000900+j)).isSome=true:=by rw [Qdc (by omega)]; rfl
 exact h1
theorem Qd7 {h:Int} {rows:List (List Int)} (hn:rows.length≤6):G7e (fun i=>(lk (Mos h rows) i).isSome) (Mos h rows) (Mos h rows):=
 ⟨⟨_,rfl,.boxEq rfl rfl⟩,⟨_,rfl,.box rfl (J6e hn)⟩,⟨_,rfl,.same⟩,⟨_,rfl,.same⟩,⟨_,rfl,.same⟩,⟨_,rfl,.same⟩,⟨_,rfl,.same⟩,⟨_,rfl,.same⟩,trivial⟩
theorem R28 {h:Int} {rows:List (List Int)} {j:Nat} {s:List Int} (hj:j < rows.length) (h6:j < 6):G7b ((40000030,.box 22 (G31 40000900 (rows.set j s)))::(40000900+j,.spare 3 1 s.length s.length)::Mos h rows) (Mos h (rows.set j s)):=fun id=>by
 have h0:=Q22 (p:=40000900) (t:=3) (L:=[]) (s:=s) hj h6 id
 unfold Mos
 rw [G9] at h0
 simp only [G9]
 by_cases e3:40000030=id
 ·subst e3; rw [if_pos rfl,if_neg (by omega),if_pos rfl]
 ·rw [if_neg e3,if_neg e3]
  by_cases e2:40000003=id
  ·subst e2; rw [if_neg (by omega),if_pos rfl,if_pos rfl]
  ·rw [if_neg e2,if_neg e2,if_neg e3]; exact h0
end Go.Proofs.YtokjlondbjdlfaaGreat
