/- SimCalls: -/
import Derived.Test.YtgcpimpnpcdmmaaGreatSimR
import Derived.Test.YtgcpimpnpcdmmaaGreatXP
set_option maxRecDepth 100000
set_option linter.unusedVariables false
namespace Go.Proofs.YtgcpimpnpcdmmaaGreat
open Go.RowKit
theorem Yb8 {F:Nat} (hF:60≤F) (places:List Hi) (covers:Int) (items:List Hc) (hp:∀ p∈places,Q5a p) (hi:∀ x∈items,R61 x) :
  Wp (Yt F places covers items) (fun r=>Hb2 r.1∧Gb1 4 r.2.1∧Jfc r.1 r.2.1 4 r.2.2):=by
 unfold Yt
 refine H6 (wp_mono (Y39 places covers hp) (fun s hs=>?_))
 exact H6 (wp_mono (Rc3 (Q3e hs) hi (by decide) hF) (fun r hr=>Gm ⟨hs,hr.1,hr.2⟩))
theorem Y17 (l:List G1):Q8 l l=some true:=by
 refine G28 ?_
 unfold Q8
 refine Hs (fun h=>((M1 h) rfl).elim) (fun _=>?_)
 refine Jg (fun _ _=>True) trivial (fun pre y post u nx e _ h0=>?_) (fun u _=>Gm rfl)
 refine Zb (x:=y) rfl (by rw [e]; simp) (Hs (fun h=>?_) (fun _=>h0 _ trivial))
 rw [M3 (rfl:y=y)] at h
 cases h
theorem Y18 (l:List Int):Qj l l=some true:=by
 refine G28 ?_
 unfold Qj
 refine Hs (fun h=>((M1 h) rfl).elim) (fun _=>?_)
 refine Jg (fun _ _=>True) trivial (fun pre y post u nx e _ h0=>?_) (fun u _=>Gm rfl)
 refine Zb (x:=y) rfl (by rw [e]; simp) (Hs (fun h=>?_) (fun _=>h0 _ trivial))
 exact((M1 h) rfl).elim
theorem Y2c {F:Nat} (hF:60≤F) (places:List Hi) (covers:Int) (items:List Hc) (hp:∀ p∈places,Q5a p) (hi:∀ x∈items,R61 x) :
  Zd F places covers items=some true:=by
 refine G28 ?_
 unfold Zd
 refine Gt Z3a (Hs (fun h=>by cases h) (fun _=>?_))
 refine H6 (wp_mono (Yb8 hF places covers items hp hi) (fun r7 h7=>?_))
 obtain⟨s,boxes,p⟩:=r7
 obtain⟨hs,hb,h2⟩:=h7
 have hs:Hb2 s:=hs
 have hb:Gb1 4 boxes:=hb
 have h2:Jfc s boxes 4 p:=h2
 dsimp only
 have h9:=h2.len
 refine Jg (fun pre st=>st=J3c (p.States.take pre.length)) rfl (fun pre af post st nx e hI a2=>?_) (fun st hI=>Gm (by rw [Mk]; exact h9))
 subst hI
 have ha:p.States[pre.length]? = some af:=by rw [e]; simp
 obtain⟨lf,hc⟩:=Yec (F:=F) hF hs hb h2 ha
 have h5:J3c (p.States.take (pre++[af]).length)=af:=by
  unfold J3c
  rw [Mh,Mi,List.getLast?_take,if_neg (by omega),show pre.length+1 - 1=pre.length by omega,ha]
  rfl
 generalize J3c (p.States.take pre.length)=bf at hc
 have a3:=hc.C.lb
 have a6:=hc.C.la
 have a4:=hc.good.num
 have a7:=Ya4 (s:=s) (bf:=bf) (af:=af) (lf:=lf) (R28 hs) (by omega) (by omega)
 refine Gt hc.call (Gt (R18 (by omega)) ?_)
 have a5:=Y10 hc.good.ship hc.good.right a3 (a:=G32 af bf) (by show (G32 af bf).length≤1000; have h:bf.length+(G32 af bf).length≤10:=a4; omega) hc.good.box hc.good.asc hc.good.disj
 refine H6 (wp_mono a5 (fun r100 a0=>?_))
 obtain⟨m0,e0⟩:=r100
 obtain⟨h0,hR,h6⟩:=a0
 have h0:e0=0:=h0
 subst h0
 refine R2 (show -9223372036854775808≤(0:Int)+0∧(0:Int)+0≤9223372036854775807 by decide) (Hs (fun h=>by cases h) (fun _=>?_))
 have h6:m0.lifts=0:=h6
 refine H6 (wp_mono (Y8e hc.good hR (show 0≤m0.lifts∧m0.lifts+((H0e s bf af lf).length:Int)≤1000000 by omega)) (fun r106 a1=>?_))
 obtain⟨n,e1,m⟩:=r106
 rcases a1 with ⟨t',h1,hn,he,h3,h4,h8⟩ | ⟨h1,_⟩
 ·have hn:n=((H0e s bf af lf).length:Int):=hn
  have he:e1=0:=he
  subst hn he
  have e2:J2f t'=(af,[],G32 bf af):=M7 (h1.symm.trans hc.run)
  have e3:t'=⟨af,[],G32 bf af⟩:=congrArg Hc6 e2
  subst e3
  have h8:m.lifts=m0.lifts+G8d (H0e s bf af lf):=h8
  dsimp only
  rw [M4 (show ¬ ((0:Int)≠0) by decide),M4 (show ¬ (((H0e s bf af lf).length:Int)≠((H0e s bf af lf).length:Int)) from fun h=>h rfl)]
  refine Gt (Yc0 h3 h4) (Gt (Y17 _) (Gt (Z24 h3 h4) (Gt (Ya6 h3 h4) (Gt (R18 (by omega)) (Gt (Y18 _) (Gt (show G69 m=some m.lifts from rfl) (Gt (R45 (by omega)) ?_)))))))
  refine Hs (fun h=>?_) (fun _=>a2 _ h5.symm)
  rw [M4 (show ¬ (m.lifts≠G8d (H0e s bf af lf)) from fun h=>h (by omega))] at h
  simp at h
 ·exact absurd (h1.symm.trans hc.run) (by intro h; cases h)
end Go.Proofs.YtgcpimpnpcdmmaaGreat
