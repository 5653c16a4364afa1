/- Walks of functions. -/
import Derived.Test.YtibhpogonkdiaaaGreatSpecG
import Derived.Test.YtibhpogonkdiaaaGreatSpecG
set_option linter.unnecessarySimpa false
set_option maxRecDepth 100000
set_option maxHeartbeats 1000000
set_option linter.unusedVariables false
set_option linter.unusedSimpArgs false
namespace Go.Proofs.YtibhpogonkdiaaaGreat
open Go.RowKit
noncomputable section

namespace XCF
open XAF
theorem G43:Rq Em 3 1 8=true:=by kernel_rfl
end XCF
open XAF
open XCF

def Qg (s:List Int):Option (List Int):=
 Ra7 s fun a=>
 bif a then
 (some [])
 else
 (need (decide ((([]:List Int).length+s.length)*8≤140737488355328∧([]:List Int).length+s.length≤maxLen)) <|
  some (([]:List Int)++s))
theorem Gba (s:List Int) (r:(List Int)) (h:Qg s=some r):Jw Em 101 [E5 s] [] (fun av L'=>∃ p:Nat,av=.vec 1020000002 p 1 r.length∧L'=[(1020000002,.vec 3 1 p (r.map I64))]):=by
 unfold Qg at h
 refine Zp [] [.tmp 2] Tryz.func101 O O (H62 O) (Jr fun a=>(JLh (.vec 1020000002 (([]:List Int).length) 1 (([]:List Int).length)) (Q24 1020000002 3 1 O O O) O (G6 (a (Js fun b=>Jr fun c=>(JLm (E5 s) O (H43 O O O (R1b Gx O O) ?_)))))))
 rintro u_ L_ ⟨j,d,rfl,rfl⟩
 replace h:=Q60 h j d
 refine G6 (c (JCc O h (fun h hb=>?_) (fun h hb=>?_)))
 ·
  refine Jr fun e=>(JLh (.vec 1020000002 ((([]:List Int).length)+1) 1 (([]:List Int).length)) (Rc1 1020000002 3 1 O O O) O (G6 (e (Q22 2 O O (fun hn_=>Gy ?_)))))
  obtain rfl:=M0 h
  exact⟨[.vec 1020000002 ((([]:List Int).length)+1) 1 (([]:List Int).length)],[(1020000002,.vec 3 1 ((([]:List Int).length)+1) (([]:List Int).map I64))],⟨⟨_,O,.vec⟩,ø⟩,O,⟨⟨_,O,.conv (.same O)⟩,ø⟩,((([]:List Int).length)+1),congrArg (fun n_:Nat=>(.vec 1020000002 ((([]:List Int).length)+1) 1 n_:AV)) (hn_.trans O),O⟩
 ·
  refine Gp (b (Jr fun g=>(JLh (.vec 1020000002 ((([]:List Int).length)+1) 1 (([]:List Int).length)) (Rc4 1020000002 3 1 O O Gx) O (JLm (E5 s) O ?_))))
  obtain⟨i,h⟩:=J0 h
  refine JLh (.vec 1020000002 (((([]:List Int).length)+1)+((([]:List Int)++s).length+1)) 1 ((([]:List Int)++s).length)) (G66 (f:=I64) (xs:=([]:List Int)) (ys:=s) (ver:=((([]:List Int).length)+1)) (ver1:=(((([]:List Int).length)+1)+((([]:List Int)++s).length+1))) rfl rfl rfl rfl Gx G43 i (fun _=>rfl) (.inl rfl) (by simp)) O (JLm (.vec 1020000002 (((([]:List Int).length)+1)+((([]:List Int)++s).length+1)) 1 ((([]:List Int)++s).length)) O (G6 (g (Q22 2 O O (fun hn_=>Gy ?_)))))
  obtain rfl:=M0 h
  exact⟨[.vec 1020000002 (((([]:List Int).length)+1)+((([]:List Int)++s).length+1)) 1 ((([]:List Int)++s).length)],[(1020000002,.vec 3 1 (((([]:List Int).length)+1)+((([]:List Int)++s).length+1)) ((([]:List Int)++s).map I64))],⟨⟨_,O,.vec⟩,ø⟩,O,⟨⟨_,O,.conv (.same O)⟩,ø⟩,(((([]:List Int).length)+1)+((([]:List Int)++s).length+1)),congrArg (fun n_:Nat=>(.vec 1020000002 (((([]:List Int).length)+1)+((([]:List Int)++s).length+1)) 1 n_:AV)) (hn_.trans (Me _)),O⟩
end
end Go.Proofs.YtibhpogonkdiaaaGreat
