/- Walks of functions. -/
import Derived.Test.YtibhpogonkdiaaaGreatSpecG
import Derived.Test.YtibhpogonkdiaaaGreatSpecG
set_option linter.unnecessarySimpa false
set_option maxRecDepth 100000
set_option maxHeartbeats 1000000
set_option linter.unusedVariables false
set_option linter.unusedSimpArgs false
namespace Go.Proofs.YtibhpogonkdiaaaGreat
open Go.RowKit
noncomputable section

namespace XCF
open XAF
theorem G64:Rw En 3 1 8=true:=by kernel_rfl
end XCF
open XAF
open XCF

def Qp (s:List Int):Option (List Int):=
 Y0e s fun a=>
 bif a then
 (some [])
 else
 (need (decide ((([]:List Int).length+s.length)*8≤140737488355328∧([]:List Int).length+s.length≤maxLen)) <|
  some (([]:List Int)++s))
theorem Ge0 (s:List Int) (r:(List Int)) (h:Qp s=some r):Q2 En 101 [E5 s] [] (fun av L'=>∃ p:Nat,av=.vec 1020000002 p 1 r.length∧L'=[(1020000002,.vec 3 1 p (r.map I64))]):=by
 unfold Qp at h
 refine G0a [] [.tmp 2] Tryz.func101 O O (H91 O) (Jr fun a=>(JLh (.vec 1020000002 (([]:List Int).length) 1 (([]:List Int).length)) (Q77 1020000002 3 1 O O O) O (G6 (a (Js fun b=>Jr fun c=>(JLm (E5 s) O (H6b O O O (R75 H1 O O) ?_)))))))
 rintro u_ L_ ⟨j,d,rfl,rfl⟩
 replace h:=Qb3 h j d
 refine G6 (c (JCc O h (fun h hb=>?_) (fun h hb=>?_)))
 ·
  refine Jr fun e=>(JLh (.vec 1020000002 ((([]:List Int).length)+1) 1 (([]:List Int).length)) (Y29 1020000002 3 1 O O O) O (G6 (e (Q75 2 O O (fun hn_=>H2 ?_)))))
  obtain rfl:=Ky h
  exact⟨[.vec 1020000002 ((([]:List Int).length)+1) 1 (([]:List Int).length)],[(1020000002,.vec 3 1 ((([]:List Int).length)+1) (([]:List Int).map I64))],⟨⟨_,O,.vec⟩,ø⟩,O,⟨⟨_,O,.conv (.same O)⟩,ø⟩,((([]:List Int).length)+1),congrArg (fun n_:Nat=>(.vec 1020000002 ((([]:List Int).length)+1) 1 n_:AV)) (hn_.trans O),O⟩
 ·
  refine Gp (b (Jr fun g=>(JLh (.vec 1020000002 ((([]:List Int).length)+1) 1 (([]:List Int).length)) (Y2c 1020000002 3 1 O O H1) O (JLm (E5 s) O ?_))))
  obtain⟨i,h⟩:=J9 h
  refine JLh (.vec 1020000002 (((([]:List Int).length)+1)+((([]:List Int)++s).length+1)) 1 ((([]:List Int)++s).length)) (G8e (f:=I64) (xs:=([]:List Int)) (ys:=s) (ver:=((([]:List Int).length)+1)) (ver1:=(((([]:List Int).length)+1)+((([]:List Int)++s).length+1))) rfl rfl rfl rfl H1 G64 i (fun _=>rfl) (.inl rfl) (by simp)) O (JLm (.vec 1020000002 (((([]:List Int).length)+1)+((([]:List Int)++s).length+1)) 1 ((([]:List Int)++s).length)) O (G6 (g (Q75 2 O O (fun hn_=>H2 ?_)))))
  obtain rfl:=Ky h
  exact⟨[.vec 1020000002 (((([]:List Int).length)+1)+((([]:List Int)++s).length+1)) 1 ((([]:List Int)++s).length)],[(1020000002,.vec 3 1 (((([]:List Int).length)+1)+((([]:List Int)++s).length+1)) ((([]:List Int)++s).map I64))],⟨⟨_,O,.vec⟩,ø⟩,O,⟨⟨_,O,.conv (.same O)⟩,ø⟩,(((([]:List Int).length)+1)+((([]:List Int)++s).length+1)),congrArg (fun n_:Nat=>(.vec 1020000002 (((([]:List Int).length)+1)+((([]:List Int)++s).length+1)) 1 n_:AV)) (hn_.trans (Mc _)),O⟩
end
end Go.Proofs.YtibhpogonkdiaaaGreat
