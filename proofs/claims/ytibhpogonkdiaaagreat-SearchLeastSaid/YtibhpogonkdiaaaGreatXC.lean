/- Walks of functions. -/
import Derived.Test.YtibhpogonkdiaaaGreatSpecG
import Derived.Test.YtibhpogonkdiaaaGreatSpecG
set_option maxRecDepth 100000
set_option maxHeartbeats 1000000
set_option linter.unusedVariables false
set_option linter.unusedSimpArgs false
namespace Go.Proofs.YtibhpogonkdiaaaGreat
open Go.RowKit
noncomputable section

namespace XCF
open XAF
theorem Y7:Y9 Es 3 1 8=true:=zZ
end XCF
open XAF
open XCF

def Rg (s:AD):Option AD:=Jfe s fun a=>bif a then (some []) else (need (decide ((([]:AD).length+s.length)*8<=140737488355328∧([]:AD).length+s.length<=maxLen)) <| some (([]:AD)++s))
theorem oE (s:AD) (r:AD) (h:Rg s=some r):Q4 Es 101 [E5 s] [] (fun av L'=>∃ p:Nat,av=.vec 1020000002 p 1 r.length∧L'=[(1020000002,.vec 3 1 p (r.map I64))]):=by
 unfold Rg at h;refine Yc [] [.tmp 2] Tryz.func101 O O (nV O) (Jr fun a=>(JLh (.vec 1020000002 (([]:AD).length) 1 (([]:AD).length)) (xU 1020000002 3 1 O O O) O (G6 (a (Js fun b=>Jr fun c=>(JLm (E5 s) O (nQ O O O (J58 Gq O O) ?_)))))));rintro u_ L_ ⟨j,d,rfl,rfl⟩;replace h:=H75 h j d;refine G6 (c (JCc O h (fun h hb=>?_) (fun h hb=>?_)))
 ·refine Jr fun e=>(JLh (.vec 1020000002 ((([]:AD).length)+1) 1 (([]:AD).length)) (Q18 1020000002 3 1 O O O) O (G6 (e (pG 2 O O (fun hn_=>H0 ?_)))));obtain rfl:=Sc h;exact⟨[.vec 1020000002 ((([]:AD).length)+1) 1 (([]:AD).length)],[(1020000002,.vec 3 1 ((([]:AD).length)+1) (([]:AD).map I64))],⟨GG,ø⟩,O,⟨⟨_,O,.conv .same⟩,ø⟩,((([]:AD).length)+1),congrArg (fun n_:Nat=>(.vec 1020000002 ((([]:AD).length)+1) 1 n_:AV)) (hn_.trans O),O⟩
 ·refine Gs (b (Jr fun g=>(JLh (.vec 1020000002 ((([]:AD).length)+1) 1 (([]:AD).length)) (Q1b 1020000002 3 1 O O Gq) O (JLm (E5 s) O ?_))));obtain⟨i,h⟩:=Hz h;refine JLh (.vec 1020000002 (((([]:AD).length)+1)+((([]:AD)++s).length+1)) 1 ((([]:AD)++s).length)) (kM (f:=I64) (xs:=([]:AD)) (ys:=s) (ver:=((([]:AD).length)+1)) (AZ:=(((([]:AD).length)+1)+((([]:AD)++s).length+1))) rfl rfl rfl rfl Gq Y7 i (fun _=>rfl) (.inl rfl) (by simp)) O (JLm (.vec 1020000002 (((([]:AD).length)+1)+((([]:AD)++s).length+1)) 1 ((([]:AD)++s).length)) O (G6 (g (pG 2 O O (fun hn_=>H0 ?_)))));obtain rfl:=Sc h;exact⟨[.vec 1020000002 (((([]:AD).length)+1)+((([]:AD)++s).length+1)) 1 ((([]:AD)++s).length)],[(1020000002,.vec 3 1 (((([]:AD).length)+1)+((([]:AD)++s).length+1)) ((([]:AD)++s).map I64))],⟨GG,ø⟩,O,⟨⟨_,O,.conv .same⟩,ø⟩,(((([]:AD).length)+1)+((([]:AD)++s).length+1)),congrArg (fun n_:Nat=>(.vec 1020000002 (((([]:AD).length)+1)+((([]:AD)++s).length+1)) 1 n_:AV)) (hn_.trans (Ss _)),O⟩
end
end Go.Proofs.YtibhpogonkdiaaaGreat
