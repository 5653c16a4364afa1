/- Walks of functions. -/
import Derived.Test.YtbgfgnddogfpcaaGreatSpecA
set_option maxRecDepth 100000
set_option maxHeartbeats 1000000
set_option linter.unusedVariables false
set_option linter.unusedSimpArgs false
namespace Go.Proofs.YtbgfgnddogfpcaaGreat
open Go.RowKit
noncomputable section

namespace XCF
open XAF
theorem eY:Qa En 3 1 8=true:=zF
end XCF
open XAF
open XCF

def Rb (s:AE):Option AE:=Q23 s fun a=>bif a then (some []) else (need (decide ((([]:AE).length+s.length)*8<=140737488355328/\([]:AE).length+s.length<=maxLen)) <| some (([]:AE)++s))
theorem oB (s:AE) (r:AE) (h:Rb s=some r):Q2 En 128 [E5 s] [] (fun av L'=>∃ p:Nat,av=.vec 1290000002 p 1 r.length/\L'=[(1290000002,.vec 3 1 p (r.map I64))]):=by
 unfold Rb at h;refine aW [] [.tmp 2] Tryz.func128 G G (zR G) (Jr fun a=>(JLh (.vec 1290000002 (([]:AE).length) 1 (([]:AE).length)) (Jdb 1290000002 3 1 G G G) G (G6 (a (Js fun b=>Jr fun c=>(JLm (E5 s) G (nM G G G (J52 Gv G G) ?_)))))));rintro u_ L_ ⟨j,d,rfl,rfl⟩;replace h:=H76 h j d;refine G6 (c (JCc G h (fun h hb=>?_) (fun h hb=>?_)))
 .refine Jr fun e=>(JLh (.vec 1290000002 ((([]:AE).length)+1) 1 (([]:AE).length)) (Q49 1290000002 3 1 G G G) G (G6 (e (G24 2 G G (fun hn_=>Gp ?_)))));obtain rfl:=Pc h;exact⟨[.vec 1290000002 ((([]:AE).length)+1) 1 (([]:AE).length)],[(1290000002,.vec 3 1 ((([]:AE).length)+1) (([]:AE).map I64))],⟨⟨_,G,.vec⟩,J⟩,G,⟨⟨_,G,.conv (.same G)⟩,J⟩,((([]:AE).length)+1),congrArg (fun n_:Nat=>(.vec 1290000002 ((([]:AE).length)+1) 1 n_:AV)) (hn_.trans G),G⟩
 .refine Gj (b (Jr fun g=>(JLh (.vec 1290000002 ((([]:AE).length)+1) 1 (([]:AE).length)) (Q4c 1290000002 3 1 G G Gv) G (JLm (E5 s) G ?_))));obtain⟨i,h⟩:=J3 h;refine JLh (.vec 1290000002 (((([]:AE).length)+1)+((([]:AE)++s).length+1)) 1 ((([]:AE)++s).length)) (rB (f:=I64) (xs:=([]:AE)) (ys:=s) (ver:=((([]:AE).length)+1)) (BA:=(((([]:AE).length)+1)+((([]:AE)++s).length+1))) rfl rfl rfl rfl Gv eY i (fun _=>rfl) (.inl rfl) (by simp)) G (JLm (.vec 1290000002 (((([]:AE).length)+1)+((([]:AE)++s).length+1)) 1 ((([]:AE)++s).length)) G (G6 (g (G24 2 G G (fun hn_=>Gp ?_)))));obtain rfl:=Pc h;exact⟨[.vec 1290000002 (((([]:AE).length)+1)+((([]:AE)++s).length+1)) 1 ((([]:AE)++s).length)],[(1290000002,.vec 3 1 (((([]:AE).length)+1)+((([]:AE)++s).length+1)) ((([]:AE)++s).map I64))],⟨⟨_,G,.vec⟩,J⟩,G,⟨⟨_,G,.conv (.same G)⟩,J⟩,(((([]:AE).length)+1)+((([]:AE)++s).length+1)),congrArg (fun n_:Nat=>(.vec 1290000002 (((([]:AE).length)+1)+((([]:AE)++s).length+1)) 1 n_:AV)) (hn_.trans (Pr _)),G⟩
end
end Go.Proofs.YtbgfgnddogfpcaaGreat
