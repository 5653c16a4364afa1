/-
 Models of functions of the program,and that they return what the models say.
-/
import Derived.Test.YthcpolfodgjekaaGreatXL
set_option maxRecDepth 100000
set_option maxHeartbeats 1000000
set_option linter.unusedVariables false
set_option linter.unusedSimpArgs false
namespace Go.Proofs.YthcpolfodgjekaaGreat
open Go.RowKit
noncomputable section

namespace XCF
open XAF
open XLF

end XCF
open XAF
open XLF
open XCF

def Z6 (s:List Int):Option (List Int):=
 nilB s fun b4=>
 bif b4 then
 (some [])
 else
 (need (decide ((([]:List Int).length+s.length)*8≤140737488355328∧([]:List Int).length+s.length≤maxLen)) <|
  some (([]:List Int)++s))
theorem He1 (s:List Int) (r:(List Int)) (h:Z6 s=some r):Pure Ej 148 [E1 s] (·=E1 r):=by
 unfold Z6 at h
 refine Gx [.tmp 2] Tryz.func148 O O (Jr fun hK1=>(JLh (E1 ([]:List Int)) (Hb 1 O O) O (G8 (hK1 (Js fun hK2=>Jr fun hK3=>(G57 (E1 s) O (H61 O O O (Jc3 Gq O O) ?_)))))))
 rintro u_ L_ ⟨b4,hb4,rfl,rfl⟩
 replace h:=J43 h b4 hb4
 refine G8 (hK3 (JCc O h (fun h hb=>?_) (fun h hb=>?_)))
 ·
  refine Jr fun hK5=>(JLh (E1 ([]:List Int)) (Hb 1 O O) O (G8 (hK5 (Gr (fin1 (fun r:(List Int)=>(E1 r:AV)) h)))))
 ·
  refine Gn (hK2 (Jr fun hK6=>(JLh (OW 1490000005 1 G0 ([]:List Int)) (Q7c 1490000005 3 1 O O Gq) O (G57 (E1 s) O ?_))))
  obtain⟨ha7,h⟩:=Hv h
  refine JLh (OW 1490000005 1 G0 (([]:List Int)++s)) (Ge7 (f:=G0) (xs:=([]:List Int)) (ys:=s) O O O O Gq Y2 ha7 (fun _=>O) (.inl O)) O (G57 (OW 1490000005 1 G0 (([]:List Int)++s)) O (G8 (hK6 (Gr (fin1l (fun r:(List Int)=>(E1 r:AV)) h)))))

def Rv (s:List Stowed):Option (List Stowed):=
 nilB s fun b4=>
 bif b4 then
 (some [])
 else
 (need (decide ((([]:List Stowed).length+s.length)*32≤140737488355328∧([]:List Stowed).length+s.length≤maxLen)) <|
  some (([]:List Stowed)++s))
theorem He2 (s:List Int) (r:(List Int)) (h:Z6 s=some r):Y1 Ej 148 [E1 s] [] (fun av L'=>∃ p:Nat,av=.vec 1181 p 1 r.length∧L'=[(1181,.vec 3 1 p (r.map G0))]):=by
 unfold Z6 at h
 refine Ge8 [] [.tmp 2] Tryz.func148 O O (inAll O) (Jr fun hK1=>(JLh (.vec 1181 (([]:List Int).length) 1 (([]:List Int).length)) (Q42 1181 3 1 O O O) O (G8 (hK1 (Js fun hK2=>Jr fun hK3=>(G57 (E1 s) O (H61 O O O (Jc3 Gq O O) ?_)))))))
 rintro u_ L_ ⟨b4,hb4,rfl,rfl⟩
 replace h:=J43 h b4 hb4
 refine G8 (hK3 (JCc O h (fun h hb=>?_) (fun h hb=>?_)))
 ·
  refine Jr fun hK5=>(JLh (.vec 1181 ((([]:List Int).length)+1) 1 (([]:List Int).length)) (A_vnil2 1181 3 1 O O O) O (G8 (hK5 (Jc2 2 O O (fun hn_=>Gr ?_)))))
  obtain rfl:=Option.some.inj h
  exact⟨[.vec 1181 ((([]:List Int).length)+1) 1 (([]:List Int).length)],[(1181,.vec 3 1 ((([]:List Int).length)+1) (([]:List Int).map G0))],⟨⟨_,O,.vec⟩,G⟩,O,⟨⟨_,O,.conv (.same O)⟩,G⟩,((([]:List Int).length)+1),congrArg (fun n_:Nat=>(.vec 1181 ((([]:List Int).length)+1) 1 n_:AV)) (hn_.trans O),O⟩
 ·
  refine Gn (hK2 (Jr fun hK6=>(JLh (.vec 1181 ((([]:List Int).length)+1) 1 (([]:List Int).length)) (A_vlit2 1181 3 1 O O Gq) O (G57 (E1 s) O ?_))))
  obtain⟨ha7,h⟩:=Hv h
  refine JLh (.vec 1181 (((([]:List Int).length)+1)+((([]:List Int)++s).length+1)) 1 ((([]:List Int)++s).length)) (Ge6 (f:=G0) (xs:=([]:List Int)) (ys:=s) (ver:=((([]:List Int).length)+1)) (ver1:=(((([]:List Int).length)+1)+((([]:List Int)++s).length+1))) rfl rfl rfl rfl Gq Y2 ha7 (fun _=>rfl) (.inl rfl) (by simp)) O (G57 (.vec 1181 (((([]:List Int).length)+1)+((([]:List Int)++s).length+1)) 1 ((([]:List Int)++s).length)) O (G8 (hK6 (Jc2 2 O O (fun hn_=>Gr ?_)))))
  obtain rfl:=Option.some.inj h
  exact⟨[.vec 1181 (((([]:List Int).length)+1)+((([]:List Int)++s).length+1)) 1 ((([]:List Int)++s).length)],[(1181,.vec 3 1 (((([]:List Int).length)+1)+((([]:List Int)++s).length+1)) ((([]:List Int)++s).map G0))],⟨⟨_,O,.vec⟩,G⟩,O,⟨⟨_,O,.conv (.same O)⟩,G⟩,(((([]:List Int).length)+1)+((([]:List Int)++s).length+1)),congrArg (fun n_:Nat=>(.vec 1181 (((([]:List Int).length)+1)+((([]:List Int)++s).length+1)) 1 n_:AV)) (hn_.trans (List.length_map _)),O⟩


theorem H41 (s:List Stowed) (r:(List Stowed)) (h:Rv s=some r):Y1 Ej 181 [E2 s] [] (fun av L'=>∃ p:Nat,av=.vec 1199 p 4 r.length∧L'=[(1199,.vec 73 4 p (r.map Stowed.av))]):=by
 unfold Rv at h
 refine Ge8 [] [.tmp 2] Tryz.func181 O O (inAll O) (Jr fun hK1=>(JLh (.vec 1199 (([]:List Stowed).length) 4 (([]:List Stowed).length)) (Q42 1199 73 4 O O O) O (G8 (hK1 (Js fun hK2=>Jr fun hK3=>(G57 (E2 s) O (H61 O O O (Jc3 H0 O O) ?_)))))))
 rintro u_ L_ ⟨b4,hb4,rfl,rfl⟩
 replace h:=J43 h b4 hb4
 refine G8 (hK3 (JCc O h (fun h hb=>?_) (fun h hb=>?_)))
 ·
  refine Jr fun hK5=>(JLh (.vec 1199 ((([]:List Stowed).length)+1) 4 (([]:List Stowed).length)) (A_vnil2 1199 73 4 O O O) O (G8 (hK5 (Jc2 2 O O (fun hn_=>Gr ?_)))))
  obtain rfl:=Option.some.inj h
  exact⟨[.vec 1199 ((([]:List Stowed).length)+1) 4 (([]:List Stowed).length)],[(1199,.vec 73 4 ((([]:List Stowed).length)+1) (([]:List Stowed).map Stowed.av))],⟨⟨_,O,.vec⟩,G⟩,O,⟨⟨_,O,.conv (.same O)⟩,G⟩,((([]:List Stowed).length)+1),congrArg (fun n_:Nat=>(.vec 1199 ((([]:List Stowed).length)+1) 4 n_:AV)) (hn_.trans O),O⟩
 ·
  refine Gn (hK2 (Jr fun hK6=>(JLh (.vec 1199 ((([]:List Stowed).length)+1) 4 (([]:List Stowed).length)) (A_vlit2 1199 73 4 O O H0) O (G57 (E2 s) O ?_))))
  obtain⟨ha7,h⟩:=Hv h
  refine JLh (.vec 1199 (((([]:List Stowed).length)+1)+((([]:List Stowed)++s).length+1)) 4 ((([]:List Stowed)++s).length)) (Ge6 (f:=Stowed.av) (xs:=([]:List Stowed)) (ys:=s) (ver:=((([]:List Stowed).length)+1)) (ver1:=(((([]:List Stowed).length)+1)+((([]:List Stowed)++s).length+1))) rfl rfl rfl rfl H0 H21 ha7 (fun _=>rfl) (.inl rfl) (by simp)) O (G57 (.vec 1199 (((([]:List Stowed).length)+1)+((([]:List Stowed)++s).length+1)) 4 ((([]:List Stowed)++s).length)) O (G8 (hK6 (Jc2 2 O O (fun hn_=>Gr ?_)))))
  obtain rfl:=Option.some.inj h
  exact⟨[.vec 1199 (((([]:List Stowed).length)+1)+((([]:List Stowed)++s).length+1)) 4 ((([]:List Stowed)++s).length)],[(1199,.vec 73 4 (((([]:List Stowed).length)+1)+((([]:List Stowed)++s).length+1)) ((([]:List Stowed)++s).map Stowed.av))],⟨⟨_,O,.vec⟩,G⟩,O,⟨⟨_,O,.conv (.same O)⟩,G⟩,(((([]:List Stowed).length)+1)+((([]:List Stowed)++s).length+1)),congrArg (fun n_:Nat=>(.vec 1199 (((([]:List Stowed).length)+1)+((([]:List Stowed)++s).length+1)) 4 n_:AV)) (hn_.trans (List.length_map _)),O⟩
end
end Go.Proofs.YthcpolfodgjekaaGreat
