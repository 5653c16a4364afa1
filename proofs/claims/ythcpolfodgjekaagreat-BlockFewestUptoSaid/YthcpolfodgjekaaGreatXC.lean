/-
 Models of functions of the program,and that they return what the models say.
-/
import Derived.Test.YthcpolfodgjekaaGreatXL
set_option maxRecDepth 100000
set_option maxHeartbeats 1000000
set_option linter.unusedVariables false
set_option linter.unusedSimpArgs false
namespace Go.Proofs.YthcpolfodgjekaaGreat
open Go.RowKit
noncomputable section

namespace XCF
open XAF
open XLF

end XCF
open XAF
open XLF
open XCF

def Y3 (s:List Int):Option (List Int):=
 Y22 s fun b4=>
 bif b4 then
 (some [])
 else
 (need (decide ((([]:List Int).length+s.length)*8≤140737488355328∧([]:List Int).length+s.length≤maxLen)) <|
  some (([]:List Int)++s))
theorem J0b (s:List Int) (r:(List Int)) (h:Y3 s=some r):Pure Ej 148 [E1 s] (·=E1 r):=by
 unfold Y3 at h
 refine Gy [.tmp 2] Tryz.func148 O O (Jr fun hK1=>(JLh (E1 ([]:List Int)) (H2 1 O O) O (G7 (hK1 (Js fun hK2=>Jr fun hK3=>(JLm (E1 s) O (H90 O O O (Jf4 Gn O O) ?_)))))))
 rintro u_ L_ ⟨b4,hb4,rfl,rfl⟩
 replace h:=J74 h b4 hb4
 refine G7 (hK3 (JCc O h (fun h hb=>?_) (fun h hb=>?_)))
 ·
  refine Jr fun hK5=>(JLh (E1 ([]:List Int)) (H2 1 O O) O (G7 (hK5 (Gq (fin1 (fun r:(List Int)=>(E1 r:AV)) h)))))
 ·
  refine Gm (hK2 (Jr fun hK6=>(JLh (OW 1490000005 1 I64 ([]:List Int)) (R49 1490000005 3 1 O O Gn) O (JLm (E1 s) O ?_))))
  obtain⟨ha7,h⟩:=Hp h
  refine JLh (OW 1490000005 1 I64 (([]:List Int)++s)) (H12 (f:=I64) (xs:=([]:List Int)) (ys:=s) O O O O Gn Rt ha7 (fun _=>O) (.inl O)) O (JLm (OW 1490000005 1 I64 (([]:List Int)++s)) O (G7 (hK6 (Gq (fin1l (fun r:(List Int)=>(E1 r:AV)) h)))))

def Yd (s:List Stowed):Option (List Stowed):=
 Y22 s fun b4=>
 bif b4 then
 (some [])
 else
 (need (decide ((([]:List Stowed).length+s.length)*32≤140737488355328∧([]:List Stowed).length+s.length≤maxLen)) <|
  some (([]:List Stowed)++s))
theorem J0c (s:List Int) (r:(List Int)) (h:Y3 s=some r):Ym Ej 148 [E1 s] [] (fun av L'=>∃ p:Nat,av=.vec 1198 p 1 r.length∧L'=[(1198,.vec 3 1 p (r.map I64))]):=by
 unfold Y3 at h
 refine H13 [] [.tmp 2] Tryz.func148 O O (Qa8 O) (Jr fun hK1=>(JLh (.vec 1198 (([]:List Int).length) 1 (([]:List Int).length)) (Qdb 1198 3 1 O O O) O (G7 (hK1 (Js fun hK2=>Jr fun hK3=>(JLm (E1 s) O (H90 O O O (Jf4 Gn O O) ?_)))))))
 rintro u_ L_ ⟨b4,hb4,rfl,rfl⟩
 replace h:=J74 h b4 hb4
 refine G7 (hK3 (JCc O h (fun h hb=>?_) (fun h hb=>?_)))
 ·
  refine Jr fun hK5=>(JLh (.vec 1198 ((([]:List Int).length)+1) 1 (([]:List Int).length)) (Rcf 1198 3 1 O O O) O (G7 (hK5 (Jf3 2 O O (fun hn_=>Gq ?_)))))
  obtain rfl:=Kj h
  exact⟨[.vec 1198 ((([]:List Int).length)+1) 1 (([]:List Int).length)],[(1198,.vec 3 1 ((([]:List Int).length)+1) (([]:List Int).map I64))],⟨⟨_,O,.vec⟩,G⟩,O,⟨⟨_,O,.conv (.same O)⟩,G⟩,((([]:List Int).length)+1),congrArg (fun n_:Nat=>(.vec 1198 ((([]:List Int).length)+1) 1 n_:AV)) (hn_.trans O),O⟩
 ·
  refine Gm (hK2 (Jr fun hK6=>(JLh (.vec 1198 ((([]:List Int).length)+1) 1 (([]:List Int).length)) (Rd0 1198 3 1 O O Gn) O (JLm (E1 s) O ?_))))
  obtain⟨ha7,h⟩:=Hp h
  refine JLh (.vec 1198 (((([]:List Int).length)+1)+((([]:List Int)++s).length+1)) 1 ((([]:List Int)++s).length)) (H11 (f:=I64) (xs:=([]:List Int)) (ys:=s) (ver:=((([]:List Int).length)+1)) (ver1:=(((([]:List Int).length)+1)+((([]:List Int)++s).length+1))) rfl rfl rfl rfl Gn Rt ha7 (fun _=>rfl) (.inl rfl) (by simp)) O (JLm (.vec 1198 (((([]:List Int).length)+1)+((([]:List Int)++s).length+1)) 1 ((([]:List Int)++s).length)) O (G7 (hK6 (Jf3 2 O O (fun hn_=>Gq ?_)))))
  obtain rfl:=Kj h
  exact⟨[.vec 1198 (((([]:List Int).length)+1)+((([]:List Int)++s).length+1)) 1 ((([]:List Int)++s).length)],[(1198,.vec 3 1 (((([]:List Int).length)+1)+((([]:List Int)++s).length+1)) ((([]:List Int)++s).map I64))],⟨⟨_,O,.vec⟩,G⟩,O,⟨⟨_,O,.conv (.same O)⟩,G⟩,(((([]:List Int).length)+1)+((([]:List Int)++s).length+1)),congrArg (fun n_:Nat=>(.vec 1198 (((([]:List Int).length)+1)+((([]:List Int)++s).length+1)) 1 n_:AV)) (hn_.trans (Ks _)),O⟩


theorem H72 (s:List Stowed) (r:(List Stowed)) (h:Yd s=some r):Ym Ej 181 [E2 s] [] (fun av L'=>∃ p:Nat,av=.vec 1217 p 4 r.length∧L'=[(1217,.vec 73 4 p (r.map Stowed.av))]):=by
 unfold Yd at h
 refine H13 [] [.tmp 2] Tryz.func181 O O (Qa8 O) (Jr fun hK1=>(JLh (.vec 1217 (([]:List Stowed).length) 4 (([]:List Stowed).length)) (Qdb 1217 73 4 O O O) O (G7 (hK1 (Js fun hK2=>Jr fun hK3=>(JLm (E2 s) O (H90 O O O (Jf4 Gx O O) ?_)))))))
 rintro u_ L_ ⟨b4,hb4,rfl,rfl⟩
 replace h:=J74 h b4 hb4
 refine G7 (hK3 (JCc O h (fun h hb=>?_) (fun h hb=>?_)))
 ·
  refine Jr fun hK5=>(JLh (.vec 1217 ((([]:List Stowed).length)+1) 4 (([]:List Stowed).length)) (Rcf 1217 73 4 O O O) O (G7 (hK5 (Jf3 2 O O (fun hn_=>Gq ?_)))))
  obtain rfl:=Kj h
  exact⟨[.vec 1217 ((([]:List Stowed).length)+1) 4 (([]:List Stowed).length)],[(1217,.vec 73 4 ((([]:List Stowed).length)+1) (([]:List Stowed).map Stowed.av))],⟨⟨_,O,.vec⟩,G⟩,O,⟨⟨_,O,.conv (.same O)⟩,G⟩,((([]:List Stowed).length)+1),congrArg (fun n_:Nat=>(.vec 1217 ((([]:List Stowed).length)+1) 4 n_:AV)) (hn_.trans O),O⟩
 ·
  refine Gm (hK2 (Jr fun hK6=>(JLh (.vec 1217 ((([]:List Stowed).length)+1) 4 (([]:List Stowed).length)) (Rd0 1217 73 4 O O Gx) O (JLm (E2 s) O ?_))))
  obtain⟨ha7,h⟩:=Hp h
  refine JLh (.vec 1217 (((([]:List Stowed).length)+1)+((([]:List Stowed)++s).length+1)) 4 ((([]:List Stowed)++s).length)) (H11 (f:=Stowed.av) (xs:=([]:List Stowed)) (ys:=s) (ver:=((([]:List Stowed).length)+1)) (ver1:=(((([]:List Stowed).length)+1)+((([]:List Stowed)++s).length+1))) rfl rfl rfl rfl Gx G96 ha7 (fun _=>rfl) (.inl rfl) (by simp)) O (JLm (.vec 1217 (((([]:List Stowed).length)+1)+((([]:List Stowed)++s).length+1)) 4 ((([]:List Stowed)++s).length)) O (G7 (hK6 (Jf3 2 O O (fun hn_=>Gq ?_)))))
  obtain rfl:=Kj h
  exact⟨[.vec 1217 (((([]:List Stowed).length)+1)+((([]:List Stowed)++s).length+1)) 4 ((([]:List Stowed)++s).length)],[(1217,.vec 73 4 (((([]:List Stowed).length)+1)+((([]:List Stowed)++s).length+1)) ((([]:List Stowed)++s).map Stowed.av))],⟨⟨_,O,.vec⟩,G⟩,O,⟨⟨_,O,.conv (.same O)⟩,G⟩,(((([]:List Stowed).length)+1)+((([]:List Stowed)++s).length+1)),congrArg (fun n_:Nat=>(.vec 1217 (((([]:List Stowed).length)+1)+((([]:List Stowed)++s).length+1)) 4 n_:AV)) (hn_.trans (Ks _)),O⟩
end
end Go.Proofs.YthcpolfodgjekaaGreat
