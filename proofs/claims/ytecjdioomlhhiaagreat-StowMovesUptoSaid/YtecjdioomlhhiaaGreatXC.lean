/-
 Models of functions of the program,and that they return what the models say.
-/
import Derived.Test.YtecjdioomlhhiaaGreatXL
set_option maxRecDepth 100000
set_option maxHeartbeats 1000000
set_option linter.unusedVariables false
set_option linter.unusedSimpArgs false
namespace Go.Proofs.YtecjdioomlhhiaaGreat
open Go.RowKit
noncomputable section

namespace XCF
open XAF
open XLF

end XCF
open XAF
open XLF
open XCF

def Qg (s:List Int):Option (List Int):=
 Rd1 s fun b4=>
 bif b4 then
 (some [])
 else
 (need (decide ((([]:List Int).length+s.length)*8≤140737488355328∧([]:List Int).length+s.length≤maxLen)) <|
  some (([]:List Int)++s))
theorem H06 (s:List Int) (r:(List Int)) (h:Qg s=some r):Pure Ei 67 [E1 s] (·=E1 r):=by
 unfold Qg at h
 refine Gz [.tmp 2] Tryz.func67 O O (Jr fun hK1=>(JLh (E1 ([]:List Int)) (Hb 1 O O) O (G7 (hK1 (Js fun hK2=>Jr fun hK3=>(JLm (E1 s) O (G48 O O O (Jb8 Gs O O) ?_)))))))
 rintro u_ L_ ⟨b4,hb4,rfl,rfl⟩
 replace h:=J48 h b4 hb4
 refine G7 (hK3 (JCc O h (fun h hb=>?_) (fun h hb=>?_)))
 ·
  refine Jr fun hK5=>(JLh (E1 ([]:List Int)) (Hb 1 O O) O (G7 (hK5 (Gn (fin1 (fun r:(List Int)=>(E1 r:AV)) h)))))
 ·
  refine Gk (hK2 (Jr fun hK6=>(JLh (OW 680000005 1 I64 ([]:List Int)) (Qf9 680000005 3 1 O O Gs) O (JLm (E1 s) O ?_))))
  obtain⟨ha7,h⟩:=Hr h
  refine JLh (OW 680000005 1 I64 (([]:List Int)++s)) (Gf4 (f:=I64) (xs:=([]:List Int)) (ys:=s) O O O O Gs Zm ha7 (fun _=>O) (.inl O)) O (JLm (OW 680000005 1 I64 (([]:List Int)++s)) O (G7 (hK6 (Gn (fin1l (fun r:(List Int)=>(E1 r:AV)) h)))))

def Ru (s:List Stowed):Option (List Stowed):=
 Rd1 s fun b4=>
 bif b4 then
 (some [])
 else
 (need (decide ((([]:List Stowed).length+s.length)*32≤140737488355328∧([]:List Stowed).length+s.length≤maxLen)) <|
  some (([]:List Stowed)++s))
theorem G55 (s:List Int) (r:(List Int)) (h:Qg s=some r):Qb Ei 67 [E1 s] [] (fun av L'=>∃ p:Nat,av=.vec 1086 p 1 r.length∧L'=[(1086,.vec 3 1 p (r.map I64))]):=by
 unfold Qg at h
 refine Qz [] [.tmp 2] Tryz.func67 O O (Ga6 O) (Jr fun hK1=>(JLh (.vec 1086 (([]:List Int).length) 1 (([]:List Int).length)) (G8f 1086 3 1 O O O) O (G7 (hK1 (Js fun hK2=>Jr fun hK3=>(JLm (E1 s) O (G48 O O O (Jb8 Gs O O) ?_)))))))
 rintro u_ L_ ⟨b4,hb4,rfl,rfl⟩
 replace h:=J48 h b4 hb4
 refine G7 (hK3 (JCc O h (fun h hb=>?_) (fun h hb=>?_)))
 ·
  refine Jr fun hK5=>(JLh (.vec 1086 ((([]:List Int).length)+1) 1 (([]:List Int).length)) (R78 1086 3 1 O O O) O (G7 (hK5 (Zg 2 O O (fun hn_=>Gn ?_)))))
  obtain rfl:=Option.some.inj h
  exact⟨[.vec 1086 ((([]:List Int).length)+1) 1 (([]:List Int).length)],[(1086,.vec 3 1 ((([]:List Int).length)+1) (([]:List Int).map I64))],⟨⟨_,O,.vec⟩,G⟩,O,⟨⟨_,O,.conv (.same O)⟩,G⟩,((([]:List Int).length)+1),congrArg (fun n_:Nat=>(.vec 1086 ((([]:List Int).length)+1) 1 n_:AV)) (hn_.trans O),O⟩
 ·
  refine Gk (hK2 (Jr fun hK6=>(JLh (.vec 1086 ((([]:List Int).length)+1) 1 (([]:List Int).length)) (R79 1086 3 1 O O Gs) O (JLm (E1 s) O ?_))))
  obtain⟨ha7,h⟩:=Hr h
  refine JLh (.vec 1086 (((([]:List Int).length)+1)+((([]:List Int)++s).length+1)) 1 ((([]:List Int)++s).length)) (G68 (f:=I64) (xs:=([]:List Int)) (ys:=s) (ver:=((([]:List Int).length)+1)) (ver1:=(((([]:List Int).length)+1)+((([]:List Int)++s).length+1))) rfl rfl rfl rfl Gs Zm ha7 (fun _=>rfl) (.inl rfl) (by simp)) O (JLm (.vec 1086 (((([]:List Int).length)+1)+((([]:List Int)++s).length+1)) 1 ((([]:List Int)++s).length)) O (G7 (hK6 (Zg 2 O O (fun hn_=>Gn ?_)))))
  obtain rfl:=Option.some.inj h
  exact⟨[.vec 1086 (((([]:List Int).length)+1)+((([]:List Int)++s).length+1)) 1 ((([]:List Int)++s).length)],[(1086,.vec 3 1 (((([]:List Int).length)+1)+((([]:List Int)++s).length+1)) ((([]:List Int)++s).map I64))],⟨⟨_,O,.vec⟩,G⟩,O,⟨⟨_,O,.conv (.same O)⟩,G⟩,(((([]:List Int).length)+1)+((([]:List Int)++s).length+1)),congrArg (fun n_:Nat=>(.vec 1086 (((([]:List Int).length)+1)+((([]:List Int)++s).length+1)) 1 n_:AV)) (hn_.trans (List.length_map _)),O⟩


theorem G8a (s:List Stowed) (r:(List Stowed)) (h:Ru s=some r):Qb Ei 93 [E2 s] [] (fun av L'=>∃ p:Nat,av=.vec 1114 p 4 r.length∧L'=[(1114,.vec 39 4 p (r.map Stowed.av))]):=by
 unfold Ru at h
 refine Qz [] [.tmp 2] Tryz.func93 O O (Ga6 O) (Jr fun hK1=>(JLh (.vec 1114 (([]:List Stowed).length) 4 (([]:List Stowed).length)) (G8f 1114 39 4 O O O) O (G7 (hK1 (Js fun hK2=>Jr fun hK3=>(JLm (E2 s) O (G48 O O O (Jb8 Gt O O) ?_)))))))
 rintro u_ L_ ⟨b4,hb4,rfl,rfl⟩
 replace h:=J48 h b4 hb4
 refine G7 (hK3 (JCc O h (fun h hb=>?_) (fun h hb=>?_)))
 ·
  refine Jr fun hK5=>(JLh (.vec 1114 ((([]:List Stowed).length)+1) 4 (([]:List Stowed).length)) (R78 1114 39 4 O O O) O (G7 (hK5 (Zg 2 O O (fun hn_=>Gn ?_)))))
  obtain rfl:=Option.some.inj h
  exact⟨[.vec 1114 ((([]:List Stowed).length)+1) 4 (([]:List Stowed).length)],[(1114,.vec 39 4 ((([]:List Stowed).length)+1) (([]:List Stowed).map Stowed.av))],⟨⟨_,O,.vec⟩,G⟩,O,⟨⟨_,O,.conv (.same O)⟩,G⟩,((([]:List Stowed).length)+1),congrArg (fun n_:Nat=>(.vec 1114 ((([]:List Stowed).length)+1) 4 n_:AV)) (hn_.trans O),O⟩
 ·
  refine Gk (hK2 (Jr fun hK6=>(JLh (.vec 1114 ((([]:List Stowed).length)+1) 4 (([]:List Stowed).length)) (R79 1114 39 4 O O Gt) O (JLm (E2 s) O ?_))))
  obtain⟨ha7,h⟩:=Hr h
  refine JLh (.vec 1114 (((([]:List Stowed).length)+1)+((([]:List Stowed)++s).length+1)) 4 ((([]:List Stowed)++s).length)) (G68 (f:=Stowed.av) (xs:=([]:List Stowed)) (ys:=s) (ver:=((([]:List Stowed).length)+1)) (ver1:=(((([]:List Stowed).length)+1)+((([]:List Stowed)++s).length+1))) rfl rfl rfl rfl Gt G2a ha7 (fun _=>rfl) (.inl rfl) (by simp)) O (JLm (.vec 1114 (((([]:List Stowed).length)+1)+((([]:List Stowed)++s).length+1)) 4 ((([]:List Stowed)++s).length)) O (G7 (hK6 (Zg 2 O O (fun hn_=>Gn ?_)))))
  obtain rfl:=Option.some.inj h
  exact⟨[.vec 1114 (((([]:List Stowed).length)+1)+((([]:List Stowed)++s).length+1)) 4 ((([]:List Stowed)++s).length)],[(1114,.vec 39 4 (((([]:List Stowed).length)+1)+((([]:List Stowed)++s).length+1)) ((([]:List Stowed)++s).map Stowed.av))],⟨⟨_,O,.vec⟩,G⟩,O,⟨⟨_,O,.conv (.same O)⟩,G⟩,(((([]:List Stowed).length)+1)+((([]:List Stowed)++s).length+1)),congrArg (fun n_:Nat=>(.vec 1114 (((([]:List Stowed).length)+1)+((([]:List Stowed)++s).length+1)) 4 n_:AV)) (hn_.trans (List.length_map _)),O⟩
end
end Go.Proofs.YtecjdioomlhhiaaGreat
