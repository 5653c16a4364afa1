/-
 Models of functions of the program,and that they return what the models say.
-/
import Derived.Test.YtkcdjcgifgdanaaGreatSpecJ
import Derived.Test.YtkcdjcgifgdanaaGreatSpecJ
set_option linter.unnecessarySimpa false
set_option maxRecDepth 100000
set_option maxHeartbeats 1000000
set_option linter.unusedVariables false
set_option linter.unusedSimpArgs false
namespace Go.Proofs.YtkcdjcgifgdanaaGreat
open Go.RowKit
noncomputable section

namespace XCF
open XAF
theorem G43:Y3 Ej 3 1 8=true:=by kernel_rfl
theorem Gd2:Y3 Ej 80 4 32=true:=by kernel_rfl
theorem Gx:sliceB Ej 47 80 4=true:=by kernel_rfl
end XCF
open XAF
open XCF

def Jv (s:List Int):Option (List Int):=
 nilB s fun b4=>
 bif b4 then
 (some [])
 else
 (need (decide ((([]:List Int).length+s.length)*8≤140737488355328∧([]:List Int).length+s.length≤maxLen)) <|
  some (([]:List Int)++s))
theorem Gaf (s:List Int) (r:(List Int)) (h:Jv s=some r):Pure Ej 59 [E1 s] (·=E1 r):=by
 unfold Jv at h
 refine H1 [.tmp 2] Tryz.func59 O O (Jr fun hK1=>(JLh (E1 ([]:List Int)) (Ht 1 O O) O (G7 (hK1 (Js fun hK2=>Jr fun hK3=>(Ru (E1 s) O (H8b O O O (J45 Gv O O) ?_)))))))
 rintro u_ L_ ⟨b4,hb4,rfl,rfl⟩
 replace h:=Hd6 h b4 hb4
 refine G7 (hK3 (JCc O h (fun h hb=>?_) (fun h hb=>?_)))
 ·
  refine Jr fun hK5=>(JLh (E1 ([]:List Int)) (Ht 1 O O) O (G7 (hK5 (Gr (fin1 (fun r:(List Int)=>(E1 r:AV)) h)))))
 ·
  refine Gn (hK2 (Jr fun hK6=>(JLh (OW 600000005 1 G0 ([]:List Int)) (Je6 600000005 3 1 O O Gv) O (Ru (E1 s) O ?_))))
  obtain⟨ha7,h⟩:=Jj h
  refine JLh (OW 600000005 1 G0 (([]:List Int)++s)) (Jc4 (f:=G0) (xs:=([]:List Int)) (ys:=s) O O O O Gv G43 ha7 (fun _=>O) (.inl O)) O (Ru (OW 600000005 1 G0 (([]:List Int)++s)) O (G7 (hK6 (Gr (fin1l (fun r:(List Int)=>(E1 r:AV)) h)))))

def Qm (s:List Stowed):Option (List Stowed):=
 nilB s fun b4=>
 bif b4 then
 (some [])
 else
 (need (decide ((([]:List Stowed).length+s.length)*32≤140737488355328∧([]:List Stowed).length+s.length≤maxLen)) <|
  some (([]:List Stowed)++s))
theorem Gb0 (s:List Int) (r:(List Int)) (h:Jv s=some r):Qc Ej 59 [E1 s] [] (fun av L'=>∃ p:Nat,av=.vec 1129 p 1 r.length∧L'=[(1129,.vec 3 1 p (r.map G0))]):=by
 unfold Jv at h
 refine Yy [] [.tmp 2] Tryz.func59 O O (H47 O) (Jr fun hK1=>(JLh (.vec 1129 (([]:List Int).length) 1 (([]:List Int).length)) (Jca 1129 3 1 O O O) O (G7 (hK1 (Js fun hK2=>Jr fun hK3=>(Ru (E1 s) O (H8b O O O (J45 Gv O O) ?_)))))))
 rintro u_ L_ ⟨b4,hb4,rfl,rfl⟩
 replace h:=Hd6 h b4 hb4
 refine G7 (hK3 (JCc O h (fun h hb=>?_) (fun h hb=>?_)))
 ·
  refine Jr fun hK5=>(JLh (.vec 1129 ((([]:List Int).length)+1) 1 (([]:List Int).length)) (A_vnil2 1129 3 1 O O O) O (G7 (hK5 (H43 2 O O (fun hn_=>Gr ?_)))))
  obtain rfl:=Option.some.inj h
  exact⟨[.vec 1129 ((([]:List Int).length)+1) 1 (([]:List Int).length)],[(1129,.vec 3 1 ((([]:List Int).length)+1) (([]:List Int).map G0))],⟨⟨_,O,.vec⟩,G⟩,O,⟨⟨_,O,.conv (.same O)⟩,G⟩,((([]:List Int).length)+1),congrArg (fun n_:Nat=>(.vec 1129 ((([]:List Int).length)+1) 1 n_:AV)) (hn_.trans O),O⟩
 ·
  refine Gn (hK2 (Jr fun hK6=>(JLh (.vec 1129 ((([]:List Int).length)+1) 1 (([]:List Int).length)) (A_vlit2 1129 3 1 O O Gv) O (Ru (E1 s) O ?_))))
  obtain⟨ha7,h⟩:=Jj h
  refine JLh (.vec 1129 (((([]:List Int).length)+1)+((([]:List Int)++s).length+1)) 1 ((([]:List Int)++s).length)) (Ge9 (f:=G0) (xs:=([]:List Int)) (ys:=s) (ver:=((([]:List Int).length)+1)) (ver1:=(((([]:List Int).length)+1)+((([]:List Int)++s).length+1))) rfl rfl rfl rfl Gv G43 ha7 (fun _=>rfl) (.inl rfl) (by simp)) O (Ru (.vec 1129 (((([]:List Int).length)+1)+((([]:List Int)++s).length+1)) 1 ((([]:List Int)++s).length)) O (G7 (hK6 (H43 2 O O (fun hn_=>Gr ?_)))))
  obtain rfl:=Option.some.inj h
  exact⟨[.vec 1129 (((([]:List Int).length)+1)+((([]:List Int)++s).length+1)) 1 ((([]:List Int)++s).length)],[(1129,.vec 3 1 (((([]:List Int).length)+1)+((([]:List Int)++s).length+1)) ((([]:List Int)++s).map G0))],⟨⟨_,O,.vec⟩,G⟩,O,⟨⟨_,O,.conv (.same O)⟩,G⟩,(((([]:List Int).length)+1)+((([]:List Int)++s).length+1)),congrArg (fun n_:Nat=>(.vec 1129 (((([]:List Int).length)+1)+((([]:List Int)++s).length+1)) 1 n_:AV)) (hn_.trans (List.length_map _)),O⟩


theorem G3d (s:List Stowed) (r:(List Stowed)) (h:Qm s=some r):Qc Ej 93 [E0 s] [] (fun av L'=>∃ p:Nat,av=.vec 1153 p 4 r.length∧L'=[(1153,.vec 80 4 p (r.map Stowed.av))]):=by
 unfold Qm at h
 refine Yy [] [.tmp 2] Tryz.func93 O O (H47 O) (Jr fun hK1=>(JLh (.vec 1153 (([]:List Stowed).length) 4 (([]:List Stowed).length)) (Jca 1153 80 4 O O O) O (G7 (hK1 (Js fun hK2=>Jr fun hK3=>(Ru (E0 s) O (H8b O O O (J45 Gx O O) ?_)))))))
 rintro u_ L_ ⟨b4,hb4,rfl,rfl⟩
 replace h:=Hd6 h b4 hb4
 refine G7 (hK3 (JCc O h (fun h hb=>?_) (fun h hb=>?_)))
 ·
  refine Jr fun hK5=>(JLh (.vec 1153 ((([]:List Stowed).length)+1) 4 (([]:List Stowed).length)) (A_vnil2 1153 80 4 O O O) O (G7 (hK5 (H43 2 O O (fun hn_=>Gr ?_)))))
  obtain rfl:=Option.some.inj h
  exact⟨[.vec 1153 ((([]:List Stowed).length)+1) 4 (([]:List Stowed).length)],[(1153,.vec 80 4 ((([]:List Stowed).length)+1) (([]:List Stowed).map Stowed.av))],⟨⟨_,O,.vec⟩,G⟩,O,⟨⟨_,O,.conv (.same O)⟩,G⟩,((([]:List Stowed).length)+1),congrArg (fun n_:Nat=>(.vec 1153 ((([]:List Stowed).length)+1) 4 n_:AV)) (hn_.trans O),O⟩
 ·
  refine Gn (hK2 (Jr fun hK6=>(JLh (.vec 1153 ((([]:List Stowed).length)+1) 4 (([]:List Stowed).length)) (A_vlit2 1153 80 4 O O Gx) O (Ru (E0 s) O ?_))))
  obtain⟨ha7,h⟩:=Jj h
  refine JLh (.vec 1153 (((([]:List Stowed).length)+1)+((([]:List Stowed)++s).length+1)) 4 ((([]:List Stowed)++s).length)) (Ge9 (f:=Stowed.av) (xs:=([]:List Stowed)) (ys:=s) (ver:=((([]:List Stowed).length)+1)) (ver1:=(((([]:List Stowed).length)+1)+((([]:List Stowed)++s).length+1))) rfl rfl rfl rfl Gx Gd2 ha7 (fun _=>rfl) (.inl rfl) (by simp)) O (Ru (.vec 1153 (((([]:List Stowed).length)+1)+((([]:List Stowed)++s).length+1)) 4 ((([]:List Stowed)++s).length)) O (G7 (hK6 (H43 2 O O (fun hn_=>Gr ?_)))))
  obtain rfl:=Option.some.inj h
  exact⟨[.vec 1153 (((([]:List Stowed).length)+1)+((([]:List Stowed)++s).length+1)) 4 ((([]:List Stowed)++s).length)],[(1153,.vec 80 4 (((([]:List Stowed).length)+1)+((([]:List Stowed)++s).length+1)) ((([]:List Stowed)++s).map Stowed.av))],⟨⟨_,O,.vec⟩,G⟩,O,⟨⟨_,O,.conv (.same O)⟩,G⟩,(((([]:List Stowed).length)+1)+((([]:List Stowed)++s).length+1)),congrArg (fun n_:Nat=>(.vec 1153 (((([]:List Stowed).length)+1)+((([]:List Stowed)++s).length+1)) 4 n_:AV)) (hn_.trans (List.length_map _)),O⟩
end
end Go.Proofs.YtkcdjcgifgdanaaGreat
