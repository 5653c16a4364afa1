/-
 Models of functions of the program,and that they return what the models say.
-/
import Derived.Test.YtjkmmenifdklmaaGreatXL
set_option maxRecDepth 100000
set_option linter.unusedVariables false
set_option linter.unusedSimpArgs false
namespace Go.Proofs.YtjkmmenifdklmaaGreat
open Go.RowKit
noncomputable section

namespace XCF
open XAF
open XLF

end XCF
open XAF
open XLF
open XCF

def Yk (s:List Int):Option (List Int):=
 nilB s fun b4=>
 bif b4 then
 (some [])
 else
 (need (decide ((([]:List Int).length+s.length)*8≤140737488355328∧([]:List Int).length+s.length≤maxLen)) <|
  some (([]:List Int)++s))
theorem Hb1 (s:List Int) (r:(List Int)) (h:Yk s=some r):Pure Eh 92 [E0 s] (·=E0 r):=by
 unfold Yk at h
 refine Gy [.tmp 2] Tryz.func92 O O (Jr fun hK1=>(JLh (E0 ([]:List Int)) (Hy 1 O O) O (G7 (hK1 (Js fun hK2=>Jr fun hK3=>(Yy (E0 s) O (H7b O O O (J7d Gu O O) ?_)))))))
 rintro u_ L_ ⟨b4,hb4,rfl,rfl⟩
 replace h:=J0c h b4 hb4
 refine G7 (hK3 (JCc O h (fun h hb=>?_) (fun h hb=>?_)))
 ·
  refine Jr fun hK5=>(JLh (E0 ([]:List Int)) (Hy 1 O O) O (G7 (hK5 (Gr (fin1 (fun r:(List Int)=>(E0 r:AV)) h)))))
 ·
  refine Gp (hK2 (Jr fun hK6=>(JLh (OW 930000005 1 G0 ([]:List Int)) (Q24 930000005 3 1 O O Gu) O (Yy (E0 s) O ?_))))
  obtain⟨ha7,h⟩:=J2 h
  refine JLh (OW 930000005 1 G0 (([]:List Int)++s)) (Gc2 (f:=G0) (xs:=([]:List Int)) (ys:=s) O O O O Gu G18 ha7 (fun _=>O) (.inl O)) O (Yy (OW 930000005 1 G0 (([]:List Int)++s)) O (G7 (hK6 (Gr (fin1l (fun r:(List Int)=>(E0 r:AV)) h)))))

def R9 (s:List Stowed):Option (List Stowed):=
 nilB s fun b4=>
 bif b4 then
 (some [])
 else
 (need (decide ((([]:List Stowed).length+s.length)*32≤140737488355328∧([]:List Stowed).length+s.length≤maxLen)) <|
  some (([]:List Stowed)++s))
theorem Gd4 (s:List Int) (r:(List Int)) (h:Yk s=some r):Re Eh 92 [E0 s] [] (fun av L'=>∃ p:Nat,av=.vec 1105 p 1 r.length∧L'=[(1105,.vec 3 1 p (r.map G0))]):=by
 unfold Yk at h
 refine G68 [] [.tmp 2] Tryz.func92 O O (J57 O) (Jr fun hK1=>(JLh (.vec 1105 (([]:List Int).length) 1 (([]:List Int).length)) (Q61 1105 3 1 O O O) O (G7 (hK1 (Js fun hK2=>Jr fun hK3=>(Yy (E0 s) O (H7b O O O (J7d Gu O O) ?_)))))))
 rintro u_ L_ ⟨b4,hb4,rfl,rfl⟩
 replace h:=J0c h b4 hb4
 refine G7 (hK3 (JCc O h (fun h hb=>?_) (fun h hb=>?_)))
 ·
  refine Jr fun hK5=>(JLh (.vec 1105 ((([]:List Int).length)+1) 1 (([]:List Int).length)) (A_vnil2 1105 3 1 O O O) O (G7 (hK5 (J7b 2 O O (fun hn_=>Gr ?_)))))
  obtain rfl:=Option.some.inj h
  exact⟨[.vec 1105 ((([]:List Int).length)+1) 1 (([]:List Int).length)],[(1105,.vec 3 1 ((([]:List Int).length)+1) (([]:List Int).map G0))],⟨⟨_,O,.vec⟩,G⟩,O,⟨⟨_,O,.conv (.same O)⟩,G⟩,((([]:List Int).length)+1),congrArg (fun n_:Nat=>(.vec 1105 ((([]:List Int).length)+1) 1 n_:AV)) (hn_.trans O),O⟩
 ·
  refine Gp (hK2 (Jr fun hK6=>(JLh (.vec 1105 ((([]:List Int).length)+1) 1 (([]:List Int).length)) (A_vlit2 1105 3 1 O O Gu) O (Yy (E0 s) O ?_))))
  obtain⟨ha7,h⟩:=J2 h
  refine JLh (.vec 1105 (((([]:List Int).length)+1)+((([]:List Int)++s).length+1)) 1 ((([]:List Int)++s).length)) (H1a (f:=G0) (xs:=([]:List Int)) (ys:=s) (ver:=((([]:List Int).length)+1)) (ver1:=(((([]:List Int).length)+1)+((([]:List Int)++s).length+1))) rfl rfl rfl rfl Gu G18 ha7 (fun _=>rfl) (.inl rfl) (by simp)) O (Yy (.vec 1105 (((([]:List Int).length)+1)+((([]:List Int)++s).length+1)) 1 ((([]:List Int)++s).length)) O (G7 (hK6 (J7b 2 O O (fun hn_=>Gr ?_)))))
  obtain rfl:=Option.some.inj h
  exact⟨[.vec 1105 (((([]:List Int).length)+1)+((([]:List Int)++s).length+1)) 1 ((([]:List Int)++s).length)],[(1105,.vec 3 1 (((([]:List Int).length)+1)+((([]:List Int)++s).length+1)) ((([]:List Int)++s).map G0))],⟨⟨_,O,.vec⟩,G⟩,O,⟨⟨_,O,.conv (.same O)⟩,G⟩,(((([]:List Int).length)+1)+((([]:List Int)++s).length+1)),congrArg (fun n_:Nat=>(.vec 1105 (((([]:List Int).length)+1)+((([]:List Int)++s).length+1)) 1 n_:AV)) (hn_.trans (List.length_map _)),O⟩


theorem G63 (s:List Stowed) (r:(List Stowed)) (h:R9 s=some r):Re Eh 132 [E1 s] [] (fun av L'=>∃ p:Nat,av=.vec 1137 p 4 r.length∧L'=[(1137,.vec 63 4 p (r.map Stowed.av))]):=by
 unfold R9 at h
 refine G68 [] [.tmp 2] Tryz.func132 O O (J57 O) (Jr fun hK1=>(JLh (.vec 1137 (([]:List Stowed).length) 4 (([]:List Stowed).length)) (Q61 1137 63 4 O O O) O (G7 (hK1 (Js fun hK2=>Jr fun hK3=>(Yy (E1 s) O (H7b O O O (J7d H0 O O) ?_)))))))
 rintro u_ L_ ⟨b4,hb4,rfl,rfl⟩
 replace h:=J0c h b4 hb4
 refine G7 (hK3 (JCc O h (fun h hb=>?_) (fun h hb=>?_)))
 ·
  refine Jr fun hK5=>(JLh (.vec 1137 ((([]:List Stowed).length)+1) 4 (([]:List Stowed).length)) (A_vnil2 1137 63 4 O O O) O (G7 (hK5 (J7b 2 O O (fun hn_=>Gr ?_)))))
  obtain rfl:=Option.some.inj h
  exact⟨[.vec 1137 ((([]:List Stowed).length)+1) 4 (([]:List Stowed).length)],[(1137,.vec 63 4 ((([]:List Stowed).length)+1) (([]:List Stowed).map Stowed.av))],⟨⟨_,O,.vec⟩,G⟩,O,⟨⟨_,O,.conv (.same O)⟩,G⟩,((([]:List Stowed).length)+1),congrArg (fun n_:Nat=>(.vec 1137 ((([]:List Stowed).length)+1) 4 n_:AV)) (hn_.trans O),O⟩
 ·
  refine Gp (hK2 (Jr fun hK6=>(JLh (.vec 1137 ((([]:List Stowed).length)+1) 4 (([]:List Stowed).length)) (A_vlit2 1137 63 4 O O H0) O (Yy (E1 s) O ?_))))
  obtain⟨ha7,h⟩:=J2 h
  refine JLh (.vec 1137 (((([]:List Stowed).length)+1)+((([]:List Stowed)++s).length+1)) 4 ((([]:List Stowed)++s).length)) (H1a (f:=Stowed.av) (xs:=([]:List Stowed)) (ys:=s) (ver:=((([]:List Stowed).length)+1)) (ver1:=(((([]:List Stowed).length)+1)+((([]:List Stowed)++s).length+1))) rfl rfl rfl rfl H0 Gfd ha7 (fun _=>rfl) (.inl rfl) (by simp)) O (Yy (.vec 1137 (((([]:List Stowed).length)+1)+((([]:List Stowed)++s).length+1)) 4 ((([]:List Stowed)++s).length)) O (G7 (hK6 (J7b 2 O O (fun hn_=>Gr ?_)))))
  obtain rfl:=Option.some.inj h
  exact⟨[.vec 1137 (((([]:List Stowed).length)+1)+((([]:List Stowed)++s).length+1)) 4 ((([]:List Stowed)++s).length)],[(1137,.vec 63 4 (((([]:List Stowed).length)+1)+((([]:List Stowed)++s).length+1)) ((([]:List Stowed)++s).map Stowed.av))],⟨⟨_,O,.vec⟩,G⟩,O,⟨⟨_,O,.conv (.same O)⟩,G⟩,(((([]:List Stowed).length)+1)+((([]:List Stowed)++s).length+1)),congrArg (fun n_:Nat=>(.vec 1137 (((([]:List Stowed).length)+1)+((([]:List Stowed)++s).length+1)) 4 n_:AV)) (hn_.trans (List.length_map _)),O⟩
end
end Go.Proofs.YtjkmmenifdklmaaGreat
