/-
 Models of functions of the program,and that they return what the models say.
-/
import Derived.Test.YtknalejjpofoaaaGreatSpecI
import Derived.Test.YtknalejjpofoaaaGreatSpecI
set_option maxRecDepth 100000
set_option maxHeartbeats 1000000
set_option linter.unusedVariables false
set_option linter.unusedSimpArgs false
namespace Go.Proofs.YtknalejjpofoaaaGreat
open Go.RowKit
noncomputable section
structure Stowed where
 Gd:Int
 Slot:Slot
 deriving DecidableEq,Inhabited
def Stowed.cs (x:Stowed):List AV:=[G0 x.Gd,G0 x.Slot.G4,G0 x.Slot.Tier,U8 x.Slot.Half]
def Stowed.av (x:Stowed):AV:=.agg x.cs
abbrev Eg (x:Stowed):AV:=.dptr (Stowed.cs x)
abbrev E1:=LS 4 Stowed.av
namespace XCF
open XAF
theorem Yy:Y2 Ep 3 1 8=true:=by kernel_rfl
theorem Gd5:Y2 Ep 82 4 32=true:=by kernel_rfl
theorem Gy:sliceB Ep 48 82 4=true:=by kernel_rfl
end XCF
open XAF
open XCF

def Q3 (s:List Int):Option (List Int):=
 nilB s fun b4=>
 bif b4 then
 (some [])
 else
 (need (decide ((([]:List Int).length+s.length)*8≤140737488355328∧([]:List Int).length+s.length≤maxLen)) <|
  some (([]:List Int)++s))
theorem Gfd (s:List Int) (r:(List Int)) (h:Q3 s=some r):Pure Ep 39 [E2 s] (·=E2 r):=by
 unfold Q3 at h
 refine Gz [.tmp 2] Tryz.func39 O O (Jr fun hK1=>(JLh (E2 ([]:List Int)) (Hf 1 O O) O (G7 (hK1 (Js fun hK2=>Jr fun hK3=>(Yb (E2 s) O (G5f O O O (Jd7 Gt O O) ?_)))))))
 rintro u_ L_ ⟨b4,hb4,rfl,rfl⟩
 replace h:=J53 h b4 hb4
 refine G7 (hK3 (JCc O h (fun h hb=>?_) (fun h hb=>?_)))
 ·
  refine Jr fun hK5=>(JLh (E2 ([]:List Int)) (Hf 1 O O) O (G7 (hK5 (Gs (fin1 (fun r:(List Int)=>(E2 r:AV)) h)))))
 ·
  refine Gi (hK2 (Jr fun hK6=>(JLh (OW 400000005 1 G0 ([]:List Int)) (Q3e 400000005 3 1 O O Gt) O (Yb (E2 s) O ?_))))
  obtain⟨ha7,h⟩:=Jd h
  refine JLh (OW 400000005 1 G0 (([]:List Int)++s)) (J8d (f:=G0) (xs:=([]:List Int)) (ys:=s) O O O O Gt Yy ha7 (fun _=>O) (.inl O)) O (Yb (OW 400000005 1 G0 (([]:List Int)++s)) O (G7 (hK6 (Gs (fin1l (fun r:(List Int)=>(E2 r:AV)) h)))))

def Qy (s:List Stowed):Option (List Stowed):=
 nilB s fun b4=>
 bif b4 then
 (some [])
 else
 (need (decide ((([]:List Stowed).length+s.length)*32≤140737488355328∧([]:List Stowed).length+s.length≤maxLen)) <|
  some (([]:List Stowed)++s))
theorem Gfe (s:List Int) (r:(List Int)) (h:Q3 s=some r):Jn Ep 39 [E2 s] [] (fun av L'=>∃ p:Nat,av=.vec 1103 p 1 r.length∧L'=[(1103,.vec 3 1 p (r.map G0))]):=by
 unfold Q3 at h
 refine Jq [] [.tmp 2] Tryz.func39 O O (G2e O) (Jr fun hK1=>(JLh (.vec 1103 (([]:List Int).length) 1 (([]:List Int).length)) (H79 1103 3 1 O O O) O (G7 (hK1 (Js fun hK2=>Jr fun hK3=>(Yb (E2 s) O (G5f O O O (Jd7 Gt O O) ?_)))))))
 rintro u_ L_ ⟨b4,hb4,rfl,rfl⟩
 replace h:=J53 h b4 hb4
 refine G7 (hK3 (JCc O h (fun h hb=>?_) (fun h hb=>?_)))
 ·
  refine Jr fun hK5=>(JLh (.vec 1103 ((([]:List Int).length)+1) 1 (([]:List Int).length)) (A_vnil2 1103 3 1 O O O) O (G7 (hK5 (H1a 2 O O (fun hn_=>Gs ?_)))))
  obtain rfl:=Option.some.inj h
  exact⟨[.vec 1103 ((([]:List Int).length)+1) 1 (([]:List Int).length)],[(1103,.vec 3 1 ((([]:List Int).length)+1) (([]:List Int).map G0))],⟨⟨_,O,.vec⟩,ø⟩,O,⟨⟨_,O,.conv (.same O)⟩,ø⟩,((([]:List Int).length)+1),congrArg (fun n_:Nat=>(.vec 1103 ((([]:List Int).length)+1) 1 n_:AV)) (hn_.trans O),O⟩
 ·
  refine Gi (hK2 (Jr fun hK6=>(JLh (.vec 1103 ((([]:List Int).length)+1) 1 (([]:List Int).length)) (A_vlit2 1103 3 1 O O Gt) O (Yb (E2 s) O ?_))))
  obtain⟨ha7,h⟩:=Jd h
  refine JLh (.vec 1103 (((([]:List Int).length)+1)+((([]:List Int)++s).length+1)) 1 ((([]:List Int)++s).length)) (G70 (f:=G0) (xs:=([]:List Int)) (ys:=s) (ver:=((([]:List Int).length)+1)) (ver1:=(((([]:List Int).length)+1)+((([]:List Int)++s).length+1))) rfl rfl rfl rfl Gt Yy ha7 (fun _=>rfl) (.inl rfl) (by simp)) O (Yb (.vec 1103 (((([]:List Int).length)+1)+((([]:List Int)++s).length+1)) 1 ((([]:List Int)++s).length)) O (G7 (hK6 (H1a 2 O O (fun hn_=>Gs ?_)))))
  obtain rfl:=Option.some.inj h
  exact⟨[.vec 1103 (((([]:List Int).length)+1)+((([]:List Int)++s).length+1)) 1 ((([]:List Int)++s).length)],[(1103,.vec 3 1 (((([]:List Int).length)+1)+((([]:List Int)++s).length+1)) ((([]:List Int)++s).map G0))],⟨⟨_,O,.vec⟩,ø⟩,O,⟨⟨_,O,.conv (.same O)⟩,ø⟩,(((([]:List Int).length)+1)+((([]:List Int)++s).length+1)),congrArg (fun n_:Nat=>(.vec 1103 (((([]:List Int).length)+1)+((([]:List Int)++s).length+1)) 1 n_:AV)) (hn_.trans (List.length_map _)),O⟩


theorem G6b (s:List Stowed) (r:(List Stowed)) (h:Qy s=some r):Jn Ep 78 [E1 s] [] (fun av L'=>∃ p:Nat,av=.vec 1152 p 4 r.length∧L'=[(1152,.vec 82 4 p (r.map Stowed.av))]):=by
 unfold Qy at h
 refine Jq [] [.tmp 2] Tryz.func78 O O (G2e O) (Jr fun hK1=>(JLh (.vec 1152 (([]:List Stowed).length) 4 (([]:List Stowed).length)) (H79 1152 82 4 O O O) O (G7 (hK1 (Js fun hK2=>Jr fun hK3=>(Yb (E1 s) O (G5f O O O (Jd7 Gy O O) ?_)))))))
 rintro u_ L_ ⟨b4,hb4,rfl,rfl⟩
 replace h:=J53 h b4 hb4
 refine G7 (hK3 (JCc O h (fun h hb=>?_) (fun h hb=>?_)))
 ·
  refine Jr fun hK5=>(JLh (.vec 1152 ((([]:List Stowed).length)+1) 4 (([]:List Stowed).length)) (A_vnil2 1152 82 4 O O O) O (G7 (hK5 (H1a 2 O O (fun hn_=>Gs ?_)))))
  obtain rfl:=Option.some.inj h
  exact⟨[.vec 1152 ((([]:List Stowed).length)+1) 4 (([]:List Stowed).length)],[(1152,.vec 82 4 ((([]:List Stowed).length)+1) (([]:List Stowed).map Stowed.av))],⟨⟨_,O,.vec⟩,ø⟩,O,⟨⟨_,O,.conv (.same O)⟩,ø⟩,((([]:List Stowed).length)+1),congrArg (fun n_:Nat=>(.vec 1152 ((([]:List Stowed).length)+1) 4 n_:AV)) (hn_.trans O),O⟩
 ·
  refine Gi (hK2 (Jr fun hK6=>(JLh (.vec 1152 ((([]:List Stowed).length)+1) 4 (([]:List Stowed).length)) (A_vlit2 1152 82 4 O O Gy) O (Yb (E1 s) O ?_))))
  obtain⟨ha7,h⟩:=Jd h
  refine JLh (.vec 1152 (((([]:List Stowed).length)+1)+((([]:List Stowed)++s).length+1)) 4 ((([]:List Stowed)++s).length)) (G70 (f:=Stowed.av) (xs:=([]:List Stowed)) (ys:=s) (ver:=((([]:List Stowed).length)+1)) (ver1:=(((([]:List Stowed).length)+1)+((([]:List Stowed)++s).length+1))) rfl rfl rfl rfl Gy Gd5 ha7 (fun _=>rfl) (.inl rfl) (by simp)) O (Yb (.vec 1152 (((([]:List Stowed).length)+1)+((([]:List Stowed)++s).length+1)) 4 ((([]:List Stowed)++s).length)) O (G7 (hK6 (H1a 2 O O (fun hn_=>Gs ?_)))))
  obtain rfl:=Option.some.inj h
  exact⟨[.vec 1152 (((([]:List Stowed).length)+1)+((([]:List Stowed)++s).length+1)) 4 ((([]:List Stowed)++s).length)],[(1152,.vec 82 4 (((([]:List Stowed).length)+1)+((([]:List Stowed)++s).length+1)) ((([]:List Stowed)++s).map Stowed.av))],⟨⟨_,O,.vec⟩,ø⟩,O,⟨⟨_,O,.conv (.same O)⟩,ø⟩,(((([]:List Stowed).length)+1)+((([]:List Stowed)++s).length+1)),congrArg (fun n_:Nat=>(.vec 1152 (((([]:List Stowed).length)+1)+((([]:List Stowed)++s).length+1)) 4 n_:AV)) (hn_.trans (List.length_map _)),O⟩
end
end Go.Proofs.YtknalejjpofoaaaGreat
