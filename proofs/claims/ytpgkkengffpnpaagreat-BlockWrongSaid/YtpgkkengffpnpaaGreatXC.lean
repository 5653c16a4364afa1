/-
 Models of functions of the program,and that they return what the models say.
-/
import Derived.Test.YtpgkkengffpnpaaGreatIterJ
import Derived.Test.YtpgkkengffpnpaaGreatIterJ
import Derived.Test.YtpgkkengffpnpaaGreatIterJ
set_option linter.unnecessarySimpa false
set_option maxRecDepth 100000
set_option maxHeartbeats 1000000
set_option linter.unusedVariables false
set_option linter.unusedSimpArgs false
namespace Go.Proofs.YtpgkkengffpnpaaGreat
open Go.RowKit
noncomputable section
structure Stowed where
 G9:Int
 Slot:Slot
 deriving DecidableEq,Inhabited
def Stowed.cs (x:Stowed):List AV:=[G0 x.G9,G0 x.Slot.G4,G0 x.Slot.Tier,U8 x.Slot.Half]
def Stowed.av (x:Stowed):AV:=.agg x.cs
abbrev Ed (x:Stowed):AV:=.dptr (Stowed.cs x)
abbrev E1:=LS 4 Stowed.av
namespace XCF
open XAF
theorem Zp:Y7 Ek 3 1 8=true:=by kernel_rfl
theorem G1c:Y7 Ek 49 4 32=true:=by kernel_rfl
theorem H2:sliceB Ek 37 49 4=true:=by kernel_rfl
end XCF
open XAF
open XCF

def Qn (s:List Int):Option (List Int):=
 nilB s fun b4=>
 bif b4 then
 (some [])
 else
 (need (decide ((([]:List Int).length+s.length)*8≤140737488355328∧([]:List Int).length+s.length≤maxLen)) <|
  some (([]:List Int)++s))
theorem H62 (s:List Int) (r:(List Int)) (h:Qn s=some r):Pure Ek 48 [E0 s] (·=E0 r):=by
 unfold Qn at h
 refine H6 [.tmp 2] Tryz.func48 O O (Jr fun hK1=>(JLh (E0 ([]:List Int)) (Hf 1 O O) O (G7 (hK1 (Js fun hK2=>Jr fun hK3=>(Yv (E0 s) O (G68 O O O (J3e Gq O O) ?_)))))))
 rintro u_ L_ ⟨b4,hb4,rfl,rfl⟩
 replace h:=Hc5 h b4 hb4
 refine G7 (hK3 (JCc O h (fun h hb=>?_) (fun h hb=>?_)))
 ·
  refine Jr fun hK5=>(JLh (E0 ([]:List Int)) (Hf 1 O O) O (G7 (hK5 (Gx (fin1 (fun r:(List Int)=>(E0 r:AV)) h)))))
 ·
  refine Gr (hK2 (Jr fun hK6=>(JLh (OW 490000005 1 G0 ([]:List Int)) (He2 490000005 3 1 O O Gq) O (Yv (E0 s) O ?_))))
  obtain⟨ha7,h⟩:=J7 h
  refine JLh (OW 490000005 1 G0 (([]:List Int)++s)) (H19 (f:=G0) (xs:=([]:List Int)) (ys:=s) O O O O Gq Zp ha7 (fun _=>O) (.inl O)) O (Yv (OW 490000005 1 G0 (([]:List Int)++s)) O (G7 (hK6 (Gx (fin1l (fun r:(List Int)=>(E0 r:AV)) h)))))

def Qu (s:List Stowed):Option (List Stowed):=
 nilB s fun b4=>
 bif b4 then
 (some [])
 else
 (need (decide ((([]:List Stowed).length+s.length)*32≤140737488355328∧([]:List Stowed).length+s.length≤maxLen)) <|
  some (([]:List Stowed)++s))
theorem H63 (s:List Int) (r:(List Int)) (h:Qn s=some r):Qx Ek 48 [E0 s] [] (fun av L'=>∃ p:Nat,av=.vec 1116 p 1 r.length∧L'=[(1116,.vec 3 1 p (r.map G0))]):=by
 unfold Qn at h
 refine G21 [] [.tmp 2] Tryz.func48 O O (Hcd O) (Jr fun hK1=>(JLh (.vec 1116 (([]:List Int).length) 1 (([]:List Int).length)) (Haf 1116 3 1 O O O) O (G7 (hK1 (Js fun hK2=>Jr fun hK3=>(Yv (E0 s) O (G68 O O O (J3e Gq O O) ?_)))))))
 rintro u_ L_ ⟨b4,hb4,rfl,rfl⟩
 replace h:=Hc5 h b4 hb4
 refine G7 (hK3 (JCc O h (fun h hb=>?_) (fun h hb=>?_)))
 ·
  refine Jr fun hK5=>(JLh (.vec 1116 ((([]:List Int).length)+1) 1 (([]:List Int).length)) (A_vnil2 1116 3 1 O O O) O (G7 (hK5 (H7c 2 O O (fun hn_=>Gx ?_)))))
  obtain rfl:=Option.some.inj h
  exact⟨[.vec 1116 ((([]:List Int).length)+1) 1 (([]:List Int).length)],[(1116,.vec 3 1 ((([]:List Int).length)+1) (([]:List Int).map G0))],⟨⟨_,O,.vec⟩,G⟩,O,⟨⟨_,O,.conv (.same O)⟩,G⟩,((([]:List Int).length)+1),congrArg (fun n_:Nat=>(.vec 1116 ((([]:List Int).length)+1) 1 n_:AV)) (hn_.trans O),O⟩
 ·
  refine Gr (hK2 (Jr fun hK6=>(JLh (.vec 1116 ((([]:List Int).length)+1) 1 (([]:List Int).length)) (A_vlit2 1116 3 1 O O Gq) O (Yv (E0 s) O ?_))))
  obtain⟨ha7,h⟩:=J7 h
  refine JLh (.vec 1116 (((([]:List Int).length)+1)+((([]:List Int)++s).length+1)) 1 ((([]:List Int)++s).length)) (G44 (f:=G0) (xs:=([]:List Int)) (ys:=s) (ver:=((([]:List Int).length)+1)) (ver1:=(((([]:List Int).length)+1)+((([]:List Int)++s).length+1))) rfl rfl rfl rfl Gq Zp ha7 (fun _=>rfl) (.inl rfl) (by simp)) O (Yv (.vec 1116 (((([]:List Int).length)+1)+((([]:List Int)++s).length+1)) 1 ((([]:List Int)++s).length)) O (G7 (hK6 (H7c 2 O O (fun hn_=>Gx ?_)))))
  obtain rfl:=Option.some.inj h
  exact⟨[.vec 1116 (((([]:List Int).length)+1)+((([]:List Int)++s).length+1)) 1 ((([]:List Int)++s).length)],[(1116,.vec 3 1 (((([]:List Int).length)+1)+((([]:List Int)++s).length+1)) ((([]:List Int)++s).map G0))],⟨⟨_,O,.vec⟩,G⟩,O,⟨⟨_,O,.conv (.same O)⟩,G⟩,(((([]:List Int).length)+1)+((([]:List Int)++s).length+1)),congrArg (fun n_:Nat=>(.vec 1116 (((([]:List Int).length)+1)+((([]:List Int)++s).length+1)) 1 n_:AV)) (hn_.trans (List.length_map _)),O⟩


theorem G40 (s:List Stowed) (r:(List Stowed)) (h:Qu s=some r):Qx Ek 83 [E1 s] [] (fun av L'=>∃ p:Nat,av=.vec 1142 p 4 r.length∧L'=[(1142,.vec 49 4 p (r.map Stowed.av))]):=by
 unfold Qu at h
 refine G21 [] [.tmp 2] Tryz.func83 O O (Hcd O) (Jr fun hK1=>(JLh (.vec 1142 (([]:List Stowed).length) 4 (([]:List Stowed).length)) (Haf 1142 49 4 O O O) O (G7 (hK1 (Js fun hK2=>Jr fun hK3=>(Yv (E1 s) O (G68 O O O (J3e H2 O O) ?_)))))))
 rintro u_ L_ ⟨b4,hb4,rfl,rfl⟩
 replace h:=Hc5 h b4 hb4
 refine G7 (hK3 (JCc O h (fun h hb=>?_) (fun h hb=>?_)))
 ·
  refine Jr fun hK5=>(JLh (.vec 1142 ((([]:List Stowed).length)+1) 4 (([]:List Stowed).length)) (A_vnil2 1142 49 4 O O O) O (G7 (hK5 (H7c 2 O O (fun hn_=>Gx ?_)))))
  obtain rfl:=Option.some.inj h
  exact⟨[.vec 1142 ((([]:List Stowed).length)+1) 4 (([]:List Stowed).length)],[(1142,.vec 49 4 ((([]:List Stowed).length)+1) (([]:List Stowed).map Stowed.av))],⟨⟨_,O,.vec⟩,G⟩,O,⟨⟨_,O,.conv (.same O)⟩,G⟩,((([]:List Stowed).length)+1),congrArg (fun n_:Nat=>(.vec 1142 ((([]:List Stowed).length)+1) 4 n_:AV)) (hn_.trans O),O⟩
 ·
  refine Gr (hK2 (Jr fun hK6=>(JLh (.vec 1142 ((([]:List Stowed).length)+1) 4 (([]:List Stowed).length)) (A_vlit2 1142 49 4 O O H2) O (Yv (E1 s) O ?_))))
  obtain⟨ha7,h⟩:=J7 h
  refine JLh (.vec 1142 (((([]:List Stowed).length)+1)+((([]:List Stowed)++s).length+1)) 4 ((([]:List Stowed)++s).length)) (G44 (f:=Stowed.av) (xs:=([]:List Stowed)) (ys:=s) (ver:=((([]:List Stowed).length)+1)) (ver1:=(((([]:List Stowed).length)+1)+((([]:List Stowed)++s).length+1))) rfl rfl rfl rfl H2 G1c ha7 (fun _=>rfl) (.inl rfl) (by simp)) O (Yv (.vec 1142 (((([]:List Stowed).length)+1)+((([]:List Stowed)++s).length+1)) 4 ((([]:List Stowed)++s).length)) O (G7 (hK6 (H7c 2 O O (fun hn_=>Gx ?_)))))
  obtain rfl:=Option.some.inj h
  exact⟨[.vec 1142 (((([]:List Stowed).length)+1)+((([]:List Stowed)++s).length+1)) 4 ((([]:List Stowed)++s).length)],[(1142,.vec 49 4 (((([]:List Stowed).length)+1)+((([]:List Stowed)++s).length+1)) ((([]:List Stowed)++s).map Stowed.av))],⟨⟨_,O,.vec⟩,G⟩,O,⟨⟨_,O,.conv (.same O)⟩,G⟩,(((([]:List Stowed).length)+1)+((([]:List Stowed)++s).length+1)),congrArg (fun n_:Nat=>(.vec 1142 (((([]:List Stowed).length)+1)+((([]:List Stowed)++s).length+1)) 4 n_:AV)) (hn_.trans (List.length_map _)),O⟩
end
end Go.Proofs.YtpgkkengffpnpaaGreat
