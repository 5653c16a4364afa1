/-
 Models of functions of the program,and that they return what the models say.
-/
import Derived.Test.YtbljcmgjmieffaaGreatSpecI
import Derived.Test.YtbljcmgjmieffaaGreatSpecI
set_option linter.unnecessarySimpa false
set_option maxRecDepth 100000
set_option linter.unusedVariables false
set_option linter.unusedSimpArgs false
namespace Go.Proofs.YtbljcmgjmieffaaGreat
open Go.RowKit
noncomputable section
structure Stowed where
 Gb:Int
 Slot:Slot
 deriving DecidableEq,Inhabited
def Stowed.cs (x:Stowed):List AV:=[G0 x.Gb,G0 x.Slot.G3,G0 x.Slot.Tier,U8 x.Slot.Half]
def Stowed.av (x:Stowed):AV:=.agg x.cs
abbrev Ed (x:Stowed):AV:=.dptr (Stowed.cs x)
abbrev E1:=LS 4 Stowed.av
namespace XCF
open XAF
theorem Z8:Y4 Ek 3 1 8=true:=by kernel_rfl
theorem G16:Y4 Ek 47 4 32=true:=by kernel_rfl
theorem Gx:sliceB Ek 39 47 4=true:=by kernel_rfl
end XCF
open XAF
open XCF

def Qa (s:List Int):Option (List Int):=
 nilB s fun b4=>
 bif b4 then
 (some [])
 else
 (need (decide ((([]:List Int).length+s.length)*8≤140737488355328∧([]:List Int).length+s.length≤maxLen)) <|
  some (([]:List Int)++s))
theorem Ga1 (s:List Int) (r:(List Int)) (h:Qa s=some r):Pure Ek 33 [E0 s] (·=E0 r):=by
 unfold Qa at h
 refine H7 [.tmp 2] Tryz.func33 O O (Jr fun hK1=>(JLh (E0 ([]:List Int)) (Hk 1 O O) O (G7 (hK1 (Js fun hK2=>Jr fun hK3=>(Rt (E0 s) O (Ge8 O O O (J12 Gq O O) ?_)))))))
 rintro u_ L_ ⟨b4,hb4,rfl,rfl⟩
 replace h:=Ha0 h b4 hb4
 refine G7 (hK3 (JCc O h (fun h hb=>?_) (fun h hb=>?_)))
 ·
  refine Jr fun hK5=>(JLh (E0 ([]:List Int)) (Hk 1 O O) O (G7 (hK5 (Gw (fin1 (fun r:(List Int)=>(E0 r:AV)) h)))))
 ·
  refine Gs (hK2 (Jr fun hK6=>(JLh (OW 340000005 1 G0 ([]:List Int)) (H07 340000005 3 1 O O Gq) O (Rt (E0 s) O ?_))))
  obtain⟨ha7,h⟩:=Ja h
  refine JLh (OW 340000005 1 G0 (([]:List Int)++s)) (G2a (f:=G0) (xs:=([]:List Int)) (ys:=s) O O O O Gq Z8 ha7 (fun _=>O) (.inl O)) O (Rt (OW 340000005 1 G0 (([]:List Int)++s)) O (G7 (hK6 (Gw (fin1l (fun r:(List Int)=>(E0 r:AV)) h)))))

def Qr (s:List Stowed):Option (List Stowed):=
 nilB s fun b4=>
 bif b4 then
 (some [])
 else
 (need (decide ((([]:List Stowed).length+s.length)*32≤140737488355328∧([]:List Stowed).length+s.length≤maxLen)) <|
  some (([]:List Stowed)++s))
theorem Ga2 (s:List Int) (r:(List Int)) (h:Qa s=some r):Qp Ek 33 [E0 s] [] (fun av L'=>∃ p:Nat,av=.vec 1076 p 1 r.length∧L'=[(1076,.vec 3 1 p (r.map G0))]):=by
 unfold Qa at h
 refine G04 [] [.tmp 2] Tryz.func33 O O (H6a O) (Jr fun hK1=>(JLh (.vec 1076 (([]:List Int).length) 1 (([]:List Int).length)) (Je1 1076 3 1 O O O) O (G7 (hK1 (Js fun hK2=>Jr fun hK3=>(Rt (E0 s) O (Ge8 O O O (J12 Gq O O) ?_)))))))
 rintro u_ L_ ⟨b4,hb4,rfl,rfl⟩
 replace h:=Ha0 h b4 hb4
 refine G7 (hK3 (JCc O h (fun h hb=>?_) (fun h hb=>?_)))
 ·
  refine Jr fun hK5=>(JLh (.vec 1076 ((([]:List Int).length)+1) 1 (([]:List Int).length)) (A_vnil2 1076 3 1 O O O) O (G7 (hK5 (J0f 2 O O (fun hn_=>Gw ?_)))))
  obtain rfl:=Option.some.inj h
  exact⟨[.vec 1076 ((([]:List Int).length)+1) 1 (([]:List Int).length)],[(1076,.vec 3 1 ((([]:List Int).length)+1) (([]:List Int).map G0))],⟨⟨_,O,.vec⟩,G⟩,O,⟨⟨_,O,.conv (.same O)⟩,G⟩,((([]:List Int).length)+1),congrArg (fun n_:Nat=>(.vec 1076 ((([]:List Int).length)+1) 1 n_:AV)) (hn_.trans O),O⟩
 ·
  refine Gs (hK2 (Jr fun hK6=>(JLh (.vec 1076 ((([]:List Int).length)+1) 1 (([]:List Int).length)) (A_vlit2 1076 3 1 O O Gq) O (Rt (E0 s) O ?_))))
  obtain⟨ha7,h⟩:=Ja h
  refine JLh (.vec 1076 (((([]:List Int).length)+1)+((([]:List Int)++s).length+1)) 1 ((([]:List Int)++s).length)) (G1b (f:=G0) (xs:=([]:List Int)) (ys:=s) (ver:=((([]:List Int).length)+1)) (ver1:=(((([]:List Int).length)+1)+((([]:List Int)++s).length+1))) rfl rfl rfl rfl Gq Z8 ha7 (fun _=>rfl) (.inl rfl) (by simp)) O (Rt (.vec 1076 (((([]:List Int).length)+1)+((([]:List Int)++s).length+1)) 1 ((([]:List Int)++s).length)) O (G7 (hK6 (J0f 2 O O (fun hn_=>Gw ?_)))))
  obtain rfl:=Option.some.inj h
  exact⟨[.vec 1076 (((([]:List Int).length)+1)+((([]:List Int)++s).length+1)) 1 ((([]:List Int)++s).length)],[(1076,.vec 3 1 (((([]:List Int).length)+1)+((([]:List Int)++s).length+1)) ((([]:List Int)++s).map G0))],⟨⟨_,O,.vec⟩,G⟩,O,⟨⟨_,O,.conv (.same O)⟩,G⟩,(((([]:List Int).length)+1)+((([]:List Int)++s).length+1)),congrArg (fun n_:Nat=>(.vec 1076 (((([]:List Int).length)+1)+((([]:List Int)++s).length+1)) 1 n_:AV)) (hn_.trans (List.length_map _)),O⟩


theorem G38 (s:List Stowed) (r:(List Stowed)) (h:Qr s=some r):Qp Ek 63 [E1 s] [] (fun av L'=>∃ p:Nat,av=.vec 1108 p 4 r.length∧L'=[(1108,.vec 47 4 p (r.map Stowed.av))]):=by
 unfold Qr at h
 refine G04 [] [.tmp 2] Tryz.func63 O O (H6a O) (Jr fun hK1=>(JLh (.vec 1108 (([]:List Stowed).length) 4 (([]:List Stowed).length)) (Je1 1108 47 4 O O O) O (G7 (hK1 (Js fun hK2=>Jr fun hK3=>(Rt (E1 s) O (Ge8 O O O (J12 Gx O O) ?_)))))))
 rintro u_ L_ ⟨b4,hb4,rfl,rfl⟩
 replace h:=Ha0 h b4 hb4
 refine G7 (hK3 (JCc O h (fun h hb=>?_) (fun h hb=>?_)))
 ·
  refine Jr fun hK5=>(JLh (.vec 1108 ((([]:List Stowed).length)+1) 4 (([]:List Stowed).length)) (A_vnil2 1108 47 4 O O O) O (G7 (hK5 (J0f 2 O O (fun hn_=>Gw ?_)))))
  obtain rfl:=Option.some.inj h
  exact⟨[.vec 1108 ((([]:List Stowed).length)+1) 4 (([]:List Stowed).length)],[(1108,.vec 47 4 ((([]:List Stowed).length)+1) (([]:List Stowed).map Stowed.av))],⟨⟨_,O,.vec⟩,G⟩,O,⟨⟨_,O,.conv (.same O)⟩,G⟩,((([]:List Stowed).length)+1),congrArg (fun n_:Nat=>(.vec 1108 ((([]:List Stowed).length)+1) 4 n_:AV)) (hn_.trans O),O⟩
 ·
  refine Gs (hK2 (Jr fun hK6=>(JLh (.vec 1108 ((([]:List Stowed).length)+1) 4 (([]:List Stowed).length)) (A_vlit2 1108 47 4 O O Gx) O (Rt (E1 s) O ?_))))
  obtain⟨ha7,h⟩:=Ja h
  refine JLh (.vec 1108 (((([]:List Stowed).length)+1)+((([]:List Stowed)++s).length+1)) 4 ((([]:List Stowed)++s).length)) (G1b (f:=Stowed.av) (xs:=([]:List Stowed)) (ys:=s) (ver:=((([]:List Stowed).length)+1)) (ver1:=(((([]:List Stowed).length)+1)+((([]:List Stowed)++s).length+1))) rfl rfl rfl rfl Gx G16 ha7 (fun _=>rfl) (.inl rfl) (by simp)) O (Rt (.vec 1108 (((([]:List Stowed).length)+1)+((([]:List Stowed)++s).length+1)) 4 ((([]:List Stowed)++s).length)) O (G7 (hK6 (J0f 2 O O (fun hn_=>Gw ?_)))))
  obtain rfl:=Option.some.inj h
  exact⟨[.vec 1108 (((([]:List Stowed).length)+1)+((([]:List Stowed)++s).length+1)) 4 ((([]:List Stowed)++s).length)],[(1108,.vec 47 4 (((([]:List Stowed).length)+1)+((([]:List Stowed)++s).length+1)) ((([]:List Stowed)++s).map Stowed.av))],⟨⟨_,O,.vec⟩,G⟩,O,⟨⟨_,O,.conv (.same O)⟩,G⟩,(((([]:List Stowed).length)+1)+((([]:List Stowed)++s).length+1)),congrArg (fun n_:Nat=>(.vec 1108 (((([]:List Stowed).length)+1)+((([]:List Stowed)++s).length+1)) 4 n_:AV)) (hn_.trans (List.length_map _)),O⟩
end
end Go.Proofs.YtbljcmgjmieffaaGreat
