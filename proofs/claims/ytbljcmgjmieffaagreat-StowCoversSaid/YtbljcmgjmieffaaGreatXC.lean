/-
 Models of functions of the program,and that they return what the models say.
-/
import Derived.Test.YtbljcmgjmieffaaGreatSpecI
import Derived.Test.YtbljcmgjmieffaaGreatSpecI
set_option linter.unnecessarySimpa false
set_option maxRecDepth 100000
set_option linter.unusedVariables false
set_option linter.unusedSimpArgs false
namespace Go.Proofs.YtbljcmgjmieffaaGreat
open Go.RowKit
noncomputable section
structure Stowed where
 Ga:Int
 Slot:Slot
 deriving DecidableEq,Inhabited
def Stowed.cs (x:Stowed):List AV:=[G0 x.Ga,G0 x.Slot.G3,G0 x.Slot.Tier,U8 x.Slot.Half]
def Stowed.av (x:Stowed):AV:=.agg x.cs
abbrev Ed (x:Stowed):AV:=.dptr (Stowed.cs x)
abbrev E1:=LS 4 Stowed.av
namespace XCF
open XAF
theorem Yv:Ru Ek 3 1 8=true:=by kernel_rfl
theorem G70:Ru Ek 47 4 32=true:=by kernel_rfl
theorem H0:sliceB Ek 39 47 4=true:=by kernel_rfl
end XCF
open XAF
open XCF

def Jn (s:List Int):Option (List Int):=
 nilB s fun b4=>
 bif b4 then
 (some [])
 else
 (need (decide ((([]:List Int).length+s.length)*8≤140737488355328∧([]:List Int).length+s.length≤maxLen)) <|
  some (([]:List Int)++s))
theorem G91 (s:List Int) (r:(List Int)) (h:Jn s=some r):Pure Ek 33 [E0 s] (·=E0 r):=by
 unfold Jn at h
 refine H5 [.tmp 2] Tryz.func33 O O (Jr fun hK1=>(JLh (E0 ([]:List Int)) (Hi 1 O O) O (G7 (hK1 (Js fun hK2=>Jr fun hK3=>(Rc (E0 s) O (Gd6 O O O (Hfc Gq O O) ?_)))))))
 rintro u_ L_ ⟨b4,hb4,rfl,rfl⟩
 replace h:=H8b h b4 hb4
 refine G7 (hK3 (JCc O h (fun h hb=>?_) (fun h hb=>?_)))
 ·
  refine Jr fun hK5=>(JLh (E0 ([]:List Int)) (Hi 1 O O) O (G7 (hK5 (Gv (fin1 (fun r:(List Int)=>(E0 r:AV)) h)))))
 ·
  refine Gr (hK2 (Jr fun hK6=>(JLh (OW 340000005 1 G0 ([]:List Int)) (Gf5 340000005 3 1 O O Gq) O (Rc (E0 s) O ?_))))
  obtain⟨ha7,h⟩:=Jk h
  refine JLh (OW 340000005 1 G0 (([]:List Int)++s)) (G5b (f:=G0) (xs:=([]:List Int)) (ys:=s) O O O O Gq Yv ha7 (fun _=>O) (.inl O)) O (Rc (OW 340000005 1 G0 (([]:List Int)++s)) O (G7 (hK6 (Gv (fin1l (fun r:(List Int)=>(E0 r:AV)) h)))))

def Qi (s:List Stowed):Option (List Stowed):=
 nilB s fun b4=>
 bif b4 then
 (some [])
 else
 (need (decide ((([]:List Stowed).length+s.length)*32≤140737488355328∧([]:List Stowed).length+s.length≤maxLen)) <|
  some (([]:List Stowed)++s))
theorem G92 (s:List Int) (r:(List Int)) (h:Jn s=some r):Qh Ek 33 [E0 s] [] (fun av L'=>∃ p:Nat,av=.vec 1073 p 1 r.length∧L'=[(1073,.vec 3 1 p (r.map G0))]):=by
 unfold Jn at h
 refine Zq [] [.tmp 2] Tryz.func33 O O (H54 O) (Jr fun hK1=>(JLh (.vec 1073 (([]:List Int).length) 1 (([]:List Int).length)) (Jc8 1073 3 1 O O O) O (G7 (hK1 (Js fun hK2=>Jr fun hK3=>(Rc (E0 s) O (Gd6 O O O (Hfc Gq O O) ?_)))))))
 rintro u_ L_ ⟨b4,hb4,rfl,rfl⟩
 replace h:=H8b h b4 hb4
 refine G7 (hK3 (JCc O h (fun h hb=>?_) (fun h hb=>?_)))
 ·
  refine Jr fun hK5=>(JLh (.vec 1073 ((([]:List Int).length)+1) 1 (([]:List Int).length)) (A_vnil2 1073 3 1 O O O) O (G7 (hK5 (Hfa 2 O O (fun hn_=>Gv ?_)))))
  obtain rfl:=Option.some.inj h
  exact⟨[.vec 1073 ((([]:List Int).length)+1) 1 (([]:List Int).length)],[(1073,.vec 3 1 ((([]:List Int).length)+1) (([]:List Int).map G0))],⟨⟨_,O,.vec⟩,G⟩,O,⟨⟨_,O,.conv (.same O)⟩,G⟩,((([]:List Int).length)+1),congrArg (fun n_:Nat=>(.vec 1073 ((([]:List Int).length)+1) 1 n_:AV)) (hn_.trans O),O⟩
 ·
  refine Gr (hK2 (Jr fun hK6=>(JLh (.vec 1073 ((([]:List Int).length)+1) 1 (([]:List Int).length)) (A_vlit2 1073 3 1 O O Gq) O (Rc (E0 s) O ?_))))
  obtain⟨ha7,h⟩:=Jk h
  refine JLh (.vec 1073 (((([]:List Int).length)+1)+((([]:List Int)++s).length+1)) 1 ((([]:List Int)++s).length)) (G7c (f:=G0) (xs:=([]:List Int)) (ys:=s) (ver:=((([]:List Int).length)+1)) (ver1:=(((([]:List Int).length)+1)+((([]:List Int)++s).length+1))) rfl rfl rfl rfl Gq Yv ha7 (fun _=>rfl) (.inl rfl) (by simp)) O (Rc (.vec 1073 (((([]:List Int).length)+1)+((([]:List Int)++s).length+1)) 1 ((([]:List Int)++s).length)) O (G7 (hK6 (Hfa 2 O O (fun hn_=>Gv ?_)))))
  obtain rfl:=Option.some.inj h
  exact⟨[.vec 1073 (((([]:List Int).length)+1)+((([]:List Int)++s).length+1)) 1 ((([]:List Int)++s).length)],[(1073,.vec 3 1 (((([]:List Int).length)+1)+((([]:List Int)++s).length+1)) ((([]:List Int)++s).map G0))],⟨⟨_,O,.vec⟩,G⟩,O,⟨⟨_,O,.conv (.same O)⟩,G⟩,(((([]:List Int).length)+1)+((([]:List Int)++s).length+1)),congrArg (fun n_:Nat=>(.vec 1073 (((([]:List Int).length)+1)+((([]:List Int)++s).length+1)) 1 n_:AV)) (hn_.trans (List.length_map _)),O⟩


theorem G1f (s:List Stowed) (r:(List Stowed)) (h:Qi s=some r):Qh Ek 63 [E1 s] [] (fun av L'=>∃ p:Nat,av=.vec 1105 p 4 r.length∧L'=[(1105,.vec 47 4 p (r.map Stowed.av))]):=by
 unfold Qi at h
 refine Zq [] [.tmp 2] Tryz.func63 O O (H54 O) (Jr fun hK1=>(JLh (.vec 1105 (([]:List Stowed).length) 4 (([]:List Stowed).length)) (Jc8 1105 47 4 O O O) O (G7 (hK1 (Js fun hK2=>Jr fun hK3=>(Rc (E1 s) O (Gd6 O O O (Hfc H0 O O) ?_)))))))
 rintro u_ L_ ⟨b4,hb4,rfl,rfl⟩
 replace h:=H8b h b4 hb4
 refine G7 (hK3 (JCc O h (fun h hb=>?_) (fun h hb=>?_)))
 ·
  refine Jr fun hK5=>(JLh (.vec 1105 ((([]:List Stowed).length)+1) 4 (([]:List Stowed).length)) (A_vnil2 1105 47 4 O O O) O (G7 (hK5 (Hfa 2 O O (fun hn_=>Gv ?_)))))
  obtain rfl:=Option.some.inj h
  exact⟨[.vec 1105 ((([]:List Stowed).length)+1) 4 (([]:List Stowed).length)],[(1105,.vec 47 4 ((([]:List Stowed).length)+1) (([]:List Stowed).map Stowed.av))],⟨⟨_,O,.vec⟩,G⟩,O,⟨⟨_,O,.conv (.same O)⟩,G⟩,((([]:List Stowed).length)+1),congrArg (fun n_:Nat=>(.vec 1105 ((([]:List Stowed).length)+1) 4 n_:AV)) (hn_.trans O),O⟩
 ·
  refine Gr (hK2 (Jr fun hK6=>(JLh (.vec 1105 ((([]:List Stowed).length)+1) 4 (([]:List Stowed).length)) (A_vlit2 1105 47 4 O O H0) O (Rc (E1 s) O ?_))))
  obtain⟨ha7,h⟩:=Jk h
  refine JLh (.vec 1105 (((([]:List Stowed).length)+1)+((([]:List Stowed)++s).length+1)) 4 ((([]:List Stowed)++s).length)) (G7c (f:=Stowed.av) (xs:=([]:List Stowed)) (ys:=s) (ver:=((([]:List Stowed).length)+1)) (ver1:=(((([]:List Stowed).length)+1)+((([]:List Stowed)++s).length+1))) rfl rfl rfl rfl H0 G70 ha7 (fun _=>rfl) (.inl rfl) (by simp)) O (Rc (.vec 1105 (((([]:List Stowed).length)+1)+((([]:List Stowed)++s).length+1)) 4 ((([]:List Stowed)++s).length)) O (G7 (hK6 (Hfa 2 O O (fun hn_=>Gv ?_)))))
  obtain rfl:=Option.some.inj h
  exact⟨[.vec 1105 (((([]:List Stowed).length)+1)+((([]:List Stowed)++s).length+1)) 4 ((([]:List Stowed)++s).length)],[(1105,.vec 47 4 (((([]:List Stowed).length)+1)+((([]:List Stowed)++s).length+1)) ((([]:List Stowed)++s).map Stowed.av))],⟨⟨_,O,.vec⟩,G⟩,O,⟨⟨_,O,.conv (.same O)⟩,G⟩,(((([]:List Stowed).length)+1)+((([]:List Stowed)++s).length+1)),congrArg (fun n_:Nat=>(.vec 1105 (((([]:List Stowed).length)+1)+((([]:List Stowed)++s).length+1)) 4 n_:AV)) (hn_.trans (List.length_map _)),O⟩
end
end Go.Proofs.YtbljcmgjmieffaaGreat
