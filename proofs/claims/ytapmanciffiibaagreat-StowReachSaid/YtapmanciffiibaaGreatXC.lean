/-
 Models of functions of the program,and that they return what the models say.
-/
import Derived.Test.YtapmanciffiibaaGreatSpecI
import Derived.Test.YtapmanciffiibaaGreatSpecI
set_option linter.unnecessarySimpa false
set_option maxRecDepth 100000
set_option linter.unusedVariables false
set_option linter.unusedSimpArgs false
namespace Go.Proofs.YtapmanciffiibaaGreat
open Go.RowKit
noncomputable section
structure Stowed where
 Ga:Int
 Slot:Slot
 deriving DecidableEq,Inhabited
def Stowed.cs (x:Stowed):List AV:=[G0 x.Ga,G0 x.Slot.G3,G0 x.Slot.Tier,U8 x.Slot.Half]
def Stowed.av (x:Stowed):AV:=.agg x.cs
abbrev Ed (x:Stowed):AV:=.dptr (Stowed.cs x)
abbrev E1:=LS 4 Stowed.av
namespace XCF
open XAF
theorem G09:R3 Ek 3 1 8=true:=by kernel_rfl
theorem Gd5:R3 Ek 46 4 32=true:=by kernel_rfl
theorem Hd:sliceB Ek 39 46 4=true:=by kernel_rfl
end XCF
open XAF
open XCF

def Jk (s:List Int):Option (List Int):=
 nilB s fun b4=>
 bif b4 then
 (some [])
 else
 (need (decide ((([]:List Int).length+s.length)*8≤140737488355328∧([]:List Int).length+s.length≤maxLen)) <|
  some (([]:List Int)++s))
theorem H0f (s:List Int) (r:(List Int)) (h:Jk s=some r):Pure Ek 45 [E0 s] (·=E0 r):=by
 unfold Jk at h
 refine H1 [.tmp 2] Tryz.func45 O O (Jr fun hK1=>(JLh (E0 ([]:List Int)) (Hj 1 O O) O (G7 (hK1 (Js fun hK2=>Jr fun hK3=>(Rq (E0 s) O (Gb1 O O O (Hc7 Gj O O) ?_)))))))
 rintro u_ L_ ⟨b4,hb4,rfl,rfl⟩
 replace h:=H64 h b4 hb4
 refine G7 (hK3 (JCc O h (fun h hb=>?_) (fun h hb=>?_)))
 ·
  refine Jr fun hK5=>(JLh (E0 ([]:List Int)) (Hj 1 O O) O (G7 (hK5 (Gt (fin1 (fun r:(List Int)=>(E0 r:AV)) h)))))
 ·
  refine Gp (hK2 (Jr fun hK6=>(JLh (OW 460000005 1 G0 ([]:List Int)) (J21 460000005 3 1 O O Gj) O (Rq (E0 s) O ?_))))
  obtain⟨ha7,h⟩:=Jm h
  refine JLh (OW 460000005 1 G0 (([]:List Int)++s)) (H9a (f:=G0) (xs:=([]:List Int)) (ys:=s) O O O O Gj G09 ha7 (fun _=>O) (.inl O)) O (Rq (OW 460000005 1 G0 (([]:List Int)++s)) O (G7 (hK6 (Gt (fin1l (fun r:(List Int)=>(E0 r:AV)) h)))))

def Jv (s:List Stowed):Option (List Stowed):=
 nilB s fun b4=>
 bif b4 then
 (some [])
 else
 (need (decide ((([]:List Stowed).length+s.length)*32≤140737488355328∧([]:List Stowed).length+s.length≤maxLen)) <|
  some (([]:List Stowed)++s))
theorem H10 (s:List Int) (r:(List Int)) (h:Jk s=some r):Q1 Ek 45 [E0 s] [] (fun av L'=>∃ p:Nat,av=.vec 1082 p 1 r.length∧L'=[(1082,.vec 3 1 p (r.map G0))]):=by
 unfold Jk at h
 refine G07 [] [.tmp 2] Tryz.func45 O O (Ha9 O) (Jr fun hK1=>(JLh (.vec 1082 (([]:List Int).length) 1 (([]:List Int).length)) (J99 1082 3 1 O O O) O (G7 (hK1 (Js fun hK2=>Jr fun hK3=>(Rq (E0 s) O (Gb1 O O O (Hc7 Gj O O) ?_)))))))
 rintro u_ L_ ⟨b4,hb4,rfl,rfl⟩
 replace h:=H64 h b4 hb4
 refine G7 (hK3 (JCc O h (fun h hb=>?_) (fun h hb=>?_)))
 ·
  refine Jr fun hK5=>(JLh (.vec 1082 ((([]:List Int).length)+1) 1 (([]:List Int).length)) (A_vnil2 1082 3 1 O O O) O (G7 (hK5 (Hc6 2 O O (fun hn_=>Gt ?_)))))
  obtain rfl:=Option.some.inj h
  exact⟨[.vec 1082 ((([]:List Int).length)+1) 1 (([]:List Int).length)],[(1082,.vec 3 1 ((([]:List Int).length)+1) (([]:List Int).map G0))],⟨⟨_,O,.vec⟩,G⟩,O,⟨⟨_,O,.conv (.same O)⟩,G⟩,((([]:List Int).length)+1),congrArg (fun n_:Nat=>(.vec 1082 ((([]:List Int).length)+1) 1 n_:AV)) (hn_.trans O),O⟩
 ·
  refine Gp (hK2 (Jr fun hK6=>(JLh (.vec 1082 ((([]:List Int).length)+1) 1 (([]:List Int).length)) (A_vlit2 1082 3 1 O O Gj) O (Rq (E0 s) O ?_))))
  obtain⟨ha7,h⟩:=Jm h
  refine JLh (.vec 1082 (((([]:List Int).length)+1)+((([]:List Int)++s).length+1)) 1 ((([]:List Int)++s).length)) (G55 (f:=G0) (xs:=([]:List Int)) (ys:=s) (ver:=((([]:List Int).length)+1)) (ver1:=(((([]:List Int).length)+1)+((([]:List Int)++s).length+1))) rfl rfl rfl rfl Gj G09 ha7 (fun _=>rfl) (.inl rfl) (by simp)) O (Rq (.vec 1082 (((([]:List Int).length)+1)+((([]:List Int)++s).length+1)) 1 ((([]:List Int)++s).length)) O (G7 (hK6 (Hc6 2 O O (fun hn_=>Gt ?_)))))
  obtain rfl:=Option.some.inj h
  exact⟨[.vec 1082 (((([]:List Int).length)+1)+((([]:List Int)++s).length+1)) 1 ((([]:List Int)++s).length)],[(1082,.vec 3 1 (((([]:List Int).length)+1)+((([]:List Int)++s).length+1)) ((([]:List Int)++s).map G0))],⟨⟨_,O,.vec⟩,G⟩,O,⟨⟨_,O,.conv (.same O)⟩,G⟩,(((([]:List Int).length)+1)+((([]:List Int)++s).length+1)),congrArg (fun n_:Nat=>(.vec 1082 (((([]:List Int).length)+1)+((([]:List Int)++s).length+1)) 1 n_:AV)) (hn_.trans (List.length_map _)),O⟩


theorem G02 (s:List Stowed) (r:(List Stowed)) (h:Jv s=some r):Q1 Ek 84 [E1 s] [] (fun av L'=>∃ p:Nat,av=.vec 1105 p 4 r.length∧L'=[(1105,.vec 46 4 p (r.map Stowed.av))]):=by
 unfold Jv at h
 refine G07 [] [.tmp 2] Tryz.func84 O O (Ha9 O) (Jr fun hK1=>(JLh (.vec 1105 (([]:List Stowed).length) 4 (([]:List Stowed).length)) (J99 1105 46 4 O O O) O (G7 (hK1 (Js fun hK2=>Jr fun hK3=>(Rq (E1 s) O (Gb1 O O O (Hc7 Hd O O) ?_)))))))
 rintro u_ L_ ⟨b4,hb4,rfl,rfl⟩
 replace h:=H64 h b4 hb4
 refine G7 (hK3 (JCc O h (fun h hb=>?_) (fun h hb=>?_)))
 ·
  refine Jr fun hK5=>(JLh (.vec 1105 ((([]:List Stowed).length)+1) 4 (([]:List Stowed).length)) (A_vnil2 1105 46 4 O O O) O (G7 (hK5 (Hc6 2 O O (fun hn_=>Gt ?_)))))
  obtain rfl:=Option.some.inj h
  exact⟨[.vec 1105 ((([]:List Stowed).length)+1) 4 (([]:List Stowed).length)],[(1105,.vec 46 4 ((([]:List Stowed).length)+1) (([]:List Stowed).map Stowed.av))],⟨⟨_,O,.vec⟩,G⟩,O,⟨⟨_,O,.conv (.same O)⟩,G⟩,((([]:List Stowed).length)+1),congrArg (fun n_:Nat=>(.vec 1105 ((([]:List Stowed).length)+1) 4 n_:AV)) (hn_.trans O),O⟩
 ·
  refine Gp (hK2 (Jr fun hK6=>(JLh (.vec 1105 ((([]:List Stowed).length)+1) 4 (([]:List Stowed).length)) (A_vlit2 1105 46 4 O O Hd) O (Rq (E1 s) O ?_))))
  obtain⟨ha7,h⟩:=Jm h
  refine JLh (.vec 1105 (((([]:List Stowed).length)+1)+((([]:List Stowed)++s).length+1)) 4 ((([]:List Stowed)++s).length)) (G55 (f:=Stowed.av) (xs:=([]:List Stowed)) (ys:=s) (ver:=((([]:List Stowed).length)+1)) (ver1:=(((([]:List Stowed).length)+1)+((([]:List Stowed)++s).length+1))) rfl rfl rfl rfl Hd Gd5 ha7 (fun _=>rfl) (.inl rfl) (by simp)) O (Rq (.vec 1105 (((([]:List Stowed).length)+1)+((([]:List Stowed)++s).length+1)) 4 ((([]:List Stowed)++s).length)) O (G7 (hK6 (Hc6 2 O O (fun hn_=>Gt ?_)))))
  obtain rfl:=Option.some.inj h
  exact⟨[.vec 1105 (((([]:List Stowed).length)+1)+((([]:List Stowed)++s).length+1)) 4 ((([]:List Stowed)++s).length)],[(1105,.vec 46 4 (((([]:List Stowed).length)+1)+((([]:List Stowed)++s).length+1)) ((([]:List Stowed)++s).map Stowed.av))],⟨⟨_,O,.vec⟩,G⟩,O,⟨⟨_,O,.conv (.same O)⟩,G⟩,(((([]:List Stowed).length)+1)+((([]:List Stowed)++s).length+1)),congrArg (fun n_:Nat=>(.vec 1105 (((([]:List Stowed).length)+1)+((([]:List Stowed)++s).length+1)) 4 n_:AV)) (hn_.trans (List.length_map _)),O⟩
end
end Go.Proofs.YtapmanciffiibaaGreat
