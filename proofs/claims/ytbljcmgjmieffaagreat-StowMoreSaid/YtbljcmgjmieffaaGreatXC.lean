/-
 Models of functions of the program,and that they return what the models say.
-/
import Derived.Test.YtbljcmgjmieffaaGreatSpecI
import Derived.Test.YtbljcmgjmieffaaGreatSpecI
set_option linter.unnecessarySimpa false
set_option maxRecDepth 100000
set_option linter.unusedVariables false
set_option linter.unusedSimpArgs false
namespace Go.Proofs.YtbljcmgjmieffaaGreat
open Go.RowKit
noncomputable section
structure Stowed where
 Gb:Int
 Slot:Slot
 deriving DecidableEq,Inhabited
def Stowed.cs (x:Stowed):List AV:=[G0 x.Gb,G0 x.Slot.G3,G0 x.Slot.Tier,U8 x.Slot.Half]
def Stowed.av (x:Stowed):AV:=.agg x.cs
abbrev Ed (x:Stowed):AV:=.dptr (Stowed.cs x)
abbrev E1:=LS 4 Stowed.av
namespace XCF
open XAF
theorem Rs:Qy Ek 3 1 8=true:=by kernel_rfl
theorem Gcb:Qy Ek 47 4 32=true:=by kernel_rfl
theorem H9:sliceB Ek 39 47 4=true:=by kernel_rfl
end XCF
open XAF
open XCF

def Qf (s:List Int):Option (List Int):=
 nilB s fun b4=>
 bif b4 then
 (some [])
 else
 (need (decide ((([]:List Int).length+s.length)*8≤140737488355328∧([]:List Int).length+s.length≤maxLen)) <|
  some (([]:List Int)++s))
theorem H05 (s:List Int) (r:(List Int)) (h:Qf s=some r):Pure Ek 33 [E0 s] (·=E0 r):=by
 unfold Qf at h
 refine H1 [.tmp 2] Tryz.func33 O O (Jr fun hK1=>(JLh (E0 ([]:List Int)) (Hj 1 O O) O (G7 (hK1 (Js fun hK2=>Jr fun hK3=>(Qk (E0 s) O (Ga6 O O O (Hb9 Gh O O) ?_)))))))
 rintro u_ L_ ⟨b4,hb4,rfl,rfl⟩
 replace h:=H55 h b4 hb4
 refine G7 (hK3 (JCc O h (fun h hb=>?_) (fun h hb=>?_)))
 ·
  refine Jr fun hK5=>(JLh (E0 ([]:List Int)) (Hj 1 O O) O (G7 (hK5 (Gu (fin1 (fun r:(List Int)=>(E0 r:AV)) h)))))
 ·
  refine Gs (hK2 (Jr fun hK6=>(JLh (OW 340000005 1 G0 ([]:List Int)) (H07 340000005 3 1 O O Gh) O (Qk (E0 s) O ?_))))
  obtain⟨ha7,h⟩:=Jf h
  refine JLh (OW 340000005 1 G0 (([]:List Int)++s)) (G41 (f:=G0) (xs:=([]:List Int)) (ys:=s) O O O O Gh Rs ha7 (fun _=>O) (.inl O)) O (Qk (OW 340000005 1 G0 (([]:List Int)++s)) O (G7 (hK6 (Gu (fin1l (fun r:(List Int)=>(E0 r:AV)) h)))))

def Jo (s:List Stowed):Option (List Stowed):=
 nilB s fun b4=>
 bif b4 then
 (some [])
 else
 (need (decide ((([]:List Stowed).length+s.length)*32≤140737488355328∧([]:List Stowed).length+s.length≤maxLen)) <|
  some (([]:List Stowed)++s))
theorem G58 (s:List Int) (r:(List Int)) (h:Qf s=some r):Jt Ek 33 [E0 s] [] (fun av L'=>∃ p:Nat,av=.vec 1057 p 1 r.length∧L'=[(1057,.vec 3 1 p (r.map G0))]):=by
 unfold Qf at h
 refine Yw [] [.tmp 2] Tryz.func33 O O (H5a O) (Jr fun hK1=>(JLh (.vec 1057 (([]:List Int).length) 1 (([]:List Int).length)) (J84 1057 3 1 O O O) O (G7 (hK1 (Js fun hK2=>Jr fun hK3=>(Qk (E0 s) O (Ga6 O O O (Hb9 Gh O O) ?_)))))))
 rintro u_ L_ ⟨b4,hb4,rfl,rfl⟩
 replace h:=H55 h b4 hb4
 refine G7 (hK3 (JCc O h (fun h hb=>?_) (fun h hb=>?_)))
 ·
  refine Jr fun hK5=>(JLh (.vec 1057 ((([]:List Int).length)+1) 1 (([]:List Int).length)) (A_vnil2 1057 3 1 O O O) O (G7 (hK5 (Hb7 2 O O (fun hn_=>Gu ?_)))))
  obtain rfl:=Option.some.inj h
  exact⟨[.vec 1057 ((([]:List Int).length)+1) 1 (([]:List Int).length)],[(1057,.vec 3 1 ((([]:List Int).length)+1) (([]:List Int).map G0))],⟨⟨_,O,.vec⟩,G⟩,O,⟨⟨_,O,.conv (.same O)⟩,G⟩,((([]:List Int).length)+1),congrArg (fun n_:Nat=>(.vec 1057 ((([]:List Int).length)+1) 1 n_:AV)) (hn_.trans O),O⟩
 ·
  refine Gs (hK2 (Jr fun hK6=>(JLh (.vec 1057 ((([]:List Int).length)+1) 1 (([]:List Int).length)) (A_vlit2 1057 3 1 O O Gh) O (Qk (E0 s) O ?_))))
  obtain⟨ha7,h⟩:=Jf h
  refine JLh (.vec 1057 (((([]:List Int).length)+1)+((([]:List Int)++s).length+1)) 1 ((([]:List Int)++s).length)) (G40 (f:=G0) (xs:=([]:List Int)) (ys:=s) (ver:=((([]:List Int).length)+1)) (ver1:=(((([]:List Int).length)+1)+((([]:List Int)++s).length+1))) rfl rfl rfl rfl Gh Rs ha7 (fun _=>rfl) (.inl rfl) (by simp)) O (Qk (.vec 1057 (((([]:List Int).length)+1)+((([]:List Int)++s).length+1)) 1 ((([]:List Int)++s).length)) O (G7 (hK6 (Hb7 2 O O (fun hn_=>Gu ?_)))))
  obtain rfl:=Option.some.inj h
  exact⟨[.vec 1057 (((([]:List Int).length)+1)+((([]:List Int)++s).length+1)) 1 ((([]:List Int)++s).length)],[(1057,.vec 3 1 (((([]:List Int).length)+1)+((([]:List Int)++s).length+1)) ((([]:List Int)++s).map G0))],⟨⟨_,O,.vec⟩,G⟩,O,⟨⟨_,O,.conv (.same O)⟩,G⟩,(((([]:List Int).length)+1)+((([]:List Int)++s).length+1)),congrArg (fun n_:Nat=>(.vec 1057 (((([]:List Int).length)+1)+((([]:List Int)++s).length+1)) 1 n_:AV)) (hn_.trans (List.length_map _)),O⟩


theorem Zi (s:List Stowed) (r:(List Stowed)) (h:Jo s=some r):Jt Ek 63 [E1 s] [] (fun av L'=>∃ p:Nat,av=.vec 1089 p 4 r.length∧L'=[(1089,.vec 47 4 p (r.map Stowed.av))]):=by
 unfold Jo at h
 refine Yw [] [.tmp 2] Tryz.func63 O O (H5a O) (Jr fun hK1=>(JLh (.vec 1089 (([]:List Stowed).length) 4 (([]:List Stowed).length)) (J84 1089 47 4 O O O) O (G7 (hK1 (Js fun hK2=>Jr fun hK3=>(Qk (E1 s) O (Ga6 O O O (Hb9 H9 O O) ?_)))))))
 rintro u_ L_ ⟨b4,hb4,rfl,rfl⟩
 replace h:=H55 h b4 hb4
 refine G7 (hK3 (JCc O h (fun h hb=>?_) (fun h hb=>?_)))
 ·
  refine Jr fun hK5=>(JLh (.vec 1089 ((([]:List Stowed).length)+1) 4 (([]:List Stowed).length)) (A_vnil2 1089 47 4 O O O) O (G7 (hK5 (Hb7 2 O O (fun hn_=>Gu ?_)))))
  obtain rfl:=Option.some.inj h
  exact⟨[.vec 1089 ((([]:List Stowed).length)+1) 4 (([]:List Stowed).length)],[(1089,.vec 47 4 ((([]:List Stowed).length)+1) (([]:List Stowed).map Stowed.av))],⟨⟨_,O,.vec⟩,G⟩,O,⟨⟨_,O,.conv (.same O)⟩,G⟩,((([]:List Stowed).length)+1),congrArg (fun n_:Nat=>(.vec 1089 ((([]:List Stowed).length)+1) 4 n_:AV)) (hn_.trans O),O⟩
 ·
  refine Gs (hK2 (Jr fun hK6=>(JLh (.vec 1089 ((([]:List Stowed).length)+1) 4 (([]:List Stowed).length)) (A_vlit2 1089 47 4 O O H9) O (Qk (E1 s) O ?_))))
  obtain⟨ha7,h⟩:=Jf h
  refine JLh (.vec 1089 (((([]:List Stowed).length)+1)+((([]:List Stowed)++s).length+1)) 4 ((([]:List Stowed)++s).length)) (G40 (f:=Stowed.av) (xs:=([]:List Stowed)) (ys:=s) (ver:=((([]:List Stowed).length)+1)) (ver1:=(((([]:List Stowed).length)+1)+((([]:List Stowed)++s).length+1))) rfl rfl rfl rfl H9 Gcb ha7 (fun _=>rfl) (.inl rfl) (by simp)) O (Qk (.vec 1089 (((([]:List Stowed).length)+1)+((([]:List Stowed)++s).length+1)) 4 ((([]:List Stowed)++s).length)) O (G7 (hK6 (Hb7 2 O O (fun hn_=>Gu ?_)))))
  obtain rfl:=Option.some.inj h
  exact⟨[.vec 1089 (((([]:List Stowed).length)+1)+((([]:List Stowed)++s).length+1)) 4 ((([]:List Stowed)++s).length)],[(1089,.vec 47 4 (((([]:List Stowed).length)+1)+((([]:List Stowed)++s).length+1)) ((([]:List Stowed)++s).map Stowed.av))],⟨⟨_,O,.vec⟩,G⟩,O,⟨⟨_,O,.conv (.same O)⟩,G⟩,(((([]:List Stowed).length)+1)+((([]:List Stowed)++s).length+1)),congrArg (fun n_:Nat=>(.vec 1089 (((([]:List Stowed).length)+1)+((([]:List Stowed)++s).length+1)) 4 n_:AV)) (hn_.trans (List.length_map _)),O⟩
end
end Go.Proofs.YtbljcmgjmieffaaGreat
