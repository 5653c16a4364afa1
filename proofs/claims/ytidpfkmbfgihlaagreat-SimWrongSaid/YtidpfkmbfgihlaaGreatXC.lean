/-
 Models of functions of the program,and that they return what the models say.
-/
import Derived.Test.YtidpfkmbfgihlaaGreatSpecI
import Derived.Test.YtidpfkmbfgihlaaGreatSpecI
set_option maxRecDepth 100000
set_option maxHeartbeats 1000000
set_option linter.unusedVariables false
set_option linter.unusedSimpArgs false
namespace Go.Proofs.YtidpfkmbfgihlaaGreat
open Go.RowKit
noncomputable section
structure Stowed where
 Box:Int
 Slot:Slot
 deriving DecidableEq,Inhabited
def Stowed.cs (x:Stowed):List AV:=[I64 x.Box,I64 x.Slot.G2,I64 x.Slot.Tier,U8 x.Slot.Half]
def Stowed.av (x:Stowed):AV:=.agg x.cs
abbrev Eh (x:Stowed):AV:=.dptr (Stowed.cs x)
abbrev E7:=LS 4 Stowed.av
namespace XCF
open XAF
theorem Zs:Z3 En 3 1 8=true:=by kernel_rfl
theorem G21:Z3 En 55 4 32=true:=by kernel_rfl
theorem Hc8:Z3 En 58 12 112=true:=by kernel_rfl
theorem H3:sliceB En 38 55 4=true:=by kernel_rfl
end XCF
open XAF
open XCF

def Q4 (s:List Int):Option (List Int):=
 R74 s fun b4=>
 bif b4 then
 (some [])
 else
 (need (decide ((([]:List Int).length+s.length)*8≤140737488355328∧([]:List Int).length+s.length≤maxLen)) <|
  some (([]:List Int)++s))
theorem G3e (s:List Int) (r:(List Int)) (h:Q4 s=some r):Pure En 44 [E2 s] (·=E2 r):=by
 unfold Q4 at h
 refine Gz [.tmp 2] Tryz.func44 O O (Jr fun hK1=>(JLh (E2 ([]:List Int)) (Hj 1 O O) O (G5 (hK1 (Js fun hK2=>Jr fun hK3=>(JLm (E2 s) O (Zp O O O (H9e Gy O O) ?_)))))))
 rintro u_ L_ ⟨b4,hb4,rfl,rfl⟩
 replace h:=H24 h b4 hb4
 refine G5 (hK3 (JCc O h (fun h hb=>?_) (fun h hb=>?_)))
 ·
  refine Jr fun hK5=>(JLh (E2 ([]:List Int)) (Hj 1 O O) O (G5 (hK5 (Gq (fin1 (fun r:(List Int)=>(E2 r:AV)) h)))))
 ·
  refine Gr (hK2 (Jr fun hK6=>(JLh (OW 450000005 1 I64 ([]:List Int)) (Hbf 450000005 3 1 O O Gy) O (JLm (E2 s) O ?_))))
  obtain⟨ha7,h⟩:=J7 h
  refine JLh (OW 450000005 1 I64 (([]:List Int)++s)) (H5c (f:=I64) (xs:=([]:List Int)) (ys:=s) O O O O Gy Zs ha7 (fun _=>O) (.inl O)) O (JLm (OW 450000005 1 I64 (([]:List Int)++s)) O (G5 (hK6 (Gq (fin1l (fun r:(List Int)=>(E2 r:AV)) h)))))

def Qc (s:List Stowed):Option (List Stowed):=
 R74 s fun b4=>
 bif b4 then
 (some [])
 else
 (need (decide ((([]:List Stowed).length+s.length)*32≤140737488355328∧([]:List Stowed).length+s.length≤maxLen)) <|
  some (([]:List Stowed)++s))
theorem Yc (s:List Stowed) (r:(List Stowed)) (h:Qc s=some r):Jg En 12 [E7 s] [] (fun av L'=>∃ p:Nat,av=.vec 1028 p 4 r.length∧L'=[(1028,.vec 55 4 p (r.map Stowed.av))]):=by
 unfold Qc at h
 refine Qa [] [.tmp 2] Tryz.func12 O O (G53 O) (Jr fun hK1=>(JLh (.vec 1028 (([]:List Stowed).length) 4 (([]:List Stowed).length)) (H41 1028 55 4 O O O) O (G5 (hK1 (Js fun hK2=>Jr fun hK3=>(JLm (E7 s) O (Zp O O O (H9e H3 O O) ?_)))))))
 rintro u_ L_ ⟨b4,hb4,rfl,rfl⟩
 replace h:=H24 h b4 hb4
 refine G5 (hK3 (JCc O h (fun h hb=>?_) (fun h hb=>?_)))
 ·
  refine Jr fun hK5=>(JLh (.vec 1028 ((([]:List Stowed).length)+1) 4 (([]:List Stowed).length)) (Q3f 1028 55 4 O O O) O (G5 (hK5 (G83 2 O O (fun hn_=>Gq ?_)))))
  obtain rfl:=Option.some.inj h
  exact⟨[.vec 1028 ((([]:List Stowed).length)+1) 4 (([]:List Stowed).length)],[(1028,.vec 55 4 ((([]:List Stowed).length)+1) (([]:List Stowed).map Stowed.av))],⟨⟨_,O,.vec⟩,G⟩,O,⟨⟨_,O,.conv (.same O)⟩,G⟩,((([]:List Stowed).length)+1),congrArg (fun n_:Nat=>(.vec 1028 ((([]:List Stowed).length)+1) 4 n_:AV)) (hn_.trans O),O⟩
 ·
  refine Gr (hK2 (Jr fun hK6=>(JLh (.vec 1028 ((([]:List Stowed).length)+1) 4 (([]:List Stowed).length)) (Q40 1028 55 4 O O H3) O (JLm (E7 s) O ?_))))
  obtain⟨ha7,h⟩:=J7 h
  refine JLh (.vec 1028 (((([]:List Stowed).length)+1)+((([]:List Stowed)++s).length+1)) 4 ((([]:List Stowed)++s).length)) (G6b (f:=Stowed.av) (xs:=([]:List Stowed)) (ys:=s) (ver:=((([]:List Stowed).length)+1)) (ver1:=(((([]:List Stowed).length)+1)+((([]:List Stowed)++s).length+1))) rfl rfl rfl rfl H3 G21 ha7 (fun _=>rfl) (.inl rfl) (by simp)) O (JLm (.vec 1028 (((([]:List Stowed).length)+1)+((([]:List Stowed)++s).length+1)) 4 ((([]:List Stowed)++s).length)) O (G5 (hK6 (G83 2 O O (fun hn_=>Gq ?_)))))
  obtain rfl:=Option.some.inj h
  exact⟨[.vec 1028 (((([]:List Stowed).length)+1)+((([]:List Stowed)++s).length+1)) 4 ((([]:List Stowed)++s).length)],[(1028,.vec 55 4 (((([]:List Stowed).length)+1)+((([]:List Stowed)++s).length+1)) ((([]:List Stowed)++s).map Stowed.av))],⟨⟨_,O,.vec⟩,G⟩,O,⟨⟨_,O,.conv (.same O)⟩,G⟩,(((([]:List Stowed).length)+1)+((([]:List Stowed)++s).length+1)),congrArg (fun n_:Nat=>(.vec 1028 (((([]:List Stowed).length)+1)+((([]:List Stowed)++s).length+1)) 4 n_:AV)) (hn_.trans (List.length_map _)),O⟩

def Qo (s:List G2):Option (List G2):=
 R74 s fun b4=>
 bif b4 then
 (some [])
 else
 (need (decide ((([]:List G2).length+s.length)*112≤140737488355328∧([]:List G2).length+s.length≤maxLen)) <|
  some (([]:List G2)++s))
theorem G98 (s:List G2) (r:(List G2)) (h:Qo s=some r):Pure En 13 [E1 s] (·=E1 r):=by
 unfold Qo at h
 refine Gz [.tmp 2] Tryz.func13 O O (Jr fun hK1=>(JLh (E1 ([]:List G2)) (Hj 12 O O) O (G5 (hK1 (Js fun hK2=>Jr fun hK3=>(JLm (E1 s) O (Zp O O O (H9e Ht O O) ?_)))))))
 rintro u_ L_ ⟨b4,hb4,rfl,rfl⟩
 replace h:=H24 h b4 hb4
 refine G5 (hK3 (JCc O h (fun h hb=>?_) (fun h hb=>?_)))
 ·
  refine Jr fun hK5=>(JLh (E1 ([]:List G2)) (Hj 12 O O) O (G5 (hK5 (Gq (fin1 (fun r:(List G2)=>(E1 r:AV)) h)))))
 ·
  refine Gr (hK2 (Jr fun hK6=>(JLh (OW 140000005 12 G2.av ([]:List G2)) (Hbf 140000005 58 12 O O Ht) O (JLm (E1 s) O ?_))))
  obtain⟨ha7,h⟩:=J7 h
  refine JLh (OW 140000005 12 G2.av (([]:List G2)++s)) (H5c (f:=G2.av) (xs:=([]:List G2)) (ys:=s) O O O O Ht Hc8 ha7 (fun _=>O) (.inl O)) O (JLm (OW 140000005 12 G2.av (([]:List G2)++s)) O (G5 (hK6 (Gq (fin1l (fun r:(List G2)=>(E1 r:AV)) h)))))


theorem H7e (s:List G2) (r:(List G2)) (h:Qo s=some r):Jg En 13 [E1 s] [] (fun av L'=>∃ p:Nat,av=.vec 1030 p 12 r.length∧L'=[(1030,.vec 58 12 p (r.map G2.av))]):=by
 unfold Qo at h
 refine Qa [] [.tmp 2] Tryz.func13 O O (G53 O) (Jr fun hK1=>(JLh (.vec 1030 (([]:List G2).length) 12 (([]:List G2).length)) (H41 1030 58 12 O O O) O (G5 (hK1 (Js fun hK2=>Jr fun hK3=>(JLm (E1 s) O (Zp O O O (H9e Ht O O) ?_)))))))
 rintro u_ L_ ⟨b4,hb4,rfl,rfl⟩
 replace h:=H24 h b4 hb4
 refine G5 (hK3 (JCc O h (fun h hb=>?_) (fun h hb=>?_)))
 ·
  refine Jr fun hK5=>(JLh (.vec 1030 ((([]:List G2).length)+1) 12 (([]:List G2).length)) (Q3f 1030 58 12 O O O) O (G5 (hK5 (G83 2 O O (fun hn_=>Gq ?_)))))
  obtain rfl:=Option.some.inj h
  exact⟨[.vec 1030 ((([]:List G2).length)+1) 12 (([]:List G2).length)],[(1030,.vec 58 12 ((([]:List G2).length)+1) (([]:List G2).map G2.av))],⟨⟨_,O,.vec⟩,G⟩,O,⟨⟨_,O,.conv (.same O)⟩,G⟩,((([]:List G2).length)+1),congrArg (fun n_:Nat=>(.vec 1030 ((([]:List G2).length)+1) 12 n_:AV)) (hn_.trans O),O⟩
 ·
  refine Gr (hK2 (Jr fun hK6=>(JLh (.vec 1030 ((([]:List G2).length)+1) 12 (([]:List G2).length)) (Q40 1030 58 12 O O Ht) O (JLm (E1 s) O ?_))))
  obtain⟨ha7,h⟩:=J7 h
  refine JLh (.vec 1030 (((([]:List G2).length)+1)+((([]:List G2)++s).length+1)) 12 ((([]:List G2)++s).length)) (G6b (f:=G2.av) (xs:=([]:List G2)) (ys:=s) (ver:=((([]:List G2).length)+1)) (ver1:=(((([]:List G2).length)+1)+((([]:List G2)++s).length+1))) rfl rfl rfl rfl Ht Hc8 ha7 (fun _=>rfl) (.inl rfl) (by simp)) O (JLm (.vec 1030 (((([]:List G2).length)+1)+((([]:List G2)++s).length+1)) 12 ((([]:List G2)++s).length)) O (G5 (hK6 (G83 2 O O (fun hn_=>Gq ?_)))))
  obtain rfl:=Option.some.inj h
  exact⟨[.vec 1030 (((([]:List G2).length)+1)+((([]:List G2)++s).length+1)) 12 ((([]:List G2)++s).length)],[(1030,.vec 58 12 (((([]:List G2).length)+1)+((([]:List G2)++s).length+1)) ((([]:List G2)++s).map G2.av))],⟨⟨_,O,.vec⟩,G⟩,O,⟨⟨_,O,.conv (.same O)⟩,G⟩,(((([]:List G2).length)+1)+((([]:List G2)++s).length+1)),congrArg (fun n_:Nat=>(.vec 1030 (((([]:List G2).length)+1)+((([]:List G2)++s).length+1)) 12 n_:AV)) (hn_.trans (List.length_map _)),O⟩
end
end Go.Proofs.YtidpfkmbfgihlaaGreat
