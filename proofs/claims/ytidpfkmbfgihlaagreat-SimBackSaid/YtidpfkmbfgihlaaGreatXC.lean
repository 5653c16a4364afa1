/-
 Models of functions of the program,and that they return what the models say.
-/
import Derived.Test.YtidpfkmbfgihlaaGreatSpecI
import Derived.Test.YtidpfkmbfgihlaaGreatSpecI
set_option maxRecDepth 100000
set_option maxHeartbeats 1000000
set_option linter.unusedVariables false
set_option linter.unusedSimpArgs false
namespace Go.Proofs.YtidpfkmbfgihlaaGreat
open Go.RowKit
noncomputable section
structure Stowed where
 Box:Int
 Slot:Slot
 deriving DecidableEq,Inhabited
def Stowed.cs (x:Stowed):List AV:=[I64 x.Box,I64 x.Slot.G2,I64 x.Slot.Tier,U8 x.Slot.Half]
def Stowed.av (x:Stowed):AV:=.agg x.cs
abbrev Ei (x:Stowed):AV:=.dptr (Stowed.cs x)
abbrev E6:=LS 4 Stowed.av
namespace XCF
open XAF
theorem Zt:Z5 Eo 3 1 8=true:=by kernel_rfl
theorem G22:Z5 Eo 55 4 32=true:=by kernel_rfl
theorem Hcd:Z5 Eo 58 12 112=true:=by kernel_rfl
theorem H3:sliceB Eo 38 55 4=true:=by kernel_rfl
end XCF
open XAF
open XCF

def Q4 (s:List Int):Option (List Int):=
 R76 s fun b4=>
 bif b4 then
 (some [])
 else
 (need (decide ((([]:List Int).length+s.length)*8≤140737488355328∧([]:List Int).length+s.length≤maxLen)) <|
  some (([]:List Int)++s))
theorem G3a (s:List Int) (r:(List Int)) (h:Q4 s=some r):Pure Eo 44 [E2 s] (·=E2 r):=by
 unfold Q4 at h
 refine Gy [.tmp 2] Tryz.func44 O O (Jr fun hK1=>(JLh (E2 ([]:List Int)) (Hk 1 O O) O (G5 (hK1 (Js fun hK2=>Jr fun hK3=>(JLm (E2 s) O (Zq O O O (Ha1 Gx O O) ?_)))))))
 rintro u_ L_ ⟨b4,hb4,rfl,rfl⟩
 replace h:=H25 h b4 hb4
 refine G5 (hK3 (JCc O h (fun h hb=>?_) (fun h hb=>?_)))
 ·
  refine Jr fun hK5=>(JLh (E2 ([]:List Int)) (Hk 1 O O) O (G5 (hK5 (Gq (fin1 (fun r:(List Int)=>(E2 r:AV)) h)))))
 ·
  refine Gr (hK2 (Jr fun hK6=>(JLh (OW 450000005 1 I64 ([]:List Int)) (Hc4 450000005 3 1 O O Gx) O (JLm (E2 s) O ?_))))
  obtain⟨ha7,h⟩:=J7 h
  refine JLh (OW 450000005 1 I64 (([]:List Int)++s)) (H5e (f:=I64) (xs:=([]:List Int)) (ys:=s) O O O O Gx Zt ha7 (fun _=>O) (.inl O)) O (JLm (OW 450000005 1 I64 (([]:List Int)++s)) O (G5 (hK6 (Gq (fin1l (fun r:(List Int)=>(E2 r:AV)) h)))))

def Qb (s:List Stowed):Option (List Stowed):=
 R76 s fun b4=>
 bif b4 then
 (some [])
 else
 (need (decide ((([]:List Stowed).length+s.length)*32≤140737488355328∧([]:List Stowed).length+s.length≤maxLen)) <|
  some (([]:List Stowed)++s))
theorem Yb (s:List Stowed) (r:(List Stowed)) (h:Qb s=some r):Jg Eo 12 [E6 s] [] (fun av L'=>∃ p:Nat,av=.vec 1028 p 4 r.length∧L'=[(1028,.vec 55 4 p (r.map Stowed.av))]):=by
 unfold Qb at h
 refine Q9 [] [.tmp 2] Tryz.func12 O O (G4e O) (Jr fun hK1=>(JLh (.vec 1028 (([]:List Stowed).length) 4 (([]:List Stowed).length)) (H44 1028 55 4 O O O) O (G5 (hK1 (Js fun hK2=>Jr fun hK3=>(JLm (E6 s) O (Zq O O O (Ha1 H3 O O) ?_)))))))
 rintro u_ L_ ⟨b4,hb4,rfl,rfl⟩
 replace h:=H25 h b4 hb4
 refine G5 (hK3 (JCc O h (fun h hb=>?_) (fun h hb=>?_)))
 ·
  refine Jr fun hK5=>(JLh (.vec 1028 ((([]:List Stowed).length)+1) 4 (([]:List Stowed).length)) (Q3d 1028 55 4 O O O) O (G5 (hK5 (G81 2 O O (fun hn_=>Gq ?_)))))
  obtain rfl:=Option.some.inj h
  exact⟨[.vec 1028 ((([]:List Stowed).length)+1) 4 (([]:List Stowed).length)],[(1028,.vec 55 4 ((([]:List Stowed).length)+1) (([]:List Stowed).map Stowed.av))],⟨⟨_,O,.vec⟩,G⟩,O,⟨⟨_,O,.conv (.same O)⟩,G⟩,((([]:List Stowed).length)+1),congrArg (fun n_:Nat=>(.vec 1028 ((([]:List Stowed).length)+1) 4 n_:AV)) (hn_.trans O),O⟩
 ·
  refine Gr (hK2 (Jr fun hK6=>(JLh (.vec 1028 ((([]:List Stowed).length)+1) 4 (([]:List Stowed).length)) (Q3e 1028 55 4 O O H3) O (JLm (E6 s) O ?_))))
  obtain⟨ha7,h⟩:=J7 h
  refine JLh (.vec 1028 (((([]:List Stowed).length)+1)+((([]:List Stowed)++s).length+1)) 4 ((([]:List Stowed)++s).length)) (G67 (f:=Stowed.av) (xs:=([]:List Stowed)) (ys:=s) (ver:=((([]:List Stowed).length)+1)) (ver1:=(((([]:List Stowed).length)+1)+((([]:List Stowed)++s).length+1))) rfl rfl rfl rfl H3 G22 ha7 (fun _=>rfl) (.inl rfl) (by simp)) O (JLm (.vec 1028 (((([]:List Stowed).length)+1)+((([]:List Stowed)++s).length+1)) 4 ((([]:List Stowed)++s).length)) O (G5 (hK6 (G81 2 O O (fun hn_=>Gq ?_)))))
  obtain rfl:=Option.some.inj h
  exact⟨[.vec 1028 (((([]:List Stowed).length)+1)+((([]:List Stowed)++s).length+1)) 4 ((([]:List Stowed)++s).length)],[(1028,.vec 55 4 (((([]:List Stowed).length)+1)+((([]:List Stowed)++s).length+1)) ((([]:List Stowed)++s).map Stowed.av))],⟨⟨_,O,.vec⟩,G⟩,O,⟨⟨_,O,.conv (.same O)⟩,G⟩,(((([]:List Stowed).length)+1)+((([]:List Stowed)++s).length+1)),congrArg (fun n_:Nat=>(.vec 1028 (((([]:List Stowed).length)+1)+((([]:List Stowed)++s).length+1)) 4 n_:AV)) (hn_.trans (List.length_map _)),O⟩

def Qo (s:List G2):Option (List G2):=
 R76 s fun b4=>
 bif b4 then
 (some [])
 else
 (need (decide ((([]:List G2).length+s.length)*112≤140737488355328∧([]:List G2).length+s.length≤maxLen)) <|
  some (([]:List G2)++s))
theorem G96 (s:List G2) (r:(List G2)) (h:Qo s=some r):Pure Eo 13 [E1 s] (·=E1 r):=by
 unfold Qo at h
 refine Gy [.tmp 2] Tryz.func13 O O (Jr fun hK1=>(JLh (E1 ([]:List G2)) (Hk 12 O O) O (G5 (hK1 (Js fun hK2=>Jr fun hK3=>(JLm (E1 s) O (Zq O O O (Ha1 Ht O O) ?_)))))))
 rintro u_ L_ ⟨b4,hb4,rfl,rfl⟩
 replace h:=H25 h b4 hb4
 refine G5 (hK3 (JCc O h (fun h hb=>?_) (fun h hb=>?_)))
 ·
  refine Jr fun hK5=>(JLh (E1 ([]:List G2)) (Hk 12 O O) O (G5 (hK5 (Gq (fin1 (fun r:(List G2)=>(E1 r:AV)) h)))))
 ·
  refine Gr (hK2 (Jr fun hK6=>(JLh (OW 140000005 12 G2.av ([]:List G2)) (Hc4 140000005 58 12 O O Ht) O (JLm (E1 s) O ?_))))
  obtain⟨ha7,h⟩:=J7 h
  refine JLh (OW 140000005 12 G2.av (([]:List G2)++s)) (H5e (f:=G2.av) (xs:=([]:List G2)) (ys:=s) O O O O Ht Hcd ha7 (fun _=>O) (.inl O)) O (JLm (OW 140000005 12 G2.av (([]:List G2)++s)) O (G5 (hK6 (Gq (fin1l (fun r:(List G2)=>(E1 r:AV)) h)))))


end
end Go.Proofs.YtidpfkmbfgihlaaGreat
