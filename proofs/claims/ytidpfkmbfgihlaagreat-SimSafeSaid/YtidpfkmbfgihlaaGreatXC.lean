/- Walks of functions. -/
import Derived.Test.YtidpfkmbfgihlaaGreatSpecI
import Derived.Test.YtidpfkmbfgihlaaGreatSpecI
set_option maxRecDepth 100000
set_option maxHeartbeats 1000000
set_option linter.unusedVariables false
set_option linter.unusedSimpArgs false
namespace Go.Proofs.YtidpfkmbfgihlaaGreat
open Go.RowKit
noncomputable section
structure Stowed where
 Box:Int
 Slot:Slot
 deriving DecidableEq,Inhabited
def Stowed.cs (x:Stowed):List AV:=[I64 x.Box,I64 x.Slot.G2,I64 x.Slot.Tier,U8 x.Slot.Half]
def Stowed.av (x:Stowed):AV:=.agg x.cs
abbrev Eg (x:Stowed):AV:=.dptr (Stowed.cs x)
abbrev E2:=LS 4 Stowed.av
namespace XCF
open XAF
theorem Zx:Z8 Eo 3 1 8=true:=by kernel_rfl
theorem G29:Z8 Eo 55 4 32=true:=by kernel_rfl
theorem Hd6:Z8 Eo 58 12 112=true:=by kernel_rfl
theorem H4:sliceB Eo 38 55 4=true:=by kernel_rfl
end XCF
open XAF
open XCF

def Q4 (s:List Int):Option (List Int):=
 R83 s fun a=>
 bif a then
 (some [])
 else
 (need (decide ((([]:List Int).length+s.length)*8≤140737488355328∧([]:List Int).length+s.length≤maxLen)) <|
  some (([]:List Int)++s))
theorem G42 (s:List Int) (r:(List Int)) (h:Q4 s=some r):Pure Eo 44 [E1 s] (·=E1 r):=by
 unfold Q4 at h
 refine H0 [.tmp 2] Tryz.func44 O O (Jr fun a=>(JLh (E1 ([]:List Int)) (Hm 1 O O) O (G5 (a (Js fun b=>Jr fun c=>(JLm (E1 s) O (Zu O O O (Ha8 Gz O O) ?_)))))))
 rintro u_ L_ ⟨j,d,rfl,rfl⟩
 replace h:=H2b h j d
 refine G5 (c (JCc O h (fun h hb=>?_) (fun h hb=>?_)))
 ·
  refine Jr fun e=>(JLh (E1 ([]:List Int)) (Hm 1 O O) O (G5 (e (Gq (fin1 (fun r:(List Int)=>(E1 r:AV)) h)))))
 ·
  refine Gr (b (Jr fun g=>(JLh (OW 450000005 1 I64 ([]:List Int)) (Hcd 450000005 3 1 O O Gz) O (JLm (E1 s) O ?_))))
  obtain⟨i,h⟩:=J8 h
  refine JLh (OW 450000005 1 I64 (([]:List Int)++s)) (H66 (f:=I64) (xs:=([]:List Int)) (ys:=s) O O O O Gz Zx i (fun _=>O) (.inl O)) O (JLm (OW 450000005 1 I64 (([]:List Int)++s)) O (G5 (g (Gq (fin1l (fun r:(List Int)=>(E1 r:AV)) h)))))

def Qb (s:List Stowed):Option (List Stowed):=
 R83 s fun a=>
 bif a then
 (some [])
 else
 (need (decide ((([]:List Stowed).length+s.length)*32≤140737488355328∧([]:List Stowed).length+s.length≤maxLen)) <|
  some (([]:List Stowed)++s))
theorem H38 (s:List Int) (r:(List Int)) (h:Q4 s=some r):Jh Eo 44 [E1 s] [] (fun av L'=>∃ p:Nat,av=.vec 1090 p 1 r.length∧L'=[(1090,.vec 3 1 p (r.map I64))]):=by
 unfold Q4 at h
 refine Q9 [] [.tmp 2] Tryz.func44 O O (G56 O) (Jr fun a=>(JLh (.vec 1090 (([]:List Int).length) 1 (([]:List Int).length)) (H49 1090 3 1 O O O) O (G5 (a (Js fun b=>Jr fun c=>(JLm (E1 s) O (Zu O O O (Ha8 Gz O O) ?_)))))))
 rintro u_ L_ ⟨j,d,rfl,rfl⟩
 replace h:=H2b h j d
 refine G5 (c (JCc O h (fun h hb=>?_) (fun h hb=>?_)))
 ·
  refine Jr fun e=>(JLh (.vec 1090 ((([]:List Int).length)+1) 1 (([]:List Int).length)) (Q49 1090 3 1 O O O) O (G5 (e (G87 2 O O (fun hn_=>Gq ?_)))))
  obtain rfl:=M5 h
  exact⟨[.vec 1090 ((([]:List Int).length)+1) 1 (([]:List Int).length)],[(1090,.vec 3 1 ((([]:List Int).length)+1) (([]:List Int).map I64))],⟨⟨_,O,.vec⟩,G⟩,O,⟨⟨_,O,.conv (.same O)⟩,G⟩,((([]:List Int).length)+1),congrArg (fun n_:Nat=>(.vec 1090 ((([]:List Int).length)+1) 1 n_:AV)) (hn_.trans O),O⟩
 ·
  refine Gr (b (Jr fun g=>(JLh (.vec 1090 ((([]:List Int).length)+1) 1 (([]:List Int).length)) (Q4a 1090 3 1 O O Gz) O (JLm (E1 s) O ?_))))
  obtain⟨i,h⟩:=J8 h
  refine JLh (.vec 1090 (((([]:List Int).length)+1)+((([]:List Int)++s).length+1)) 1 ((([]:List Int)++s).length)) (G6d (f:=I64) (xs:=([]:List Int)) (ys:=s) (ver:=((([]:List Int).length)+1)) (ver1:=(((([]:List Int).length)+1)+((([]:List Int)++s).length+1))) rfl rfl rfl rfl Gz Zx i (fun _=>rfl) (.inl rfl) (by simp)) O (JLm (.vec 1090 (((([]:List Int).length)+1)+((([]:List Int)++s).length+1)) 1 ((([]:List Int)++s).length)) O (G5 (g (G87 2 O O (fun hn_=>Gq ?_)))))
  obtain rfl:=M5 h
  exact⟨[.vec 1090 (((([]:List Int).length)+1)+((([]:List Int)++s).length+1)) 1 ((([]:List Int)++s).length)],[(1090,.vec 3 1 (((([]:List Int).length)+1)+((([]:List Int)++s).length+1)) ((([]:List Int)++s).map I64))],⟨⟨_,O,.vec⟩,G⟩,O,⟨⟨_,O,.conv (.same O)⟩,G⟩,(((([]:List Int).length)+1)+((([]:List Int)++s).length+1)),congrArg (fun n_:Nat=>(.vec 1090 (((([]:List Int).length)+1)+((([]:List Int)++s).length+1)) 1 n_:AV)) (hn_.trans (Mj _)),O⟩


theorem Ye (s:List Stowed) (r:(List Stowed)) (h:Qb s=some r):Jh Eo 12 [E2 s] [] (fun av L'=>∃ p:Nat,av=.vec 1028 p 4 r.length∧L'=[(1028,.vec 55 4 p (r.map Stowed.av))]):=by
 unfold Qb at h
 refine Q9 [] [.tmp 2] Tryz.func12 O O (G56 O) (Jr fun a=>(JLh (.vec 1028 (([]:List Stowed).length) 4 (([]:List Stowed).length)) (H49 1028 55 4 O O O) O (G5 (a (Js fun b=>Jr fun c=>(JLm (E2 s) O (Zu O O O (Ha8 H4 O O) ?_)))))))
 rintro u_ L_ ⟨j,d,rfl,rfl⟩
 replace h:=H2b h j d
 refine G5 (c (JCc O h (fun h hb=>?_) (fun h hb=>?_)))
 ·
  refine Jr fun e=>(JLh (.vec 1028 ((([]:List Stowed).length)+1) 4 (([]:List Stowed).length)) (Q49 1028 55 4 O O O) O (G5 (e (G87 2 O O (fun hn_=>Gq ?_)))))
  obtain rfl:=M5 h
  exact⟨[.vec 1028 ((([]:List Stowed).length)+1) 4 (([]:List Stowed).length)],[(1028,.vec 55 4 ((([]:List Stowed).length)+1) (([]:List Stowed).map Stowed.av))],⟨⟨_,O,.vec⟩,G⟩,O,⟨⟨_,O,.conv (.same O)⟩,G⟩,((([]:List Stowed).length)+1),congrArg (fun n_:Nat=>(.vec 1028 ((([]:List Stowed).length)+1) 4 n_:AV)) (hn_.trans O),O⟩
 ·
  refine Gr (b (Jr fun g=>(JLh (.vec 1028 ((([]:List Stowed).length)+1) 4 (([]:List Stowed).length)) (Q4a 1028 55 4 O O H4) O (JLm (E2 s) O ?_))))
  obtain⟨i,h⟩:=J8 h
  refine JLh (.vec 1028 (((([]:List Stowed).length)+1)+((([]:List Stowed)++s).length+1)) 4 ((([]:List Stowed)++s).length)) (G6d (f:=Stowed.av) (xs:=([]:List Stowed)) (ys:=s) (ver:=((([]:List Stowed).length)+1)) (ver1:=(((([]:List Stowed).length)+1)+((([]:List Stowed)++s).length+1))) rfl rfl rfl rfl H4 G29 i (fun _=>rfl) (.inl rfl) (by simp)) O (JLm (.vec 1028 (((([]:List Stowed).length)+1)+((([]:List Stowed)++s).length+1)) 4 ((([]:List Stowed)++s).length)) O (G5 (g (G87 2 O O (fun hn_=>Gq ?_)))))
  obtain rfl:=M5 h
  exact⟨[.vec 1028 (((([]:List Stowed).length)+1)+((([]:List Stowed)++s).length+1)) 4 ((([]:List Stowed)++s).length)],[(1028,.vec 55 4 (((([]:List Stowed).length)+1)+((([]:List Stowed)++s).length+1)) ((([]:List Stowed)++s).map Stowed.av))],⟨⟨_,O,.vec⟩,G⟩,O,⟨⟨_,O,.conv (.same O)⟩,G⟩,(((([]:List Stowed).length)+1)+((([]:List Stowed)++s).length+1)),congrArg (fun n_:Nat=>(.vec 1028 (((([]:List Stowed).length)+1)+((([]:List Stowed)++s).length+1)) 4 n_:AV)) (hn_.trans (Mj _)),O⟩

def Qo (s:List G2):Option (List G2):=
 R83 s fun a=>
 bif a then
 (some [])
 else
 (need (decide ((([]:List G2).length+s.length)*112≤140737488355328∧([]:List G2).length+s.length≤maxLen)) <|
  some (([]:List G2)++s))
theorem G9c (s:List G2) (r:(List G2)) (h:Qo s=some r):Pure Eo 13 [E3 s] (·=E3 r):=by
 unfold Qo at h
 refine H0 [.tmp 2] Tryz.func13 O O (Jr fun a=>(JLh (E3 ([]:List G2)) (Hm 12 O O) O (G5 (a (Js fun b=>Jr fun c=>(JLm (E3 s) O (Zu O O O (Ha8 Ht O O) ?_)))))))
 rintro u_ L_ ⟨j,d,rfl,rfl⟩
 replace h:=H2b h j d
 refine G5 (c (JCc O h (fun h hb=>?_) (fun h hb=>?_)))
 ·
  refine Jr fun e=>(JLh (E3 ([]:List G2)) (Hm 12 O O) O (G5 (e (Gq (fin1 (fun r:(List G2)=>(E3 r:AV)) h)))))
 ·
  refine Gr (b (Jr fun g=>(JLh (OW 140000005 12 G2.av ([]:List G2)) (Hcd 140000005 58 12 O O Ht) O (JLm (E3 s) O ?_))))
  obtain⟨i,h⟩:=J8 h
  refine JLh (OW 140000005 12 G2.av (([]:List G2)++s)) (H66 (f:=G2.av) (xs:=([]:List G2)) (ys:=s) O O O O Ht Hd6 i (fun _=>O) (.inl O)) O (JLm (OW 140000005 12 G2.av (([]:List G2)++s)) O (G5 (g (Gq (fin1l (fun r:(List G2)=>(E3 r:AV)) h)))))


end
end Go.Proofs.YtidpfkmbfgihlaaGreat
