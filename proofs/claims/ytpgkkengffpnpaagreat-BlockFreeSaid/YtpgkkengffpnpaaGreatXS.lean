/-
 Models of functions of the program,and that they return what the models say.
-/
import Derived.Test.YtpgkkengffpnpaaGreatXR
set_option linter.unnecessarySimpa false
set_option maxRecDepth 100000
set_option maxHeartbeats 1000000
set_option linter.unusedVariables false
set_option linter.unusedSimpArgs false
namespace Go.Proofs.YtpgkkengffpnpaaGreat
open Go.RowKit
noncomputable section

namespace XSF
open XAF
open XCF
open XGF
open XHF
open XBF
open XPF
open XQF
open XRF

end XSF
open XAF
open XCF
open XGF
open XHF
open XBF
open XPF
open XQF
open XRF
open XSF


theorem G71 (l:List Gx) (covers:Int) (drops:List Gi) (most:Int) (r:Gp×(List G9)×(List Stowed)) (h:Jf l covers drops most=some r):Qu Ek 8 [Eb l,.sc (.int .u32 covers),E9 drops,G0 most] [] (fun av L'=>∃ p:Nat,av=.tup [.agg (Gp.cs r.1),.vec 1063 p 9 r.2.1.length,E1 r.2.2]∧L'=[(1063,.vec 61 9 p (r.2.1.map G9.av))]):=by
 unfold Jf at h
 refine G20 [] [.cell 8 35,.tmp 9,.tmp 10] Tryz.func8 O O (Hcb O) ?_
 refine Jr fun hK1=>(JLh (.ptr 1021 0) (G8c 1021 [E3 ([]:List G4),E8 ([]:List Ga),G0 0,G0 0,G0 0,G0 0,E5 ([]:List Row),E6 ([]:List Frame),E7 ([]:List Gk),G0 0,G0 0,G0 0,G0 0] [.slice none 0 0,.slice none 0 0,.int .i64 0,.int .i64 0,.int .i64 0,.int .i64 0,.slice none 0 0,.slice none 0 0,.slice none 0 0,.int .i64 0,.int .i64 0,.int .i64 0,.int .i64 0] G8f ⟨.inr ⟨_,O,O⟩,.inr ⟨_,O,O⟩,.inl O,.inl O,.inl O,.inl O,.inr ⟨_,O,O⟩,.inr ⟨_,O,O⟩,.inr ⟨_,O,O⟩,.inl O,.inl O,.inl O,.inl O,G⟩ O O) O (JLh (.vec 1022 (([]:List G9).length) 9 (([]:List G9).length)) (Had 1022 61 9 O O O) O (JLh (E1 ([]:List Stowed)) (Hf 4 O O) O (G7 (hK1 ?_)))))
 refine Jr fun hK2=>(Yt (Eb l) O (Yt (.sc (.int .u32 covers)) O ?_))
 obtain⟨r3,hr3,h⟩:=Gd h
 refine JLh (.agg (Gp.cs r3)) (Gt O (G5f l covers r3 hr3) J60 ⟨O,O,O,O,G⟩) O (JLh (.ptr 1023 0) (Hu 1023 13 G13 O O) O (Hw (u:=.junk) (Hj (u:=.agg (Gp.cs r3)) (ds:=(Gp.cs r3)) Yz O O O O O O O O) (G7 (hK2 ?_))))
 refine Gs [(2,E9 drops),(3,G0 most),(8,.ptr 1021 0),(11,Ec r3)] [(1021,.box 35 [E3 ([]:List G4),E8 ([]:List Ga),G0 0,G0 0,G0 0,G0 0,E5 ([]:List Row),E6 ([]:List Frame),E7 ([]:List Gk),G0 0,G0 0,G0 0,G0 0]),(1022,.vec 61 9 (([]:List G9).length) (([]:List G9).map G9.av))] 1023 rfl rfl rfl ⟨⟨_,rfl,.boxEq rfl rfl⟩,⟨_,rfl,.vec⟩,G⟩ rfl (by repeat' (first | exact .ptr | constructor)) (Jr fun hK4=>(JLh (.agg (Gp.cs r3)) (Gg H5 O O O) O (Yt (E9 drops) O (Yt (G0 most) O ?_))))
 obtain⟨r5,hr5,h⟩:=Gd h
 refine G68 O O O (He4 (args:=[.agg (Gp.cs r3),E9 drops,G0 most]) (L0:=[]) (u:=fun p=>.tup [.vec 1063 p 9 r5.1.length,E1 r5.2]) (Lr:=fun p=>[(1063,.vec 61 9 p (r5.1.map G9.av))]) O (G55 r3 drops most r5 hr5) J5f ⟨.inl O,O,.inl O,O,.inl O,O,G⟩ G O (fun _=>O)) ?_
 rintro u_ L_ ⟨v6,rfl,rfl⟩
 refine Yt (.tup [.vec 1063 v6 9 r5.1.length,E1 r5.2]) O (JLh (.vec 1063 v6 9 r5.1.length) (Gn O O O) O (JLh (E1 r5.2) (Gn O O O) O (Yt (.vec 1063 v6 9 r5.1.length) O (Yt (E1 r5.2) O (G7 (hK4 (Js fun hK7=>Jr fun hK8=>(Yt (.vec 1063 v6 9 r5.1.length) O (Jd7 (f:=G9.av) (xs:=r5.1) Q9 O O O (fun hm26=>?_) O O O)))))))))
 refine Yt (G0 0) O (G7 (hK8 (Gv ?_)))
 obtain⟨b41,kx41,hb41,hkx41,h⟩:=J0 h
 refine Hp (fun i41 (s41:(List G9))=>each b41 kx41 (List.drop i41 r5.1) i41 s41=some r) (fun i41 s41=>[(8,.ptr 1021 0),(11,Ec r3),(12,.vec 1063 v6 9 r5.1.length),(13,E1 r5.2),(26,Ej r5.1.length),(27,Ej i41)]) (fun i41 s41=>[(1022,.vec 61 9 (([]:List G9).length) (([]:List G9).map G9.av)),(1063,.vec 61 9 v6 (s41.map G9.av)),(1021,.box 35 [E3 ([]:List G4),E8 ([]:List Ga),G0 0,G0 0,G0 0,G0 0,E5 ([]:List Row),E6 ([]:List Frame),E7 ([]:List Gk),G0 0,G0 0,G0 0,G0 0])]) (fun i41=>r5.1.length - i41) 0 r5.1 h ⟨(by repeat' constructor),⟨⟨_,rfl,.vec⟩,⟨_,rfl,.vec⟩,⟨_,rfl,.boxL rfl (by repeat' constructor)⟩,G⟩,rfl⟩ ?_
 clear h
 intro i41 s41 hi41 K41 e41
 refine Jr fun hK42=>(JLh (BL (decide ((i41:Int) < (r5.1.length:Int)))) (Ja O O O) O (G7 (hK42 (Js fun hK43=>Gm O (fun hb=>?_) (fun hb=>?_)))))
 ·
  have hk41:=Ji hb
  obtain⟨y41,nx41,hy41,hn41,h⟩:=Hq hi41 hk41
  replace h:=Y8 hb41 h
  refine Gr (hK43 (Js fun hK44=>Gv (Jr fun hK45=>(Yt (Ej i41) O (Yt (Ej i41) O (G7 (hK45 (G3 (Yt (.vec 1063 v6 9 r5.1.length) O (Yt (Ej i41) O (Yt (.vec 1063 v6 9 r5.1.length) O (Yt (Ej i41) O ?_))))))))))))
  obtain⟨y46,hmy46,hy46,h⟩:=H74 h
  refine JLh (.vptr 1063 v6 ((i41:Int).toNat) 0) (J38 (f:=G9.av) (xs:=s41) (y:=y46) O O O O Q9 hy46 hmy46) O (JLh (.vptr 1063 v6 ((i41:Int).toNat) 4) (Hdd H81 O O O) O (JLh (G0 y46.Kilos) (Jdb (f:=G9.av) (xs:=s41) (y:=y46) Gb O O O hy46 O O) O ?_))
  obtain⟨v47,hv47,h⟩:=Gd h
  refine JLh (G0 v47) (A_quo (H6d hv47).1 (H6d hv47).2 O O O) O ?_
  obtain⟨v48,hv48,h⟩:=Gd h
  refine JLh (G0 v48) (Ja6 (Yu hv48).1 (Yu hv48).2 O O O) O ?_
  obtain⟨v49,hv49,h⟩:=Jn h
  refine JLh (G0 v49) (Hx hv49 O O O) O ?_
  obtain⟨y50,hmy50,hy50,h⟩:=H74 h
  refine JLh (.vptr 1063 v6 ((i41:Int).toNat) 0) (J38 (f:=G9.av) (xs:=s41) (y:=y50) O O O O Q9 hy50 hmy50) O (JLh (.vptr 1063 v6 ((i41:Int).toNat) 6) (Hdd G9f O O O) O (Hw (u:=.junk) (Jb5 (f:=G9.av) (xs:=s41) (e:=y50) (z:=(G9.mk y50.ID y50.Number y50.Size y50.High y50.Kilos y50.Load v49 y50.Class y50.Reefer)) (u:=G0 v49) G48 O O O O hy50 O O O O O) (G7 (hK44 (G3 (JLh (G0 ((i41+1:Nat):Int)) (Hx (Ho hk41 hm26) O O O) O (Yt (G0 ((i41+1:Nat):Int)) O (G7 (e41 _ _ (i41+1) (s41.set (i41:Int).toNat (G9.mk y50.ID y50.Number y50.Size y50.High y50.Kilos y50.Load v49 y50.Class y50.Reefer)) (app1 hn41 h) (by omega) ⟨(by repeat' constructor),⟨⟨_,rfl,.vec⟩,⟨_,rfl,.vec⟩,⟨_,rfl,.boxL rfl (by repeat' constructor)⟩,G⟩,rfl⟩)))))))))
 ·
  have h:=app1 hkx41 (Hr hi41 (Hc hb))
  refine Ht (hK7 (Jr fun hK51=>(JLh (.agg (Gp.cs r3)) (Gg H5 O O O) O (Yt (.vec 1063 v6 9 r5.1.length) O (Yt (E1 r5.2) O (Hw (u:=.junk) (Hj (u:=.agg (Gp.cs r3)) (ds:=(Gp.cs r3)) Yz O O O O O O O O) (Yt (.vec 1063 v6 9 r5.1.length) O (Yt (E1 r5.2) O (G7 (hK51 (H7a 9 O O (fun hn_=>Gw ?_))))))))))))
  obtain rfl:=Option.some.inj h
  exact⟨[.agg (Gp.cs r3),.vec 1063 v6 9 r5.1.length,E1 r5.2],[(1063,.vec 61 9 v6 (s41.map G9.av))],⟨⟨_,O,.vec⟩,G⟩,O,⟨⟨_,⟨_,_,_,_,O,O,O,.inl ⟨H5,O⟩⟩,.conv (.same O)⟩,⟨_,O,.conv (.same O)⟩,⟨_,O,.conv (.same O)⟩,G⟩,v6,congrArg (fun n_:Nat=>(.tup [.agg (Gp.cs r3),.vec 1063 v6 9 n_,E1 r5.2]:AV)) (hn_.trans (List.length_map _)),O⟩

def Qx (F:Nat) (l:List Gx) (covers:Int) (drops:List Gi) (more:Gi):Option Bool:=
 bnd (Jf l covers drops 7) fun r3=>
 G0c (more.Kilos) fun v6=>
 bnd (H85 v6 4) fun v7=>
 G0c (1+v7) fun v8=>
 jp (fun kj9=>
  bif more.Small then
  (kj9 20)
  else
  (kj9 40)) fun(j9:Int)=>
 need (decide ((r3.2.1.length+[(G9.mk 3 ByteArray.empty j9 false 0 0 v8 0 false)].length)*64≤140737488355328∧r3.2.1.length+[(G9.mk 3 ByteArray.empty j9 false 0 0 v8 0 false)].length≤maxLen)) <|
 bnd (Rg F r3.1 (r3.2.1++[(G9.mk 3 ByteArray.empty j9 false 0 0 v8 0 false)]) r3.2.2 3) fun r14=>
 bif decide (r14.2.2=4) then
 (bnd (bif ((decide ((r14.1.length:Int)=0))&&(decide (r14.2.1=0))) then J3 F else some default) fun r18=>
  some (((decide ((r14.1.length:Int)=0))&&(decide (r14.2.1=0)))&&r18))
 else
 (bif ((decide (r14.2.2≠0))||(decide ((r14.1.length:Int)=0))) then
  (some false)
  else
  (each (fun y58 i58 (s58:Unit) nx58=>
    need (decide ((([]:List Stowed).length+[(Stowed.mk 3 y58)].length)*32≤140737488355328∧([]:List Stowed).length+[(Stowed.mk 3 y58)].length≤maxLen)) <|
    need (decide (((([]:List Stowed)++[(Stowed.mk 3 y58)]).length+r3.2.2.length)*32≤140737488355328∧(([]:List Stowed)++[(Stowed.mk 3 y58)]).length+r3.2.2.length≤maxLen)) <|
    bnd (Jq F r3.1 (r3.2.1++[(G9.mk 3 ByteArray.empty j9 false 0 0 v8 0 false)]) ((([]:List Stowed)++[(Stowed.mk 3 y58)])++r3.2.2) 3) fun r69=>
    bnd (Q3 r3.1 (r3.2.1++[(G9.mk 3 ByteArray.empty j9 false 0 0 v8 0 false)]) ((([]:List Stowed)++[(Stowed.mk 3 y58)])++r3.2.2)) fun r71=>
    bnd (bif ((!(((!r71)||(decide (r69.2≠0)))||(decide ((r69.1.length:Int)≠r14.2.1))))&&(decide (0 < (i58:Int)))) then G0c ((i58:Int) - 1) some else some 0) fun v72=>
    bnd (bif ((!(((!r71)||(decide (r69.2≠0)))||(decide ((r69.1.length:Int)≠r14.2.1))))&&(decide (0 < (i58:Int)))) then Z0 r14.1 v72 some else some default) fun y73=>
    bif ((((!r71)||(decide (r69.2≠0)))||(decide ((r69.1.length:Int)≠r14.2.1)))||((decide (0 < (i58:Int)))&&(decide (y73=y58)))) then
    (some false)
    else
    (nx58 ()))
   (fun(s58:Unit)=>
    each (fun y77 i77 (s77:Unit) nx77=>
     need (decide (5≤9223372036854775807)) <|
     upto (fun i83 (s83:Unit) nx83=>
      jp (fun kj86=>
       jp (fun kj88=>
        bif more.Small then
        (kj88 1)
        else
        (kj88 0)) fun(j88:Int)=>
       bnd (G04 F r3.1 (r3.2.1++[(G9.mk 3 ByteArray.empty j9 false 0 0 v8 0 false)]) r3.2.2 [] (Stowed.mk 3 (Slot.mk (i77:Int) (i83:Int) j88))) fun r91=>
       bif decide (r91.2≠0) then
       (kj86 ())
       else
       (bnd (Jq F r3.1 (r3.2.1++[(G9.mk 3 ByteArray.empty j9 false 0 0 v8 0 false)]) r91.1 3) fun r95=>
        each (fun y109 i109 (s109:Bool) nx109=>
         nx109 (s109||(decide ((Slot.mk (i77:Int) (i83:Int) j88)=y109))))
        (fun(s109:Bool)=>
         bif (((decide (r95.2≠0))||(decide ((r95.1.length:Int) < r14.2.1)))||(!((decide ((r95.1.length:Int)=r14.2.1))==s109))) then
         (some false)
         else
         (kj86 ())) r14.1 0 false)) fun(j86:Unit)=>
      nx83 ())
     (fun(s83:Unit)=>
      nx77 ()) (5:Int).toNat 0 ())
    (fun(s77:Unit)=>
     bnd (J3 F) fun r117=>
     some r117) r3.1.Columns 0 ()) r14.1 0 ()))
theorem Gb9 (F:Nat) (l:List Gx) (covers:Int) (drops:List Gi) (more:Gi) (r:Bool) (h:Qx F l covers drops more=some r):Pure Ek 5 [Eb l,.sc (.int .u32 covers),E9 drops,.agg (Gi.cs more)] (·=BL r):=by
 unfold Qx at h
 refine H6 [.tmp 8] Tryz.func5 O O (Jr fun hK1=>(JLh (.ptr 1008 0) (Jk (cs:=[U8 more.G4,U8 more.Kilos,BL more.Small,BL more.High]) 1008 O O O O O) O (Yt (BL false) O (G7 (hK1 (Gs [(0,Eb l),(1,.sc (.int .u32 covers)),(2,E9 drops),(7,Eg more)] [] 1008 rfl rfl rfl G rfl (by repeat' (first | exact .ptr | constructor)) (Jr fun hK2=>(Yt (Eb l) O (Yt (.sc (.int .u32 covers)) O (Yt (E9 drops) O ?_))))))))))
 obtain⟨r3,hr3,h⟩:=Gd h
 refine G68 O O O (He4 (args:=[Eb l,.sc (.int .u32 covers),E9 drops,G0 7]) (L0:=[]) (u:=fun p=>.tup [.agg (Gp.cs r3.1),.vec 1063 p 9 r3.2.1.length,E1 r3.2.2]) (Lr:=fun p=>[(1063,.vec 61 9 p (r3.2.1.map G9.av))]) O (G71 l covers drops 7 r3 hr3) H09 ⟨.inl O,O,.inl O,O,.inl O,O,.inl O,O,G⟩ G O (fun _=>O)) ?_
 rintro u_ L_ ⟨v4,rfl,rfl⟩
 refine Yt (.tup [.agg (Gp.cs r3.1),.vec 1063 v4 9 r3.2.1.length,E1 r3.2.2]) O (JLh (.agg (Gp.cs r3.1)) (Gn O O O) O (JLh (.vec 1063 v4 9 r3.2.1.length) (Gn O O O) O (JLh (E1 r3.2.2) (Gn O O O) O (JLh (.ptr 1009 0) (Hu 1009 13 G13 O O) O (Hw (u:=.junk) (Hj (u:=.agg (Gp.cs r3.1)) (ds:=(Gp.cs r3.1)) Yz O O O O O O O O) (Yt (.vec 1063 v4 9 r3.2.1.length) O (Yt (E1 r3.2.2) O (G7 (hK2 ?_)))))))))
 refine Gs [(7,Eg more),(9,Ec r3.1),(10,.vec 1063 v4 9 r3.2.1.length),(11,E1 r3.2.2)] [(1063,.vec 61 9 v4 (r3.2.1.map G9.av))] 1009 rfl rfl rfl ⟨⟨_,rfl,.vec⟩,G⟩ rfl (by repeat' (first | exact .ptr | constructor)) (Jr fun hK5=>(JLh (.dptr ((Gi.cs more).drop 1)) (Gf H83 O O O) O (JLh (U8 more.Kilos) (Gj J9 O O O) O ?_)))
 obtain⟨v6,hv6,h⟩:=Jn h
 refine JLh (G0 v6) (H65 Ga4 H08 hv6 O O) O ?_
 obtain⟨v7,hv7,h⟩:=Gd h
 refine JLh (G0 v7) (Ja6 (Yu hv7).1 (Yu hv7).2 O O O) O ?_
 obtain⟨v8,hv8,h⟩:=Jn h
 refine JLh (G0 v8) (Hx hv8 O O O) O (JLh (.agg [G0 3,ST ByteArray.empty,U8 40,BL false,G0 0,G0 0,G0 v8,U8 0,BL false]) (Hz (cs:=[G0 3,ST ByteArray.empty,U8 40,BL false,G0 0,G0 0,G0 v8,U8 0,BL false]) [(0,1),(1,1),(2,1),(3,1),(4,1),(5,1),(6,1),(7,1),(8,1)] [G0 0,ST ByteArray.empty,U8 0,BL false,G0 0,G0 0,G0 0,U8 0,BL false] [.int .i64 0,.string ByteArray.empty,.int .u8 0,.bool false,.int .i64 0,.int .i64 0,.int .i64 0,.int .u8 0,.bool false] Rv Yy ⟨.inl O,.inl O,.inl O,.inl O,.inl O,.inl O,.inl O,.inl O,.inl O,G⟩ O O) O (JLh (.ptr 1010 0) (Hu 1010 9 Y2 O O) O (Hw (u:=.junk) (Hj (u:=.agg [G0 3,ST ByteArray.empty,U8 40,BL false,G0 0,G0 0,G0 v8,U8 0,BL false]) (ds:=[G0 3,ST ByteArray.empty,U8 40,BL false,G0 0,G0 0,G0 v8,U8 0,BL false]) Zy O O O O O O O O) (G7 (hK5 ?_)))))
 obtain⟨kj9,hkj9,h⟩:=Ri h
 refine Qo (fun j9:Int=>kj9 j9=some r) (fun j9=>[(7,Eg more),(9,Ec r3.1),(10,.vec 1063 v4 9 r3.2.1.length),(11,E1 r3.2.2),(12,.ptr 1010 0)]) (fun j9=>[(1063,.vec 61 9 v4 (r3.2.1.map G9.av)),(1010,.box 61 [G0 3,ST ByteArray.empty,U8 j9,BL false,G0 0,G0 0,G0 v8,U8 0,BL false])]) (fun Kj9 ej9=>?_) ?_
 ·
  refine Jr fun hK10=>(JLh (.dptr [BL more.Small,BL more.High]) (Gf H02 O O O) O (JLh (BL more.Small) (Gj Qs O O O) O (G7 (hK10 (JCc O h (fun h hb=>?_) (fun h hb=>?_))))))
  ·
   refine G3 (JLh (.ptr 1010 2) (Qm Rt O O) O (Hw (u:=.junk) (Hj (u:=U8 20) (ds:=[G0 3,ST ByteArray.empty,U8 20,BL false,G0 0,G0 0,G0 v8,U8 0,BL false]) He9 O O O O O O O O) (G7 (ej9 _ _ 20 h ⟨(by repeat' constructor),⟨⟨_,rfl,.vec⟩,⟨_,rfl,.boxL rfl (by repeat' constructor)⟩,G⟩,rfl⟩))))
  ·
   refine Gr (ej9 _ _ 40 h ⟨(by repeat' constructor),⟨⟨_,rfl,.vec⟩,⟨_,rfl,.boxL rfl (by repeat' constructor)⟩,G⟩,rfl⟩)
 ·intro j9 h
  replace h:=app1 hkj9 h
  refine Jr fun hK11=>(Yt (.vec 1063 v4 9 r3.2.1.length) O (JLh (.agg [G0 3,ST ByteArray.empty,U8 j9,BL false,G0 0,G0 0,G0 v8,U8 0,BL false]) (G6e G49 O O O O) O (JLh (E2 [(G9.mk 3 ByteArray.empty j9 false 0 0 v8 0 false)]) (H8 (xs:=[.agg [G0 3,ST ByteArray.empty,U8 j9,BL false,G0 0,G0 0,G0 v8,U8 0,BL false]]) O ⟨O,O,G⟩ Q9 Y2 O O O O) O ?_)))
  obtain⟨ha12,h⟩:=J6 h
  refine JLh (.vec 1063 (v4+1) 9 ((r3.2.1++[(G9.mk 3 ByteArray.empty j9 false 0 0 v8 0 false)]).length)) (G44 (f:=G9.av) (xs:=r3.2.1) (ys:=[(G9.mk 3 ByteArray.empty j9 false 0 0 v8 0 false)]) (ver:=v4) (ver1:=(v4+1)) rfl rfl rfl rfl Q9 H94 ha12 (fun _=>rfl) (.inl rfl) (by simp)) O (Yt (.vec 1063 (v4+1) 9 ((r3.2.1++[(G9.mk 3 ByteArray.empty j9 false 0 0 v8 0 false)]).length)) O (G7 (hK11 (Gs [(7,Eg more),(9,Ec r3.1),(10,.vec 1063 (v4+1) 9 ((r3.2.1++[(G9.mk 3 ByteArray.empty j9 false 0 0 v8 0 false)]).length)),(11,E1 r3.2.2)] [(1063,.vec 61 9 (v4+1) ((r3.2.1++[(G9.mk 3 ByteArray.empty j9 false 0 0 v8 0 false)]).map G9.av))] 1010 rfl rfl rfl ⟨⟨_,rfl,.vec⟩,G⟩ rfl (by repeat' (first | exact .ptr | constructor)) ?_))))
  refine Jr fun hK13=>(JLh (.agg (Gp.cs r3.1)) (Gg H5 O O O) O (Yt (.vec 1063 (v4+1) 9 ((r3.2.1++[(G9.mk 3 ByteArray.empty j9 false 0 0 v8 0 false)]).length)) O (Yt (E1 r3.2.2) O (Q09 [(7,Eg more),(9,Ec r3.1),(10,E2 (r3.2.1++[(G9.mk 3 ByteArray.empty j9 false 0 0 v8 0 false)])),(11,E1 r3.2.2),(53,.agg (Gp.cs r3.1)),(54,E2 (r3.2.1++[(G9.mk 3 ByteArray.empty j9 false 0 0 v8 0 false)])),(55,E1 r3.2.2)] [] 1063 rfl rfl G rfl (by exact⟨.conv (.same rfl),.conv (.same rfl),.vec,.conv (.same rfl),.conv (.same rfl),.vec,.conv (.same rfl),G⟩) ?_))))
  obtain⟨r14,hr14,h⟩:=Gd h
  refine JLh (.tup [E4 r14.1,G0 r14.2.1,G0 r14.2.2]) (Gt O (Zc F r3.1 (r3.2.1++[(G9.mk 3 ByteArray.empty j9 false 0 0 v8 0 false)]) r3.2.2 3 r14 hr14) G91 ⟨O,O,O,O,O,O,O,O,G⟩) O (Yt (.tup [E4 r14.1,G0 r14.2.1,G0 r14.2.2]) O (JLh (E4 r14.1) (Gn O O O) O (JLh (G0 r14.2.1) (Gn O O O) O (JLh (G0 r14.2.2) (Gn O O O) O (Yt (E4 r14.1) O (Yt (G0 r14.2.1) O (Yt (G0 r14.2.2) O (G7 (hK13 (Js fun hK15=>Jr fun hK16=>(Yt (G0 r14.2.2) O (JLh (BL (decide (r14.2.2=4))) (Jy O O O) O (G7 (hK16 (JCc O h (fun h hb=>?_) (fun h hb=>?_))))))))))))))))
  ·
   refine Jr fun hK17=>(Yt (E4 r14.1) O (JLl J1 O O O fun hm63=>(JLh (BL (decide ((r14.1.length:Int)=0))) (Jy O O O) O (Yt (BL (decide ((r14.1.length:Int)=0))) O (JLo (G0 r14.2.1) [] O .sct G (fun hc=>G5 O O) O (JLo (BL (decide (r14.2.1=0))) [66] O .sct ⟨Ua,G⟩ (fun hc=>Jy O O O) O (JLh (BL ((decide ((r14.1.length:Int)=0))&&(decide (r14.2.1=0)))) (Qb O O O O) O (Yt (BL ((decide ((r14.1.length:Int)=0))&&(decide (r14.2.1=0)))) O ?_))))))))
   obtain⟨r18,hr18,h⟩:=Gd h
   refine JLo (BL r18) [] O .sct G (fun hc=>Gt (args:=[]) O (Qq F r18 (H3 hc hr18)) G92 G) O (JLh (BL (((decide ((r14.1.length:Int)=0))&&(decide (r14.2.1=0)))&&r18)) (Qb O O O O) O (Yt (BL (((decide ((r14.1.length:Int)=0))&&(decide (r14.2.1=0)))&&r18)) O (G7 (hK17 (Gw (fin1 BL h))))))
  ·
   refine Gr (hK15 (Js fun hK19=>Jr fun hK20=>(Yt (G0 r14.2.2) O (JLh (BL (decide (r14.2.2≠0))) (Zw O O O) O (Yt (BL (decide (r14.2.2≠0))) O (JLo (E4 r14.1) [] O .scf G (fun hc=>G5 O O) O (JLo (Ej r14.1.length) [75] O .scf ⟨Ua,G⟩ (fun hc=>Zg (f:=Slot.av) (xs:=r14.1) J1 O O) O (JLo (BL (decide ((r14.1.length:Int)=0))) [76] O .scf ⟨Ua,G⟩ (fun hc=>Jy O O O) O (JLh (BL ((decide (r14.2.2≠0))||(decide ((r14.1.length:Int)=0)))) (Zj O O O O) O (G7 (hK20 (JCc O h (fun h hb=>?_) (fun h hb=>?_)))))))))))))
   ·
    refine Jr fun hK21=>(Yt (BL false) O (G7 (hK21 (Gw (fin1 BL h)))))
   ·
    refine Gr (hK19 (Js fun hK22=>Jr fun hK23=>(Yt (E4 r14.1) O (JLl J1 O O O fun hm80=>(Yt (G0 0) O (G7 (hK23 (Gv ?_))))))))
    obtain⟨b58,kx58,hb58,hkx58,h⟩:=J0 h
    refine Hp (fun i58 (s58:Unit)=>each b58 kx58 (List.drop i58 r14.1) i58 s58=some r) (fun i58 s58=>[(7,Eg more),(9,Ec r3.1),(10,E2 (r3.2.1++[(G9.mk 3 ByteArray.empty j9 false 0 0 v8 0 false)])),(11,E1 r3.2.2),(13,E4 r14.1),(14,G0 r14.2.1),(79,E4 r14.1),(80,Ej r14.1.length),(81,Ej i58)]) (fun i58 s58=>[]) (fun i58=>r14.1.length - i58) 0 () h ⟨(by repeat' constructor),G,rfl⟩ ?_
    clear h
    intro i58 s58 hi58 K58 e58
    refine Jr fun hK59=>(JLh (BL (decide ((i58:Int) < (r14.1.length:Int)))) (Ja O O O) O (G7 (hK59 (Js fun hK60=>Gm O (fun hb=>?_) (fun hb=>?_)))))
    ·
     have hk58:=Ji hb
     obtain⟨y58,nx58,hy58,hn58,h⟩:=Hq hi58 hk58
     replace h:=Y8 hb58 h
     refine Gr (hK60 (Js fun hK61=>Gv (Jr fun hK62=>(Yt (Ej i58) O (JLh (Eh y58) (Ha (f:=Slot.av) (xs:=r14.1) (y:=y58) O O O J1 hy58 O) O (JLh (.agg (Slot.cs y58)) (Gg J8 O O O) O (JLh (.ptr 1011 0) (Hu 1011 3 Y3 O O) O (Yt (Ej i58) O (Hw (u:=.junk) (Hj (u:=.agg (Slot.cs y58)) (ds:=[G0 y58.G4,G0 y58.Tier,U8 y58.Half]) G37 O O O O O O O O) (G7 (hK62 ?_)))))))))))
     refine Gs [(7,Eg more),(9,Ec r3.1),(10,E2 (r3.2.1++[(G9.mk 3 ByteArray.empty j9 false 0 0 v8 0 false)])),(11,E1 r3.2.2),(13,E4 r14.1),(14,G0 r14.2.1),(16,Ej i58),(17,Eh y58),(79,E4 r14.1),(80,Ej r14.1.length),(81,Ej i58)] [] 1011 rfl rfl rfl G rfl (by repeat' (first | exact .ptr | constructor)) (Jr fun hK63=>(JLh (OW 1012 4 Stowed.av ([]:List Stowed)) (G45 1012 49 4 O O O) O (G7 (hK63 ?_))))
     refine Jr fun hK64=>(Yt (OW 1012 4 Stowed.av ([]:List Stowed)) O (JLh (.agg (Slot.cs y58)) (Gg J8 O O O) O (JLh (.agg [G0 3,G0 y58.G4,G0 y58.Tier,U8 y58.Half]) (Hz (cs:=[G0 3,G0 y58.G4,G0 y58.Tier,U8 y58.Half]) [(0,1),(1,3)] [G0 0,G0 0,G0 0,U8 0] [.int .i64 0,.int .i64 0,.int .i64 0,.int .u8 0] Zp G17 ⟨.inl O,.inl O,.inl O,.inl O,G⟩ O O) O (JLh (E1 [(Stowed.mk 3 y58)]) (H8 (xs:=[.agg [G0 3,G0 y58.G4,G0 y58.Tier,U8 y58.Half]]) O ⟨O,O,G⟩ H2 Jv O O O O) O ?_))))
     obtain⟨ha65,h⟩:=J6 h
     refine JLh (OW 1012 4 Stowed.av (([]:List Stowed)++[(Stowed.mk 3 y58)])) (R9 (f:=Stowed.av) (xs:=([]:List Stowed)) (ys:=[(Stowed.mk 3 y58)]) O O O O H2 G1b ha65 (fun _=>O) (.inl O) O) O (Yt (OW 1012 4 Stowed.av (([]:List Stowed)++[(Stowed.mk 3 y58)])) O (G7 (hK64 (Jr fun hK66=>(Yt (OW 1012 4 Stowed.av (([]:List Stowed)++[(Stowed.mk 3 y58)])) O (Yt (E1 r3.2.2) O ?_))))))
     obtain⟨ha67,h⟩:=J6 h
     refine JLh (OW 1012 4 Stowed.av ((([]:List Stowed)++[(Stowed.mk 3 y58)])++r3.2.2)) (H18 (f:=Stowed.av) (xs:=(([]:List Stowed)++[(Stowed.mk 3 y58)])) (ys:=r3.2.2) O O O O H2 G1b ha67 (fun _=>O) (.inl O)) O (Yt (OW 1012 4 Stowed.av ((([]:List Stowed)++[(Stowed.mk 3 y58)])++r3.2.2)) O (G7 (hK66 (Jr fun hK68=>(JLh (.agg (Gp.cs r3.1)) (Gg H5 O O O) O (Yt (E2 (r3.2.1++[(G9.mk 3 ByteArray.empty j9 false 0 0 v8 0 false)])) O (Yt (OW 1012 4 Stowed.av ((([]:List Stowed)++[(Stowed.mk 3 y58)])++r3.2.2)) O ?_)))))))
     obtain⟨r69,hr69,h⟩:=Gd h
     refine JLh (.tup [E0 r69.1,G0 r69.2]) (Gt O (Q4 F r3.1 (r3.2.1++[(G9.mk 3 ByteArray.empty j9 false 0 0 v8 0 false)]) ((([]:List Stowed)++[(Stowed.mk 3 y58)])++r3.2.2) 3 r69 hr69) Zd ⟨O,O,O,O,O,O,O,O,G⟩) O (Yt (.tup [E0 r69.1,G0 r69.2]) O (JLh (E0 r69.1) (Gn O O O) O (JLh (G0 r69.2) (Gn O O O) O (Yt (E0 r69.1) O (Yt (G0 r69.2) O (G7 (hK68 (Js fun hK70=>?_))))))))
     refine Yi (l':=[(7,Eg more),(9,Ec r3.1),(10,E2 (r3.2.1++[(G9.mk 3 ByteArray.empty j9 false 0 0 v8 0 false)])),(11,E1 r3.2.2),(13,E4 r14.1),(14,G0 r14.2.1),(16,Ej i58),(17,Eh y58),(18,OW 1012 4 Stowed.av ((([]:List Stowed)++[(Stowed.mk 3 y58)])++r3.2.2)),(19,E0 r69.1),(20,G0 r69.2),(79,E4 r14.1),(80,Ej r14.1.length),(81,Ej i58)]) (L':=[(1012,.spare 49 4 ((([]:List Stowed)++[(Stowed.mk 3 y58)])++r3.2.2).length ((([]:List Stowed)++[(Stowed.mk 3 y58)])++r3.2.2).length)]) ⟨(by repeat' constructor),⟨⟨_,rfl,.same⟩,G⟩,rfl⟩ ?_
     obtain⟨r71,hr71,h⟩:=Gd h
     obtain⟨v72,hv72,h⟩:=Gd h
     obtain⟨y73,hy73,h⟩:=Gd h
     refine JC_d0 Qd (by kernel_rfl) (Dq (.agg (Gp.cs r3.1)) (Gg H5 O O O) O (Dq (E2 (r3.2.1++[(G9.mk 3 ByteArray.empty j9 false 0 0 v8 0 false)])) (G5 O O) O (Dq (OW 1012 4 Stowed.av ((([]:List Stowed)++[(Stowed.mk 3 y58)])++r3.2.2)) (G5 O O) O (Dq (BL r71) (Gt (args:=[.agg (Gp.cs r3.1),E2 (r3.2.1++[(G9.mk 3 ByteArray.empty j9 false 0 0 v8 0 false)]),E1 ((([]:List Stowed)++[(Stowed.mk 3 y58)])++r3.2.2)]) O (Yp r3.1 (r3.2.1++[(G9.mk 3 ByteArray.empty j9 false 0 0 v8 0 false)]) ((([]:List Stowed)++[(Stowed.mk 3 y58)])++r3.2.2) r71 hr71) G39 ⟨O,O,O,O,O,O,G⟩) O (Dq (BL (!r71)) (Rs (b:=r71) O O) O (Dq (BL (!r71)) (G5 O O) O (Do (G0 r69.2) [] O .scf G (fun hc=>G5 O O) O (Do (BL (decide (r69.2≠0))) [107] O .scf ⟨Ua,G⟩ (fun hc=>Zw O O O) O (Dq (BL ((!r71)||(decide (r69.2≠0)))) (Zj O O O O) O (Dq (BL ((!r71)||(decide (r69.2≠0)))) (G5 O O) O (Do (E0 r69.1) [] O .scf G (fun hc=>G5 O O) O (Do (Ej r69.1.length) [111] O .scf ⟨Ua,G⟩ (fun hc=>Zg (f:=G0) (xs:=r69.1) Gq O O) O (Do (G0 r14.2.1) [] O .scf G (fun hc=>G5 O O) O ?_)))))))))))))
     refine Do (BL (decide ((r69.1.length:Int)≠r14.2.1))) [112,113] O .scf ⟨Ua,Ua,G⟩ (fun hc=>Zw O O O) O (Dq (BL (((!r71)||(decide (r69.2≠0)))||(decide ((r69.1.length:Int)≠r14.2.1)))) (Zj O O O O) O (Dq (BL (((!r71)||(decide (r69.2≠0)))||(decide ((r69.1.length:Int)≠r14.2.1)))) (G5 O O) O (Do (Ej i58) [] O .scf G (fun hc=>G5 O O) O (Do (BL (decide (0 < (i58:Int)))) [117] O .scf ⟨Ua,G⟩ (fun hc=>G35 O O O) O (Do (BL (decide (0 < (i58:Int)))) [118] O .scf ⟨Ua,G⟩ (fun hc=>G5 O O) O (Do (E4 r14.1) [] O .optt G (fun hc=>G5 O O) O (Do (Ej i58) [] O .optt G (fun hc=>G5 O O) O (Do (G0 v72) [121] O .optt ⟨Ua,G⟩ (fun hc=>H3d (Ga7 (H3 hc hv72)) O O O) O (Do (Eh y73) [120,122] O .optt ⟨Ua,Ua,G⟩ (fun hc=>(match Yb (H3 hc hy73) with | ⟨_,hm_,hy_⟩=>Ha (f:=Slot.av) (xs:=r14.1) (y:=y73) O O O J1 hy_ hm_)) O (Do (.agg (Slot.cs y73)) [123] O .optt ⟨Ua,G⟩ (fun hc=>Gg J8 O O O) O (Do (.agg (Slot.cs y58)) [] O .optt G (fun hc=>Gg J8 O O O) O (Do (BL (decide (y73=y58))) [124,125] O .optt ⟨Ua,Ua,G⟩ (fun hc=>Jc1 (vs:=[.int .i64 y73.G4,.int .i64 y73.Tier,.int .u8 y73.Half]) (us:=[.int .i64 y58.G4,.int .i64 y58.Tier,.int .u8 y58.Half]) 4 O (tq_47 y73 y58) Gf1 H68 O O O) O (Dg (.opt (!(((!r71)||(decide (r69.2≠0)))||(decide ((r69.1.length:Int)≠r14.2.1)))) (BL ((decide (0 < (i58:Int)))&&(decide (y73=y58))))) (Hh [(119,BL (decide (0 < (i58:Int)))),(126,_)] O O O .scf ⟨.all id,.part,G⟩ (fun hc=>Qb O O O O) O) O ?_)))))))))))))
     refine Dq (BL ((((!r71)||(decide (r69.2≠0)))||(decide ((r69.1.length:Int)≠r14.2.1)))||((decide (0 < (i58:Int)))&&(decide (y73=y58))))) (Zj O O O O) O (Dnil (hK70 (JCc O h (fun h hb=>?_) (fun h hb=>?_))))
     ·
      refine Jr fun hK74=>(Yt (BL false) O (G7 (hK74 (Gw (fin1 BL h)))))
     ·
      refine Gr (hK61 (G3 (JLh (G0 ((i58+1:Nat):Int)) (Hx (Ho hk58 hm80) O O O) O (Yt (G0 ((i58+1:Nat):Int)) O (G7 (e58 _ _ (i58+1) () (app1 hn58 h) (by omega) ⟨(by repeat' constructor),G,rfl⟩))))))
    ·
     have h:=app1 hkx58 (Hr hi58 (Hc hb))
     refine Ht (hK22 (Js fun hK75=>Jr fun hK76=>(JLh (Ec r3.1) (Gf Jb O O O) O (JLh (E3 r3.1.Columns) (Gj Ju O O O) O (JLl Jg O O O fun hm132=>(Yt (G0 0) O (G7 (hK76 (Gv ?_)))))))))
     obtain⟨b77,kx77,hb77,hkx77,h⟩:=J0 h
     refine Hp (fun i77 (s77:Unit)=>each b77 kx77 (List.drop i77 r3.1.Columns) i77 s77=some r) (fun i77 s77=>[(7,Eg more),(9,Ec r3.1),(10,E2 (r3.2.1++[(G9.mk 3 ByteArray.empty j9 false 0 0 v8 0 false)])),(11,E1 r3.2.2),(13,E4 r14.1),(14,G0 r14.2.1),(132,Ej r3.1.Columns.length),(133,Ej i77)]) (fun i77 s77=>[]) (fun i77=>r3.1.Columns.length - i77) 0 () h ⟨(by repeat' constructor),G,rfl⟩ ?_
     clear h
     intro i77 s77 hi77 K77 e77
     refine Jr fun hK78=>(JLh (BL (decide ((i77:Int) < (r3.1.Columns.length:Int)))) (Ja O O O) O (G7 (hK78 (Js fun hK79=>Gm O (fun hb=>?_) (fun hb=>?_)))))
     ·
      have hk77:=Ji hb
      obtain⟨y77,nx77,hy77,hn77,h⟩:=Hq hi77 hk77
      replace h:=Y8 hb77 h
      refine Gr (hK79 (Js fun hK80=>Gv (Jr fun hK81=>(Yt (Ej i77) O (Yt (Ej i77) O (G7 (hK81 (Jr fun hK82=>(Yt (G0 0) O (G7 (hK82 (Gv ?_))))))))))))
      obtain⟨hx83,h⟩:=J6 h
      obtain⟨b83,kx83,hb83,hkx83,h⟩:=J2f h
      refine Hp (fun i83 (s83:Unit)=>upto b83 kx83 ((5:Int).toNat - i83) i83 s83=some r) (fun i83 s83=>[(7,Eg more),(9,Ec r3.1),(10,E2 (r3.2.1++[(G9.mk 3 ByteArray.empty j9 false 0 0 v8 0 false)])),(11,E1 r3.2.2),(13,E4 r14.1),(14,G0 r14.2.1),(21,Ej i77),(22,Ej i83),(132,Ej r3.1.Columns.length),(133,Ej i77)]) (fun i83 s83=>[]) (fun i83=>(5:Int).toNat - i83) 0 () h ⟨(by repeat' constructor),G,rfl⟩ ?_
      clear h
      intro i83 s83 hi83 K83 e83
      refine Js fun hK84=>Jr fun hK85=>(Yt (Ej i83) O (JLh (BL (decide ((i83:Int) < 5))) (Ja O O O) O (G7 (hK85 (Gm O (fun hb=>?_) (fun hb=>?_))))))
      ·
       have hk83:=Hc7 hb
       obtain⟨nx83,hn83,h⟩:=Hb6 hi83 hk83
       replace h:=app3 hb83 h
       refine Gr (hK84 ?_)
       obtain⟨kj86,hkj86,h⟩:=Ri h
       refine Qo (fun j86:Unit=>kj86 j86=some r) (fun j86=>[(7,Eg more),(9,Ec r3.1),(10,E2 (r3.2.1++[(G9.mk 3 ByteArray.empty j9 false 0 0 v8 0 false)])),(11,E1 r3.2.2),(13,E4 r14.1),(14,G0 r14.2.1),(21,Ej i77),(22,Ej i83),(132,Ej r3.1.Columns.length),(133,Ej i77)]) (fun j86=>[]) (fun Kj86 ej86=>?_) ?_
       ·
        refine Gv (Jr fun hK87=>(Yt (Ej i77) O (Yt (Ej i83) O (JLh (.agg [Ej i77,Ej i83,U8 0]) (Hz (cs:=[Ej i77,Ej i83,U8 0]) [(0,1),(1,1),(2,1)] [G0 0,G0 0,U8 0] [.int .i64 0,.int .i64 0,.int .u8 0] G1a G6a ⟨.inl O,.inl O,.inl O,G⟩ O O) O (JLh (.ptr 1013 0) (Hu 1013 3 Y3 O O) O (Hw (u:=.junk) (Hj (u:=.agg [Ej i77,Ej i83,U8 0]) (ds:=[Ej i77,Ej i83,U8 0]) G37 O O O O O O O O) (G7 (hK87 ?_))))))))
        obtain⟨kj88,hkj88,h⟩:=Ri h
        refine Qo (fun j88:Int=>kj88 j88=some r) (fun j88=>[(7,Eg more),(9,Ec r3.1),(10,E2 (r3.2.1++[(G9.mk 3 ByteArray.empty j9 false 0 0 v8 0 false)])),(11,E1 r3.2.2),(13,E4 r14.1),(14,G0 r14.2.1),(21,Ej i77),(22,Ej i83),(23,.ptr 1013 0),(132,Ej r3.1.Columns.length),(133,Ej i77)]) (fun j88=>[(1013,.box 47 [Ej i77,Ej i83,U8 j88])]) (fun Kj88 ej88=>?_) ?_
        ·
         refine Jr fun hK89=>(JLh (.dptr [BL more.Small,BL more.High]) (Gf H02 O O O) O (JLh (BL more.Small) (Gj Qs O O O) O (G7 (hK89 (JCc O h (fun h hb=>?_) (fun h hb=>?_))))))
         ·
          refine G3 (JLh (.ptr 1013 2) (Qm Ru O O) O (Hw (u:=.junk) (Hj (u:=U8 1) (ds:=[Ej i77,Ej i83,U8 1]) He9 O O O O O O O O) (G7 (ej88 _ _ 1 h ⟨(by repeat' constructor),⟨⟨_,rfl,.boxL rfl ⟨.same rfl,.same rfl,.same rfl,G⟩⟩,G⟩,rfl⟩))))
         ·
          refine Gr (ej88 _ _ 0 h ⟨(by repeat' constructor),⟨⟨_,rfl,.boxL rfl ⟨.same rfl,.same rfl,.same rfl,G⟩⟩,G⟩,rfl⟩)
        ·intro j88 h
         replace h:=app1 hkj88 h
         refine Jr fun hK90=>(JLh (.agg (Gp.cs r3.1)) (Gg H5 O O O) O (Yt (E2 (r3.2.1++[(G9.mk 3 ByteArray.empty j9 false 0 0 v8 0 false)])) O (Yt (E1 r3.2.2) O (JLh (.agg [Ej i77,Ej i83,U8 j88]) (G6e J8 O O O O) O (JLh (.agg [G0 3,Ej i77,Ej i83,U8 j88]) (Hz (cs:=[G0 3,Ej i77,Ej i83,U8 j88]) [(0,1),(1,3)] [G0 0,G0 0,G0 0,U8 0] [.int .i64 0,.int .i64 0,.int .i64 0,.int .u8 0] Zp G17 ⟨.inl O,.inl O,.inl O,.inl O,G⟩ O O) O ?_)))))
         obtain⟨r91,hr91,h⟩:=Gd h
         refine JLh (.tup [E1 r91.1,G0 r91.2]) (He3 (args:=[.agg (Gp.cs r3.1),E2 (r3.2.1++[(G9.mk 3 ByteArray.empty j9 false 0 0 v8 0 false)]),E1 r3.2.2,E0 ([]:List Int),.agg [G0 3,Ej i77,Ej i83,U8 j88]]) O (Hd5 F r3.1 (r3.2.1++[(G9.mk 3 ByteArray.empty j9 false 0 0 v8 0 false)]) r3.2.2 [] (Stowed.mk 3 (Slot.mk (i77:Int) (i83:Int) j88)) r91 hr91) J62 ⟨.inl O,O,.inl O,O,.inl O,O,.inr ⟨_,O,O⟩,O,.inl O,O,G⟩) O (Yt (.tup [E1 r91.1,G0 r91.2]) O (JLh (E1 r91.1) (Gn O O O) O (JLh (G0 r91.2) (Gn O O O) O (Yt (E1 r91.1) O (Yt (G0 r91.2) O (G7 (hK90 ?_)))))))
         refine Gs [(7,Eg more),(9,Ec r3.1),(10,E2 (r3.2.1++[(G9.mk 3 ByteArray.empty j9 false 0 0 v8 0 false)])),(11,E1 r3.2.2),(13,E4 r14.1),(14,G0 r14.2.1),(21,Ej i77),(22,Ej i83),(23,.dptr [Ej i77,Ej i83,U8 j88]),(24,E1 r91.1),(25,G0 r91.2),(132,Ej r3.1.Columns.length),(133,Ej i77)] [] 1013 rfl rfl rfl G rfl (by repeat' (first | exact .ptr | constructor)) (Js fun hK92=>Jr fun hK93=>(Yt (G0 r91.2) O (JLh (BL (decide (r91.2≠0))) (Zw O O O) O (G7 (hK93 (JCc O h (fun h hb=>?_) (fun h hb=>?_)))))))
         ·
          refine Ht (ej86 _ _ () h ⟨(by repeat' constructor),G,rfl⟩)
         ·
          refine Gr (hK92 (Jr fun hK94=>(JLh (.agg (Gp.cs r3.1)) (Gg H5 O O O) O (Yt (E2 (r3.2.1++[(G9.mk 3 ByteArray.empty j9 false 0 0 v8 0 false)])) O (Yt (E1 r91.1) O ?_)))))
          obtain⟨r95,hr95,h⟩:=Gd h
          refine JLh (.tup [E0 r95.1,G0 r95.2]) (Gt O (Q4 F r3.1 (r3.2.1++[(G9.mk 3 ByteArray.empty j9 false 0 0 v8 0 false)]) r91.1 3 r95 hr95) Zd ⟨O,O,O,O,O,O,O,O,G⟩) O (Yt (.tup [E0 r95.1,G0 r95.2]) O (JLh (E0 r95.1) (Gn O O O) O (JLh (G0 r95.2) (Gn O O O) O (Yt (E0 r95.1) O (Yt (G0 r95.2) O (G7 (hK94 (Jr fun hK96=>(Yt (BL false) O (G7 (hK96 (Js fun hK97=>Jr fun hK98=>(Yt (E4 r14.1) O (JLl J1 O O O fun hm165=>(Yt (G0 0) O (G7 (hK98 (Gv ?_))))))))))))))))))
          obtain⟨b109,kx109,hb109,hkx109,h⟩:=J0 h
          refine Hp (fun i109 (s109:Bool)=>each b109 kx109 (List.drop i109 r14.1) i109 s109=some r) (fun i109 s109=>[(7,Eg more),(9,Ec r3.1),(10,E2 (r3.2.1++[(G9.mk 3 ByteArray.empty j9 false 0 0 v8 0 false)])),(11,E1 r3.2.2),(13,E4 r14.1),(14,G0 r14.2.1),(21,Ej i77),(22,Ej i83),(23,.dptr [Ej i77,Ej i83,U8 j88]),(26,E0 r95.1),(27,G0 r95.2),(28,BL s109),(132,Ej r3.1.Columns.length),(133,Ej i77),(164,E4 r14.1),(165,Ej r14.1.length),(166,Ej i109)]) (fun i109 s109=>[]) (fun i109=>r14.1.length - i109) 0 false h ⟨(by repeat' constructor),G,rfl⟩ ?_
          clear h
          intro i109 s109 hi109 K109 e109
          refine Jr fun hK110=>(JLh (BL (decide ((i109:Int) < (r14.1.length:Int)))) (Ja O O O) O (G7 (hK110 (Js fun hK111=>Gm O (fun hb=>?_) (fun hb=>?_)))))
          ·
           have hk109:=Ji hb
           obtain⟨y109,nx109,hy109,hn109,h⟩:=Hq hi109 hk109
           replace h:=Y8 hb109 h
           refine Gr (hK111 (Js fun hK112=>Gv (Jr fun hK113=>(JLh (Eh y109) (Ha (f:=Slot.av) (xs:=r14.1) (y:=y109) O O O J1 hy109 O) O (JLh (.agg (Slot.cs y109)) (Gg J8 O O O) O (JLh (.ptr 1014 0) (Hu 1014 3 Y3 O O) O (Hw (u:=.junk) (Hj (u:=.agg (Slot.cs y109)) (ds:=[G0 y109.G4,G0 y109.Tier,U8 y109.Half]) G37 O O O O O O O O) (G7 (hK113 ?_)))))))))
           refine Gs [(7,Eg more),(9,Ec r3.1),(10,E2 (r3.2.1++[(G9.mk 3 ByteArray.empty j9 false 0 0 v8 0 false)])),(11,E1 r3.2.2),(13,E4 r14.1),(14,G0 r14.2.1),(21,Ej i77),(22,Ej i83),(23,.dptr [Ej i77,Ej i83,U8 j88]),(26,E0 r95.1),(27,G0 r95.2),(28,BL s109),(30,Eh y109),(132,Ej r3.1.Columns.length),(133,Ej i77),(164,E4 r14.1),(165,Ej r14.1.length),(166,Ej i109)] [] 1014 rfl rfl rfl G rfl (by repeat' (first | exact .ptr | constructor)) (G3 ?_)
           refine Yt (BL s109) O (Yt (BL s109) O (JLo (.agg [Ej i77,Ej i83,U8 j88]) [] O .scf G (fun hc=>Gg J8 O O O) O (JLo (.agg (Slot.cs y109)) [] O .scf G (fun hc=>Gg J8 O O O) O (JLo (BL (decide ((Slot.mk (i77:Int) (i83:Int) j88)=y109))) [172,173] O .scf ⟨Ua,Ua,G⟩ (fun hc=>Jc1 (vs:=[.int .i64 (i77:Int),.int .i64 (i83:Int),.int .u8 j88]) (us:=[.int .i64 y109.G4,.int .i64 y109.Tier,.int .u8 y109.Half]) 4 O (tq_47 (Slot.mk (i77:Int) (i83:Int) j88) y109) Gf1 H68 O O O) O (JLh (BL (s109||(decide ((Slot.mk (i77:Int) (i83:Int) j88)=y109)))) (Zj O O O O) O (Yt (BL (s109||(decide ((Slot.mk (i77:Int) (i83:Int) j88)=y109)))) O (G7 (hK112 (G3 ?_)))))))))
           refine JLh (G0 ((i109+1:Nat):Int)) (Hx (Ho hk109 hm165) O O O) O (Yt (G0 ((i109+1:Nat):Int)) O (G7 (e109 _ _ (i109+1) (s109||(decide ((Slot.mk (i77:Int) (i83:Int) j88)=y109))) (app1 hn109 h) (by omega) ⟨(by repeat' constructor),G,rfl⟩)))
          ·
           have h:=app1 hkx109 (Hr hi109 (Hc hb))
           refine Ht (hK97 ?_)
           refine Jr fun hK114=>(Yt (G0 r95.2) O (JLh (BL (decide (r95.2≠0))) (Zw O O O) O (Yt (BL (decide (r95.2≠0))) O (JLo (E0 r95.1) [] O .scf G (fun hc=>G5 O O) O (JLo (Ej r95.1.length) [180] O .scf ⟨Ua,G⟩ (fun hc=>Zg (f:=G0) (xs:=r95.1) Gq O O) O (JLo (G0 r14.2.1) [] O .scf G (fun hc=>G5 O O) O (JLo (BL (decide ((r95.1.length:Int) < r14.2.1))) [181,182] O .scf ⟨Ua,Ua,G⟩ (fun hc=>Ja O O O) O (JLh (BL ((decide (r95.2≠0))||(decide ((r95.1.length:Int) < r14.2.1)))) (Zj O O O O) O (Yt (BL ((decide (r95.2≠0))||(decide ((r95.1.length:Int) < r14.2.1)))) O (JLo (E0 r95.1) [] O .scf G (fun hc=>G5 O O) O (JLo (Ej r95.1.length) [186] O .scf ⟨Ua,G⟩ (fun hc=>Zg (f:=G0) (xs:=r95.1) Gq O O) O (JLo (G0 r14.2.1) [] O .scf G (fun hc=>G5 O O) O (JLo (BL (decide ((r95.1.length:Int)=r14.2.1))) [187,188] O .scf ⟨Ua,Ua,G⟩ (fun hc=>Jy O O O) O ?_)))))))))))))
           refine JLo (BL s109) [] O .scf G (fun hc=>G5 O O) O (JLo (BL (!((decide ((r95.1.length:Int)=r14.2.1))==s109))) [189,190] O .scf ⟨Ua,Ua,G⟩ (fun hc=>He0 G94 O O O) O (JLh (BL (((decide (r95.2≠0))||(decide ((r95.1.length:Int) < r14.2.1)))||(!((decide ((r95.1.length:Int)=r14.2.1))==s109)))) (Zj O O O O) O (G7 (hK114 (JCc O h (fun h hb=>?_) (fun h hb=>?_))))))
           ·
            refine Jr fun hK115=>(Yt (BL false) O (G7 (hK115 (Gw (fin1 BL h)))))
           ·
            refine Gr (ej86 _ _ () h ⟨(by repeat' constructor),G,rfl⟩)
       ·intro j86 h
        replace h:=app1 hkj86 h
        refine G3 (Yt (Ej i83) O (JLh (G0 ((i83+1:Nat):Int)) (Hx (Ho hk83 (H66 hx83)) O O O) O (Yt (G0 ((i83+1:Nat):Int)) O (G7 (e83 _ _ (i83+1) () (app1 hn83 h) (by omega) ⟨(by repeat' constructor),G,rfl⟩)))))
      ·
       have h:=app1 hkx83 (Hb7 hi83 (Gbe hb))
       refine Ht (hK80 (G3 (JLh (G0 ((i77+1:Nat):Int)) (Hx (Ho hk77 hm132) O O O) O (Yt (G0 ((i77+1:Nat):Int)) O (G7 (e77 _ _ (i77+1) () (app1 hn77 h) (by omega) ⟨(by repeat' constructor),G,rfl⟩))))))
     ·
      have h:=app1 hkx77 (Hr hi77 (Hc hb))
      refine Ht (hK75 (Jr fun hK116=>?_))
      obtain⟨r117,hr117,h⟩:=Gd h
      refine JLh (BL r117) (Gt O (Qq F r117 hr117) G92 G) O (Yt (BL r117) O (G7 (hK116 (Gw (fin1 BL h)))))
end
end Go.Proofs.YtpgkkengffpnpaaGreat
