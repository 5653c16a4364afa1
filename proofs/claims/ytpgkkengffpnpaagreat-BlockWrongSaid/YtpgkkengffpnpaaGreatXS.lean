/-
 Models of functions of the program,and that they return what the models say.
-/
import Derived.Test.YtpgkkengffpnpaaGreatXR
set_option linter.unnecessarySimpa false
set_option maxRecDepth 100000
set_option maxHeartbeats 1000000
set_option linter.unusedVariables false
set_option linter.unusedSimpArgs false
namespace Go.Proofs.YtpgkkengffpnpaaGreat
open Go.RowKit
noncomputable section

namespace XSF
open XAF
open XCF
open XGF
open XHF
open XBF
open XPF
open XQF
open XRF

end XSF
open XAF
open XCF
open XGF
open XHF
open XBF
open XPF
open XQF
open XRF
open XSF


theorem G73 (l:List Gy) (covers:Int) (drops:List Gi) (most:Int) (r:Gp×(List G9)×(List Stowed)) (h:Jg l covers drops most=some r):Qx Ek 8 [Eb l,.sc (.int .u32 covers),E9 drops,G0 most] [] (fun av L'=>∃ p:Nat,av=.tup [.agg (Gp.cs r.1),.vec 1063 p 9 r.2.1.length,E1 r.2.2]∧L'=[(1063,.vec 61 9 p (r.2.1.map G9.av))]):=by
 unfold Jg at h
 refine G21 [] [.cell 8 35,.tmp 9,.tmp 10] Tryz.func8 O O (Hcd O) ?_
 refine Jr fun hK1=>(JLh (.ptr 1021 0) (G8f 1021 [E3 ([]:List G4),E8 ([]:List Ga),G0 0,G0 0,G0 0,G0 0,E5 ([]:List Row),E6 ([]:List Frame),E7 ([]:List Gk),G0 0,G0 0,G0 0,G0 0] [.slice none 0 0,.slice none 0 0,.int .i64 0,.int .i64 0,.int .i64 0,.int .i64 0,.slice none 0 0,.slice none 0 0,.slice none 0 0,.int .i64 0,.int .i64 0,.int .i64 0,.int .i64 0] G92 ⟨.inr ⟨_,O,O⟩,.inr ⟨_,O,O⟩,.inl O,.inl O,.inl O,.inl O,.inr ⟨_,O,O⟩,.inr ⟨_,O,O⟩,.inr ⟨_,O,O⟩,.inl O,.inl O,.inl O,.inl O,G⟩ O O) O (JLh (.vec 1022 (([]:List G9).length) 9 (([]:List G9).length)) (Haf 1022 61 9 O O O) O (JLh (E1 ([]:List Stowed)) (Hf 4 O O) O (G7 (hK1 ?_)))))
 refine Jr fun hK2=>(Yv (Eb l) O (Yv (.sc (.int .u32 covers)) O ?_))
 obtain⟨r3,hr3,h⟩:=Gd h
 refine JLh (.agg (Gp.cs r3)) (Gu O (G5f l covers r3 hr3) J65 ⟨O,O,O,O,G⟩) O (JLh (.ptr 1023 0) (Hu 1023 13 G14 O O) O (Hw (u:=.junk) (Hj (u:=.agg (Gp.cs r3)) (ds:=(Gp.cs r3)) Z1 O O O O O O O O) (G7 (hK2 ?_))))
 refine Gt [(2,E9 drops),(3,G0 most),(8,.ptr 1021 0),(11,Ec r3)] [(1021,.box 35 [E3 ([]:List G4),E8 ([]:List Ga),G0 0,G0 0,G0 0,G0 0,E5 ([]:List Row),E6 ([]:List Frame),E7 ([]:List Gk),G0 0,G0 0,G0 0,G0 0]),(1022,.vec 61 9 (([]:List G9).length) (([]:List G9).map G9.av))] 1023 rfl rfl rfl ⟨⟨_,rfl,.boxEq rfl rfl⟩,⟨_,rfl,.vec⟩,G⟩ rfl (by repeat' (first | exact .ptr | constructor)) (Jr fun hK4=>(JLh (.agg (Gp.cs r3)) (Gh H5 O O O) O (Yv (E9 drops) O (Yv (G0 most) O ?_))))
 obtain⟨r5,hr5,h⟩:=Gd h
 refine G68 O O O (He7 (args:=[.agg (Gp.cs r3),E9 drops,G0 most]) (L0:=[]) (u:=fun p=>.tup [.vec 1063 p 9 r5.1.length,E1 r5.2]) (Lr:=fun p=>[(1063,.vec 61 9 p (r5.1.map G9.av))]) O (G55 r3 drops most r5 hr5) J64 ⟨.inl O,O,.inl O,O,.inl O,O,G⟩ G O (fun _=>O)) ?_
 rintro u_ L_ ⟨v6,rfl,rfl⟩
 refine Yv (.tup [.vec 1063 v6 9 r5.1.length,E1 r5.2]) O (JLh (.vec 1063 v6 9 r5.1.length) (Gn O O O) O (JLh (E1 r5.2) (Gn O O O) O (Yv (.vec 1063 v6 9 r5.1.length) O (Yv (E1 r5.2) O (G7 (hK4 (Js fun hK7=>Jr fun hK8=>(Yv (.vec 1063 v6 9 r5.1.length) O (Jdc (f:=G9.av) (xs:=r5.1) Qb O O O (fun hm26=>?_) O O O)))))))))
 refine Yv (G0 0) O (G7 (hK8 (Gw ?_)))
 obtain⟨b41,kx41,hb41,hkx41,h⟩:=J0 h
 refine Hp (fun i41 (s41:(List G9))=>each b41 kx41 (List.drop i41 r5.1) i41 s41=some r) (fun i41 s41=>[(8,.ptr 1021 0),(11,Ec r3),(12,.vec 1063 v6 9 r5.1.length),(13,E1 r5.2),(26,Ej r5.1.length),(27,Ej i41)]) (fun i41 s41=>[(1022,.vec 61 9 (([]:List G9).length) (([]:List G9).map G9.av)),(1063,.vec 61 9 v6 (s41.map G9.av)),(1021,.box 35 [E3 ([]:List G4),E8 ([]:List Ga),G0 0,G0 0,G0 0,G0 0,E5 ([]:List Row),E6 ([]:List Frame),E7 ([]:List Gk),G0 0,G0 0,G0 0,G0 0])]) (fun i41=>r5.1.length - i41) 0 r5.1 h ⟨(by repeat' constructor),⟨⟨_,rfl,.vec⟩,⟨_,rfl,.vec⟩,⟨_,rfl,.boxL rfl (by repeat' constructor)⟩,G⟩,rfl⟩ ?_
 clear h
 intro i41 s41 hi41 K41 e41
 refine Jr fun hK42=>(JLh (BL (decide ((i41:Int) < (r5.1.length:Int)))) (Jb O O O) O (G7 (hK42 (Js fun hK43=>Gm O (fun hb=>?_) (fun hb=>?_)))))
 ·
  have hk41:=Jk hb
  obtain⟨y41,nx41,hy41,hn41,h⟩:=Hq hi41 hk41
  replace h:=Ya hb41 h
  refine Gr (hK43 (Js fun hK44=>Gw (Jr fun hK45=>(Yv (Ej i41) O (Yv (Ej i41) O (G7 (hK45 (G3 (Yv (.vec 1063 v6 9 r5.1.length) O (Yv (Ej i41) O (Yv (.vec 1063 v6 9 r5.1.length) O (Yv (Ej i41) O ?_))))))))))))
  obtain⟨y46,hmy46,hy46,h⟩:=H76 h
  refine JLh (.vptr 1063 v6 ((i41:Int).toNat) 0) (J3d (f:=G9.av) (xs:=s41) (y:=y46) O O O O Qb hy46 hmy46) O (JLh (.vptr 1063 v6 ((i41:Int).toNat) 4) (He0 H83 O O O) O (JLh (G0 y46.Kilos) (Je0 (f:=G9.av) (xs:=s41) (y:=y46) Gb O O O hy46 O O) O ?_))
  obtain⟨v47,hv47,h⟩:=Gd h
  refine JLh (G0 v47) (A_quo (H6e hv47).1 (H6e hv47).2 O O O) O ?_
  obtain⟨v48,hv48,h⟩:=Gd h
  refine JLh (G0 v48) (Jab (Yw hv48).1 (Yw hv48).2 O O O) O ?_
  obtain⟨v49,hv49,h⟩:=Jp h
  refine JLh (G0 v49) (Hx hv49 O O O) O ?_
  obtain⟨y50,hmy50,hy50,h⟩:=H76 h
  refine JLh (.vptr 1063 v6 ((i41:Int).toNat) 0) (J3d (f:=G9.av) (xs:=s41) (y:=y50) O O O O Qb hy50 hmy50) O (JLh (.vptr 1063 v6 ((i41:Int).toNat) 6) (He0 Ga1 O O O) O (Hw (u:=.junk) (Jba (f:=G9.av) (xs:=s41) (e:=y50) (z:=(G9.mk y50.ID y50.Number y50.Size y50.High y50.Kilos y50.Load v49 y50.Class y50.Reefer)) (u:=G0 v49) G48 O O O O hy50 O O O O O) (G7 (hK44 (G3 (JLh (G0 ((i41+1:Nat):Int)) (Hx (Ho hk41 hm26) O O O) O (Yv (G0 ((i41+1:Nat):Int)) O (G7 (e41 _ _ (i41+1) (s41.set (i41:Int).toNat (G9.mk y50.ID y50.Number y50.Size y50.High y50.Kilos y50.Load v49 y50.Class y50.Reefer)) (app1 hn41 h) (by omega) ⟨(by repeat' constructor),⟨⟨_,rfl,.vec⟩,⟨_,rfl,.vec⟩,⟨_,rfl,.boxL rfl (by repeat' constructor)⟩,G⟩,rfl⟩)))))))))
 ·
  have h:=app1 hkx41 (Hr hi41 (Hc hb))
  refine Ht (hK7 (Jr fun hK51=>(JLh (.agg (Gp.cs r3)) (Gh H5 O O O) O (Yv (.vec 1063 v6 9 r5.1.length) O (Yv (E1 r5.2) O (Hw (u:=.junk) (Hj (u:=.agg (Gp.cs r3)) (ds:=(Gp.cs r3)) Z1 O O O O O O O O) (Yv (.vec 1063 v6 9 r5.1.length) O (Yv (E1 r5.2) O (G7 (hK51 (H7c 9 O O (fun hn_=>Gx ?_))))))))))))
  obtain rfl:=Option.some.inj h
  exact⟨[.agg (Gp.cs r3),.vec 1063 v6 9 r5.1.length,E1 r5.2],[(1063,.vec 61 9 v6 (s41.map G9.av))],⟨⟨_,O,.vec⟩,G⟩,O,⟨⟨_,⟨_,_,_,_,O,O,O,.inl ⟨H5,O⟩⟩,.conv (.same O)⟩,⟨_,O,.conv (.same O)⟩,⟨_,O,.conv (.same O)⟩,G⟩,v6,congrArg (fun n_:Nat=>(.tup [.agg (Gp.cs r3),.vec 1063 v6 9 n_,E1 r5.2]:AV)) (hn_.trans (List.length_map _)),O⟩

end
end Go.Proofs.YtpgkkengffpnpaaGreat
