/-
 Models of functions of the program,and that they return what the models say.
-/
import Derived.Test.YteoeccjboahfgaaGreatXBa
set_option maxRecDepth 100000
set_option linter.unusedVariables false
set_option linter.unusedSimpArgs false
namespace Go.Proofs.YteoeccjboahfgaaGreat
open Go.RowKit
noncomputable section
open XAF
open XVF
open XBF

def G46 (F:Nat) (s:Hc) (boxes:List Gr):Option ((List (List Ga))×Int×Int):=
 bnd (Y5 s boxes) fun r4=>
 bif (!r4) then
 (some ([],0,2))
 else
 (bnd (Jo boxes) fun r8=>
  loop (fun nx10 (s10:(List (List Ga))×Int×(List G2))=>
   need (decide (20≤9223372036854775807)) <|
   upto (fun i24 (s24:(List (List G2))) nx24=>
    bnd (G14 F s10.2.2 (i24:Int)) fun r29=>
    need (decide ((s24.length+[r29].length)*24≤140737488355328∧s24.length+[r29].length≤maxLen)) <|
    nx24 (s24++[r29]))
   (fun(s24:(List (List G2)))=>
    bnd (R0 s24 (fun z0=>Zt F z0 s)) fun r32=>
    bif decide (r32.2=0) then
    (some (s10.1,s10.2.1,0))
    else
    (each (fun y63 i63 (s63:(List Ga)) nx63=>
      need (decide ((s63.length+[y63.Ga].length)*16≤140737488355328∧s63.length+[y63.Ga].length≤maxLen)) <|
      nx63 (s63++[y63.Ga]))
     (fun(s63:(List Ga))=>
      need (decide ((s10.1.length+[s63].length)*24≤140737488355328∧s10.1.length+[s63].length≤maxLen)) <|
      Rn (s10.2.1+r32.2) fun v71=>
      bnd (Q0 F s10.2.2 (fun z0=>G1e z0 s63)) fun r72=>
      nx10 ((s10.1++[s63]),v71,r72)) r32.1 0 [])) (20:Int).toNat 0 []) F ([],0,r8))
theorem H71 (F:Nat) (s:Hc) (boxes:List Gr) (r:(List (List Ga))×Int×Int) (h:G46 F s boxes=some r):Pure Tryz.prog 7 [.agg (Hc.cs s),E2 boxes] (·=.tup [LS 1 (E3) r.1,G1 r.2.1,G1 r.2.2]):=by
 unfold G46 at h
 refine H4 [.tmp 4,.tmp 5,.tmp 6] Tryz.func7 O O (G5 fun K1 hK1=>G3 (JLh (.ptr 1020 0) (Jw (u:=.agg (Hc.cs s)) (cs:=(Hc.cs s)) 1020 O O O O O) O (JLh (LS 1 (E3) ([]:List (List Ga))) (Q4 1 O O) O (JLh (G1 0) (Gb O O) O (JLh (G1 0) (Gb O O) O (G8 (hK1 _ _ ?_)))))))
 refine Gq [(1,E2 boxes),(2,Ee s)] [] 1020 rfl rfl rfl G rfl (by exact⟨.conv (.same rfl),.ptr,G⟩) (G5 (fun K2 hK2=>G5 fun K3 hK3=>G3 (JLh (.agg (Hc.cs s)) (Gh J5 O O O) O (JLh (E2 boxes) (G6 O O) O ?_))))
 obtain⟨r4,hr4,h⟩:=Gf h
 refine JLh (BL r4) (Gy (args:=[.agg (Hc.cs s),E2 boxes]) O (Gc1 s boxes r4 hr4) Had ⟨O,O,O,O,G⟩) O (JLh (BL (!r4)) (Zy (b:=r4) O O) O (G8 (hK3 _ _ (Gn O (fun hb=>?_) (fun hb=>?_)))))
 ·
  replace h:=H1 hb h
  refine G5 fun K5 hK5=>G3 (JLh (LS 1 (E3) ([]:List (List Ga))) (Q4 1 O O) O (JLh (G1 0) (Gb O O) O (JLh (G1 2) (Gb O O) O (G8 (hK5 _ _ (Gx (⟨[LS 1 (E3) ([]:List (List Ga)),G1 0,G1 2],[],G,O,⟨⟨_,O,.conv (.same O)⟩,⟨_,O,.conv (.same O)⟩,⟨_,O,.conv (.same O)⟩,G⟩,O,congrArg (fun r:(List (List Ga))×Int×Int=>(.tup [LS 1 (E3) r.1,G1 r.2.1,G1 r.2.2]:AV)) (Option.some.inj h)⟩)))))))
 ·
  replace h:=Hv hb h
  refine Gp (hK2 _ _ (G5 fun K6 hK6=>G3 (JLh (OW 1021 1 (E3) ([]:List (List Ga))) (Zv 1021 82 1 O O O) O (G8 (hK6 _ _ (G5 fun K7 hK7=>G3 (JLh (E2 boxes) (G6 O O) O ?_)))))))
  obtain⟨r8,hr8,h⟩:=Gf h
  refine H0c O O O (Ja9 (args:=[E2 boxes]) (L0:=[]) (u:=fun p=>.vec 1061 p 4 r8.length) (Lr:=fun p=>[(1061,.vec 86 4 p (r8.map G2.av))]) O (J04.down boxes r8 hr8) Gd9 ⟨.inl O,O,G⟩ G O (fun _=>O)) ?_
  rintro u_ L_ ⟨v9,rfl,rfl⟩
  refine JLh (G1 0) (Gb O O) O (JLh (.vec 1061 v9 4 r8.length) (Gb O O) O (G8 (hK7 _ _ (Gi ?_))))
  obtain⟨b10,hb10,h⟩:=G26 h
  refine Ha (fun i10 (q10:((List (List Ga))×Int×(List G2))×Nat)=>(fun(s10:(List (List Ga))×Int×(List G2))=>loop b10 i10 s10=some r) q10.1) (fun i10 q10=>(fun(s10:(List (List Ga))×Int×(List G2)) (gv10:Nat)=>[(2,Ee s),(7,OW 1021 1 (E3) s10.1),(8,G1 s10.2.1),(9,.vec 1061 gv10 4 s10.2.2.length)]) q10.1 q10.2) (fun i10 q10=>(fun(s10:(List (List Ga))×Int×(List G2)) (gv10:Nat)=>[(1021,.spare 82 1 s10.1.length s10.1.length),(1061,.vec 86 4 gv10 (s10.2.2.map G2.av))]) q10.1 q10.2) (fun i10=>i10) F (([],0,r8),v9) h ⟨(by repeat' constructor),⟨⟨_,rfl,.same⟩,⟨_,rfl,.vec⟩,G⟩,rfl⟩ ?_
  clear h
  rintro i10 ⟨s10,gv10⟩ hi10 K10 e10
  replace hi10:loop b10 i10 s10=some r:=hi10
  change JC _ _ _ _ [(2,Ee s),(7,OW 1021 1 (E3) s10.1),(8,G1 s10.2.1),(9,.vec 1061 gv10 4 s10.2.2.length)] [(1021,.spare 82 1 s10.1.length s10.1.length),(1061,.vec 86 4 gv10 (s10.2.2.map G2.av))]
  obtain⟨m10,nx10,hm_10,hn10,h⟩:=Zn hi10
  replace h:=Hbc hb10 h
  refine Gi (G5 fun K11 hK11=>G3 (JLh (OW 1022 1 (E4) ([]:List (List G2))) (Zv 1022 74 1 O O O) O (G8 (hK11 _ _ (G5 (fun K12 hK12=>G5 fun K13 hK13=>G3 (JLh (G1 0) (G6 O O) O (G8 (hK13 _ _ (Gi ?_))))))))))
  obtain⟨hx24,h⟩:=Hz h
  obtain⟨b24,kx24,hb24,hkx24,h⟩:=H2d h
  refine Ha (fun i24 (s24:(List (List G2)))=>upto b24 kx24 ((20:Int).toNat - i24) i24 s24=some r) (fun i24 s24=>[(2,Ee s),(7,OW 1021 1 (E3) s10.1),(8,G1 s10.2.1),(9,.vec 1061 gv10 4 s10.2.2.length),(10,OW 1022 1 (E4) s24),(23,Ek i24)]) (fun i24 s24=>[(1021,.spare 82 1 s10.1.length s10.1.length),(1061,.vec 86 4 gv10 (s10.2.2.map G2.av)),(1022,.spare 74 1 s24.length s24.length)]) (fun i24=>(20:Int).toNat - i24) 0 [] h ⟨(by repeat' constructor),⟨⟨_,rfl,.same⟩,⟨_,rfl,.vec⟩,⟨_,rfl,.same⟩,G⟩,rfl⟩ ?_
  clear h
  intro i24 s24 hi24 K24 e24
  refine G5 fun K25 hK25=>G3 (JLh (BL (decide ((i24:Int) < 20))) (J2 O O O) O (G8 (hK25 _ _ (G5 (fun K26 hK26=>Gn O (fun hb=>?_) (fun hb=>?_))))))
  ·
   have hk24:=Ge0 hb
   obtain⟨nx24,hn24,h⟩:=Gd3 hi24 hk24
   replace h:=J8a hb24 h
   refine Gp (hK26 _ _ (G5 (fun K27 hK27=>Gi (G5 fun K28 hK28=>G3 (JLh (Ek i24) (G6 O O) O (JLh (Ek i24) (Gb O O) O (G8 (hK28 _ _ (G3 (JLh (OW 1022 1 (E4) s24) (G6 O O) O (JLh (.vec 1061 gv10 4 s10.2.2.length) (G6 O O) O (JLh (Ek i24) (G6 O O) O ?_))))))))))))
   obtain⟨r29,hr29,h⟩:=Gf h
   refine JLh (E4 r29) (H4d (args:=[.vec 1061 gv10 4 s10.2.2.length,Ek i24]) (L0:=[(1061,.vec 86 4 gv10 (s10.2.2.map G2.av))]) (Lr:=[(1061,.vec 86 4 gv10 (s10.2.2.map G2.av))]) O (H1a F s10.2.2 gv10 (i24:Int) r29 hr29) Q17 ⟨.inl O,O,.inl O,O,G⟩ ⟨O,G⟩ O O O) O (JLh (LS 1 (E4) [r29]) (Hf (xs:=[E4 r29]) O ⟨O,O,G⟩ Gf7 Jc5 O O O O) O ?_)
   obtain⟨ha30,h⟩:=Hz h
   refine JLh (OW 1022 1 (E4) (s24++[r29])) (Q5 (f:=(E4)) (xs:=s24) (ys:=[r29]) O O O O Gf7 Je3 ha30 (fun _=>O) (.inl O) O) O (JLh (OW 1022 1 (E4) (s24++[r29])) (Gb O O) O (G8 (hK27 _ _ (G3 (JLh (G1 ((i24+1:Nat):Int)) (Ht (Hn hk24 (G92 hx24)) O O O) O (JLh (G1 ((i24+1:Nat):Int)) (G6 O O) O (G8 (e24 _ _ (i24+1) (s24++[r29]) (app1 hn24 h) (by omega) ⟨(by repeat' constructor),⟨⟨_,rfl,.same⟩,⟨_,rfl,.vec⟩,⟨_,rfl,.same⟩,G⟩,rfl⟩))))))))
  ·
   have h:=app1 hkx24 (Gd4 hi24 (G24 hb))
   refine Hi (hK12 _ _ (G5 fun K31 hK31=>G3 (JLh (OW 1022 1 (E4) s24) (G6 O O) O (JLh (.fn 18 [.dptr (Hc.cs s)]) (R9 (cs:=[.dptr (Hc.cs s)]) O O) O ?_))))
   obtain⟨r32,hr32,h⟩:=Gf h
   refine JLh (.tup [E4 r32.1,G1 r32.2]) (Gy (args:=[LS 1 (E4) s24,.fn 18 [.dptr (Hc.cs s)]]) O (Gb5 s24 (fun z0=>Zt F z0 s) 18 [.dptr (Hc.cs s)] Q15 O (fun z0 q hq=>J0e F z0 s q hq) r32 hr32) Q16 ⟨O,O,O,O,G⟩) O (JLh (.tup [E4 r32.1,G1 r32.2]) (G6 O O) O (JLh (E4 r32.1) (H0 O O O) O (JLh (G1 r32.2) (H0 O O O) O (JLh (E4 r32.1) (Gb O O) O (JLh (G1 r32.2) (Gb O O) O (G8 (hK31 _ _ ?_)))))))
   refine G5 (fun K33 hK33=>G5 fun K34 hK34=>G3 (JLh (G1 r32.2) (G6 O O) O (JLh (BL (decide (r32.2=0))) (Qh O O O) O (G8 (hK34 _ _ (Gn O (fun hb=>?_) (fun hb=>?_)))))))
   ·
    replace h:=H1 hb h
    refine G5 fun K35 hK35=>G3 (JLh (OW 1021 1 (E3) s10.1) (G6 O O) O (JLh (G1 s10.2.1) (G6 O O) O (JLh (OW 1021 1 (E3) s10.1) (Gb O O) O (JLh (G1 s10.2.1) (Gb O O) O (JLh (G1 0) (Gb O O) O (G8 (hK35 _ _ (Gx (⟨[LS 1 (E3) s10.1,G1 s10.2.1,G1 0],[],G,O,⟨⟨_,O,.conv (.list O)⟩,⟨_,O,.conv (.same O)⟩,⟨_,O,.conv (.same O)⟩,G⟩,O,congrArg (fun r:(List (List Ga))×Int×Int=>(.tup [LS 1 (E3) r.1,G1 r.2.1,G1 r.2.2]:AV)) (Option.some.inj h)⟩)))))))))
   ·
    replace h:=Hv hb h
    refine Gp (hK33 _ _ (G5 fun K36 hK36=>G3 (JLh (.ptr 1023 0) (G0b 1023 [.sc (.slice none 0 0)] [.slice none 0 0] Jde ⟨.inl O,G⟩ O O) O (G6d 1023 0 1025 84 2 O O O (cs':=[OW 1025 2 Ga.av ([]:List Ga)]) O (G8 (hK36 _ _ (G5 (fun K37 hK37=>G5 fun K38 hK38=>G3 (JLh (E4 r32.1) (G6 O O) O (Hp (f:=G2.av) (xs:=r32.1) H7 O O (fun hm44=>?_) O O O))))))))))
    refine JLh (G1 0) (G6 O O) O (G8 (hK38 _ _ (Gi ?_)))
    obtain⟨b63,kx63,hb63,hkx63,h⟩:=Hy h
    refine Ha (fun i63 (s63:(List Ga))=>each b63 kx63 (List.drop i63 r32.1) i63 s63=some r) (fun i63 s63=>[(2,Ee s),(7,OW 1021 1 (E3) s10.1),(8,G1 s10.2.1),(9,.vec 1061 gv10 4 s10.2.2.length),(13,G1 r32.2),(14,.ptr 1023 0),(43,E4 r32.1),(44,Ek r32.1.length),(45,Ek i63)]) (fun i63 s63=>[(1021,.spare 82 1 s10.1.length s10.1.length),(1061,.vec 86 4 gv10 (s10.2.2.map G2.av)),(1025,.spare 84 2 s63.length s63.length),(1023,.box 82 [OW 1025 2 Ga.av s63])]) (fun i63=>r32.1.length - i63) 0 [] h ⟨(by repeat' constructor),⟨⟨_,rfl,.same⟩,⟨_,rfl,.vec⟩,⟨_,rfl,.same⟩,⟨_,rfl,.boxL rfl ⟨.same rfl,G⟩⟩,G⟩,rfl⟩ ?_
    clear h
    intro i63 s63 hi63 K63 e63
    refine G5 fun K64 hK64=>G3 (JLh (BL (decide ((i63:Int) < (r32.1.length:Int)))) (J2 O O O) O (G8 (hK64 _ _ (G5 (fun K65 hK65=>Gn O (fun hb=>?_) (fun hb=>?_))))))
    ·
     have hk63:=Jd hb
     obtain⟨y63,nx63,hy63,hn63,h⟩:=Hr hi63 hk63
     replace h:=Rq hb63 h
     refine Gp (hK65 _ _ (G5 (fun K66 hK66=>Gi (G5 fun K67 hK67=>G3 (JLh (Eg y63) (Gz (f:=G2.av) (xs:=r32.1) (y:=y63) O O O H7 hy63 O) O (JLh (.agg (G2.cs y63)) (Gh Qn O O O) O (JLh (.ptr 1024 0) (Hh 1024 4 Qi O O) O (Hg (u:=.junk) (H5 (u:=.agg (G2.cs y63)) (ds:=[G1 y63.Ga.Load,G1 y63.Ga.Discharge,G1 y63.Whole,G1 y63.Half]) Zm O O O O O O O O) (G8 (hK67 _ _ ?_))))))))))
     refine Gq [(2,Ee s),(7,OW 1021 1 (E3) s10.1),(8,G1 s10.2.1),(9,.vec 1061 gv10 4 s10.2.2.length),(13,G1 r32.2),(14,.ptr 1023 0),(16,Eg y63),(43,E4 r32.1),(44,Ek r32.1.length),(45,Ek i63)] [(1021,.spare 82 1 s10.1.length s10.1.length),(1061,.vec 86 4 gv10 (s10.2.2.map G2.av)),(1025,.spare 84 2 s63.length s63.length),(1023,.box 82 [OW 1025 2 Ga.av s63])] 1024 rfl rfl rfl ⟨⟨_,rfl,.same⟩,⟨_,rfl,.vec⟩,⟨_,rfl,.same⟩,⟨_,rfl,.boxEq rfl rfl⟩,G⟩ rfl (by repeat' (first | exact .ptr | constructor)) ?_
     refine G3 (JLh (OW 1025 2 Ga.av s63) (Jv G23 O O O O) O (JLh (Eg y63) (Gd Ja O O O) O (JLh (.agg [G1 y63.Ga.Load,G1 y63.Ga.Discharge]) (Gh Jc O O O) O (JLh (E3 [y63.Ga]) (Hf (xs:=[.agg [G1 y63.Ga.Load,G1 y63.Ga.Discharge]]) O ⟨O,O,G⟩ J4 Ys O O O O) O ?_))))
     obtain⟨ha68,h⟩:=Hz h
     refine JLh (OW 1025 2 Ga.av (s63++[y63.Ga])) (Q5 (f:=Ga.av) (xs:=s63) (ys:=[y63.Ga]) O O O O J4 J56 ha68 (fun _=>O) (.inl O) O) O (Hg (u:=.junk) (H5 (u:=OW 1025 2 Ga.av (s63++[y63.Ga])) (ds:=[OW 1025 2 Ga.av (s63++[y63.Ga])]) J4f O O O O O O O O) (G8 (hK66 _ _ (G3 (JLh (G1 ((i63+1:Nat):Int)) (Ht (Hn hk63 hm44) O O O) O (JLh (G1 ((i63+1:Nat):Int)) (G6 O O) O (G8 (e63 _ _ (i63+1) (s63++[y63.Ga]) (app1 hn63 h) (by omega) ⟨(by repeat' constructor),⟨⟨_,rfl,.same⟩,⟨_,rfl,.vec⟩,⟨_,rfl,.same⟩,⟨_,rfl,.boxL rfl ⟨.same rfl,G⟩⟩,G⟩,rfl⟩))))))))
    ·
     have h:=app1 hkx63 (Hs hi63 (H9 hb))
     refine Hi (hK37 _ _ (G5 fun K69 hK69=>G3 (JLh (OW 1021 1 (E3) s10.1) (G6 O O) O (JLh (OW 1025 2 Ga.av s63) (Jv G23 O O O O) O (JLh (LS 1 (E3) [s63]) (Hf (xs:=[E3 s63]) O ⟨O,O,G⟩ Qj H55 O O O O) O ?_)))))
     obtain⟨ha70,h⟩:=Hz h
     refine JLh (OW 1021 1 (E3) (s10.1++[s63])) (Q5 (f:=(E3)) (xs:=s10.1) (ys:=[s63]) O O O O Qj J57 ha70 (fun _=>O) (.inl O) O) O (JLh (G1 s10.2.1) (G6 O O) O (JLh (G1 r32.2) (G6 O O) O ?_))
     obtain⟨v71,hv71,h⟩:=Hb h
     refine JLh (G1 v71) (Ht hv71 O O O) O (JLh (OW 1021 1 (E3) (s10.1++[s63])) (Gb O O) O (JLh (G1 v71) (Gb O O) O (G8 (hK69 _ _ ?_))))
     refine Re (l':=[(2,Ee s),(7,OW 1021 1 (E3) (s10.1++[s63])),(8,G1 v71),(9,.vec 1061 gv10 4 s10.2.2.length),(14,.ptr 1023 0)]) (L':=[(1021,.spare 82 1 (s10.1++[s63]).length (s10.1++[s63]).length),(1061,.vec 86 4 gv10 (s10.2.2.map G2.av)),(1023,.box 82 [E3 s63])]) ⟨(by repeat' constructor),⟨⟨_,rfl,.same⟩,⟨_,rfl,.vec⟩,⟨_,rfl,.boxL rfl ⟨.list rfl,G⟩⟩,G⟩,rfl⟩ ?_
     refine Gq [(2,Ee s),(7,OW 1021 1 (E3) (s10.1++[s63])),(8,G1 v71),(9,.vec 1061 gv10 4 s10.2.2.length),(14,.dptr [E3 s63])] [(1021,.spare 82 1 (s10.1++[s63]).length (s10.1++[s63]).length),(1061,.vec 86 4 gv10 (s10.2.2.map G2.av))] 1023 rfl rfl rfl ⟨⟨_,rfl,.same⟩,⟨_,rfl,.vec⟩,G⟩ rfl (by repeat' (first | exact .ptr | constructor)) (G3 (JLh (.vec 1061 gv10 4 s10.2.2.length) (G6 O O) O (JLh (.fn 21 [.dptr [E3 s63]]) (R9 (cs:=[.dptr [E3 s63]]) O O) O ?_)))
     obtain⟨r72,hr72,h⟩:=Gf h
     refine H0c O O O (Ja9 (args:=[.vec 1061 gv10 4 s10.2.2.length,.fn 21 [.dptr [E3 s63]]]) (L0:=[(1061,.vec 86 4 gv10 (s10.2.2.map G2.av))]) (u:=fun p=>.vec 1061 p 4 r72.length) (Lr:=fun p=>[(1061,.vec 86 4 p (r72.map G2.av))]) O (G2d F s10.2.2 gv10 (fun z0=>G1e z0 s63) 21 [.dptr [E3 s63]] Q13 O (fun z0 q hq=>J0d z0 s63 q hq) r72 hr72) Q14 ⟨.inl O,O,.inl O,O,G⟩ ⟨O,G⟩ O (fun _=>O)) ?_
     rintro u_ L_ ⟨v73,rfl,rfl⟩
     refine JLh (.vec 1061 v73 4 r72.length) (Gb O O) O (G8 (e10 _ _ m10 (((s10.1++[s63]),v71,r72),v73) (app1 hn10 h) (by omega) ⟨(by repeat' constructor),⟨⟨_,rfl,.same⟩,⟨_,rfl,.vec⟩,G⟩,rfl⟩))

def G1d (c:G2) (p1:Ga):Option Bool:=
 some (decide (c.Ga=p1))
theorem Hc0 (c:G2) (p1:Ga) (r:Bool) (h:G1d c p1=some r):Pure Tryz.prog 53 [.agg (G2.cs c),.dptr [G1 p1.Load,G1 p1.Discharge]] (·=BL r):=by
 unfold G1d at h
 refine H4 [.tmp 3] Tryz.func53 O O (G5 fun K1 hK1=>G3 (JLh (.ptr 1141 0) (Jw (u:=.agg (G2.cs c)) (cs:=[G1 c.Ga.Load,G1 c.Ga.Discharge,G1 c.Whole,G1 c.Half]) 1141 O O O O O) O (JLh (BL false) (Gb O O) O (G8 (hK1 _ _ (Gq [(1,.dptr [G1 p1.Load,G1 p1.Discharge]),(2,Eg c)] [] 1141 rfl rfl rfl G rfl (by exact⟨.conv (.same rfl),.ptr,G⟩) ?_))))))
 refine G5 fun K2 hK2=>G3 (JLh (Eg c) (Gd Ja O O O) O (JLh (.agg [G1 c.Ga.Load,G1 c.Ga.Discharge]) (Gh Jc O O O) O (JLh (.agg [G1 p1.Load,G1 p1.Discharge]) (Gh Jc O O O) O (JLh (BL (decide (c.Ga=p1))) (Jc2 (vs:=[.int .i64 c.Ga.Load,.int .i64 c.Ga.Discharge]) (us:=[.int .i64 p1.Load,.int .i64 p1.Discharge]) 4 O (tq_84 c.Ga p1) H59 Hf2 O O O) O (JLh (BL (decide (c.Ga=p1))) (Gb O O) O (G8 (hK2 _ _ (Gx (⟨[BL (decide (c.Ga=p1))],[],G,O,⟨⟨_,O,.conv (.same O)⟩,G⟩,O,congrArg (fun r:Bool=>(BL r:AV)) (Option.some.inj h)⟩)))))))))

def Zi (a:Ga) (b:Ga):Option Bool:=
 some (((decide (a.Load < b.Load))&&(decide (b.Load < a.Discharge)))&&(decide (a.Discharge < b.Discharge)))
theorem G62 (a:Ga) (b:Ga) (r:Bool) (h:Zi a b=some r):Pure Tryz.prog 24 [.agg [G1 a.Load,G1 a.Discharge],.agg [G1 b.Load,G1 b.Discharge]] (·=BL r):=by
 unfold Zi at h
 refine H4 [.tmp 4] Tryz.func24 O O (G5 fun K1 hK1=>G3 (JLh (.ptr 1081 0) (Jw (u:=.agg [G1 a.Load,G1 a.Discharge]) (cs:=[G1 a.Load,G1 a.Discharge]) 1081 O O O O O) O (JLh (.ptr 1082 0) (Jw (u:=.agg [G1 b.Load,G1 b.Discharge]) (cs:=[G1 b.Load,G1 b.Discharge]) 1082 O O O O O) O (JLh (BL false) (Gb O O) O (G8 (hK1 _ _ (Gq [(2,.dptr [G1 a.Load,G1 a.Discharge]),(3,.ptr 1082 0)] [(1082,.box 84 [G1 b.Load,G1 b.Discharge])] 1081 rfl rfl rfl ⟨⟨_,rfl,.boxEq rfl rfl⟩,G⟩ rfl (by exact⟨.ptr,.conv (.same rfl),G⟩) (Gq [(2,.dptr [G1 a.Load,G1 a.Discharge]),(3,.dptr [G1 b.Load,G1 b.Discharge])] [] 1082 rfl rfl rfl G rfl (by exact⟨.conv (.same rfl),.ptr,G⟩) ?_))))))))
 refine G5 fun K2 hK2=>G3 (JLh (.dptr [G1 a.Load,G1 a.Discharge]) (Gd Rk O O O) O (JLh (G1 a.Load) (Gk Gc O O O) O (JLh (.dptr [G1 b.Load,G1 b.Discharge]) (Gd Rk O O O) O (JLh (G1 b.Load) (Gk Gc O O O) O (JLh (BL (decide (a.Load < b.Load))) (J2 O O O) O (JLh (BL (decide (a.Load < b.Load))) (G6 O O) O (Gg (u:=.dptr [G1 b.Load,G1 b.Discharge]) [] O O O .sct G (fun hc=>Gd Rk O O O) ?_)))))))
 refine Gg (u:=G1 b.Load) [(11,.dptr [G1 b.Load,G1 b.Discharge])] O O O .sct ⟨.all id,G⟩ (fun hc=>Gk Gc O O O) ?_
 refine Gg (u:=.dptr [G1 a.Discharge]) [] O O O .sct G (fun hc=>Gd Rj O O O) ?_
 refine Gg (u:=G1 a.Discharge) [(13,.dptr [G1 a.Discharge])] O O O .sct ⟨.all id,G⟩ (fun hc=>Gk Gc O O O) ?_
 refine Gg (u:=BL (decide (b.Load < a.Discharge))) [(12,G1 b.Load),(14,G1 a.Discharge)] O O O .sct ⟨.all id,.all id,G⟩ (fun hc=>J2 O O O) ?_
 refine JLh (BL ((decide (a.Load < b.Load))&&(decide (b.Load < a.Discharge)))) (Qc O O O O) O (JLh (BL ((decide (a.Load < b.Load))&&(decide (b.Load < a.Discharge)))) (G6 O O) O (Gg (u:=.dptr [G1 a.Discharge]) [] O O O .sct G (fun hc=>Gd Rj O O O) ?_))
 refine Gg (u:=G1 a.Discharge) [(18,.dptr [G1 a.Discharge])] O O O .sct ⟨.all id,G⟩ (fun hc=>Gk Gc O O O) ?_
 refine Gg (u:=.dptr [G1 b.Discharge]) [] O O O .sct G (fun hc=>Gd Rj O O O) ?_
 refine Gg (u:=G1 b.Discharge) [(20,.dptr [G1 b.Discharge])] O O O .sct ⟨.all id,G⟩ (fun hc=>Gk Gc O O O) ?_
 refine Gg (u:=BL (decide (a.Discharge < b.Discharge))) [(19,G1 a.Discharge),(21,G1 b.Discharge)] O O O .sct ⟨.all id,.all id,G⟩ (fun hc=>J2 O O O) ?_
 refine JLh (BL (((decide (a.Load < b.Load))&&(decide (b.Load < a.Discharge)))&&(decide (a.Discharge < b.Discharge)))) (Qc O O O O) O (JLh (BL (((decide (a.Load < b.Load))&&(decide (b.Load < a.Discharge)))&&(decide (a.Discharge < b.Discharge)))) (Gb O O) O (G8 (hK2 _ _ (Gx (⟨[BL (((decide (a.Load < b.Load))&&(decide (b.Load < a.Discharge)))&&(decide (a.Discharge < b.Discharge)))],[],G,O,⟨⟨_,O,.conv (.same O)⟩,G⟩,O,congrArg (fun r:Bool=>(BL r:AV)) (Option.some.inj h)⟩)))))

def Yp (h_:Ga) (p1:Ga):Option Bool:=
 bnd (Zi p1 h_) fun r3=>
 some (!r3)
theorem Hbf (h_:Ga) (p1:Ga) (r:Bool) (h:Yp h_ p1=some r):Pure Tryz.prog 55 [.agg [G1 h_.Load,G1 h_.Discharge],.dptr [G1 p1.Load,G1 p1.Discharge]] (·=BL r):=by
 unfold Yp at h
 refine H4 [.tmp 3] Tryz.func55 O O (G5 fun K1 hK1=>G3 (JLh (.ptr 1142 0) (Jw (u:=.agg [G1 h_.Load,G1 h_.Discharge]) (cs:=[G1 h_.Load,G1 h_.Discharge]) 1142 O O O O O) O (JLh (BL false) (Gb O O) O (G8 (hK1 _ _ (Gq [(1,.dptr [G1 p1.Load,G1 p1.Discharge]),(2,.dptr [G1 h_.Load,G1 h_.Discharge])] [] 1142 rfl rfl rfl G rfl (by exact⟨.conv (.same rfl),.ptr,G⟩) (G5 fun K2 hK2=>G3 (JLh (.agg [G1 p1.Load,G1 p1.Discharge]) (Gh Jc O O O) O (JLh (.agg [G1 h_.Load,G1 h_.Discharge]) (Gh Jc O O O) O ?_)))))))))
 obtain⟨r3,hr3,h⟩:=Gf h
 refine JLh (BL r3) (Gy (args:=[.agg [G1 p1.Load,G1 p1.Discharge],.agg [G1 h_.Load,G1 h_.Discharge]]) O (G62 p1 h_ r3 hr3) H36 ⟨O,O,O,O,G⟩) O (JLh (BL (!r3)) (Zy (b:=r3) O O) O (JLh (BL (!r3)) (Gb O O) O (G8 (hK2 _ _ (Gx (⟨[BL (!r3)],[],G,O,⟨⟨_,O,.conv (.same O)⟩,G⟩,O,congrArg (fun r:Bool=>(BL r:AV)) (Option.some.inj h)⟩))))))

def Y2 (s:List Ga) (f:Ga→Option Bool):Option Int:=
 each (fun y20 i20 (s20:Unit) nx20=>
  bnd (f y20) fun r26=>
  bif r26 then
  (some (i20:Int))
  else
  (nx20 ()))
 (fun(s20:Unit)=>
  some (-1)) s 0 ()
theorem Gb2 (s:List Ga) (f:Ga→Option Bool) (f_f:FuncId) (f_c:List AV) (f_B:Ho Tryz.prog f_f=true) (f_d:Rs (fun _=>false) f_c=true) (f_w:∀ a0 q,f a0=some q→Pure Tryz.prog f_f ([.agg [G1 a0.Load,G1 a0.Discharge]]++f_c) (·=BL q)) (r:Int) (h:Y2 s f=some r):Pure Tryz.prog 82 [E3 s,.fn f_f f_c] (·=G1 r):=by
 unfold Y2 at h
 refine H4 [.tmp 4] Tryz.func82 O O (G5 fun K1 hK1=>G3 (JLh (G1 0) (Gb O O) O (G8 (hK1 _ _ (G5 (fun K2 hK2=>G5 fun K3 hK3=>G3 (JLh (E3 s) (G6 O O) O (Hp (f:=Ga.av) (xs:=s) J4 O O (fun hm7=>?_) O O O))))))))
 refine JLh (G1 0) (G6 O O) O (G8 (hK3 _ _ (Gi ?_)))
 obtain⟨b20,kx20,hb20,hkx20,h⟩:=Hy h
 refine Ha (fun i20 (s20:Unit)=>each b20 kx20 (List.drop i20 s) i20 s20=some r) (fun i20 s20=>[(0,E3 s),(1,.fn f_f f_c),(7,Ek s.length),(8,Ek i20)]) (fun i20 s20=>[]) (fun i20=>s.length - i20) 0 () h ⟨⟨.same O,.same (Hx _ _ f_d),.same O,.same O,G⟩,G,O⟩ ?_
 clear h
 intro i20 s20 hi20 K20 e20
 refine G5 fun K21 hK21=>G3 (JLh (BL (decide ((i20:Int) < (s.length:Int)))) (J2 O O O) O (G8 (hK21 _ _ (G5 (fun K22 hK22=>Gn O (fun hb=>?_) (fun hb=>?_))))))
 ·
  have hk20:=Jd hb
  obtain⟨y20,nx20,hy20,hn20,h⟩:=Hr hi20 hk20
  replace h:=Rq hb20 h
  refine Gp (hK22 _ _ (G5 (fun K23 hK23=>Gi (G5 fun K24 hK24=>G3 (JLh (Ek i20) (G6 O O) O (JLh (Ek i20) (Gb O O) O (G8 (hK24 _ _ (G5 fun K25 hK25=>G3 (JLh (.fn f_f f_c) (G6 O O) O (JLh (E3 s) (G6 O O) O (JLh (Ek i20) (G6 O O) O (JLh (.dptr [G1 y20.Load,G1 y20.Discharge]) (Gz (f:=Ga.av) (xs:=s) (y:=y20) O O O J4 hy20 O) O (JLh (.agg [G1 y20.Load,G1 y20.Discharge]) (Gh Jc O O O) O ?_))))))))))))))
  obtain⟨r26,hr26,h⟩:=Gf h
  refine JLh (BL r26) (Yy (args:=[.agg [G1 y20.Load,G1 y20.Discharge]]) (caps:=f_c) O O (f_w y20 _ hr26) f_B ⟨O,O,G⟩ f_d) O (G8 (hK25 _ _ (Gn O (fun hb=>?_) (fun hb=>?_))))
  ·
   replace h:=H1 hb h
   refine G5 fun K27 hK27=>G3 (JLh (Ek i20) (G6 O O) O (JLh (Ek i20) (Gb O O) O (G8 (hK27 _ _ (Gx (⟨[Ek i20],[],G,O,⟨⟨_,O,.conv (.same O)⟩,G⟩,O,congrArg (fun r:Int=>(G1 r:AV)) (Option.some.inj h)⟩))))))
  ·
   replace h:=Hv hb h
   refine Gp (hK23 _ _ (G3 (JLh (G1 ((i20+1:Nat):Int)) (Ht (Hn hk20 hm7) O O O) O (JLh (G1 ((i20+1:Nat):Int)) (G6 O O) O (G8 (e20 _ _ (i20+1) () (app1 hn20 h) (by omega) ⟨⟨.same rfl,.same (Hx _ _ f_d),.same rfl,.same rfl,G⟩,G,rfl⟩))))))
 ·
  have h:=app1 hkx20 (Hs hi20 (H9 hb))
  refine Hi (hK2 _ _ (G5 fun K28 hK28=>G3 (JLh (G1 (-1)) (Gb O O) O (G8 (hK28 _ _ (Gx (⟨[G1 (-1)],[],G,O,⟨⟨_,O,.conv (.same O)⟩,G⟩,O,congrArg (fun r:Int=>(G1 r:AV)) (Option.some.inj h)⟩)))))))

def Qf (s:List Ga) (f:Ga→Option Bool):Option Bool:=
 bnd (Y2 s f) fun r3=>
 some (decide (0≤r3))
theorem G88 (s:List Ga) (f:Ga→Option Bool) (f_f:FuncId) (f_c:List AV) (f_B:Ho Tryz.prog f_f=true) (f_d:Rs (fun _=>false) f_c=true) (f_w:∀ a0 q,f a0=some q→Pure Tryz.prog f_f ([.agg [G1 a0.Load,G1 a0.Discharge]]++f_c) (·=BL q)) (r:Bool) (h:Qf s f=some r):Pure Tryz.prog 54 [E3 s,.fn f_f f_c] (·=BL r):=by
 unfold Qf at h
 refine H4 [.tmp 4] Tryz.func54 O O (G5 fun K1 hK1=>G3 (JLh (BL false) (Gb O O) O (G8 (hK1 _ _ (G5 fun K2 hK2=>G3 (JLh (E3 s) (G6 O O) O (JLh (.fn f_f f_c) (G6 O O) O ?_)))))))
 obtain⟨r3,hr3,h⟩:=Gf h
 refine JLh (G1 r3) (Gy (args:=[E3 s,.fn f_f f_c]) O (Gb2 s f f_f f_c f_B f_d f_w r3 hr3) Jed ⟨O,O,O,f_d,G⟩) O (JLh (BL (decide (0≤r3))) (G4b O O O) O (JLh (BL (decide (0≤r3))) (Gb O O) O (G8 (hK2 _ _ (Gx (⟨[BL (decide (0≤r3))],[],G,O,⟨⟨_,O,.conv (.same O)⟩,G⟩,O,congrArg (fun r:Bool=>(BL r:AV)) (Option.some.inj h)⟩))))))

def Zs (counts:List G2) (l:List Ga):Option ((List G2)×Int):=
 each (fun y47 i47 (s47:(List G2)) nx47=>
  bnd (Q3 counts (fun z0=>G1d z0 y47)) fun r53=>
  bnd (bif (!(decide (r53 < 0))) then Rn ((i47:Int)+1) some else some 0) fun v56=>
  bnd (bif (!(decide (r53 < 0))) then Ga8 v56 l.length else some 0) fun m57=>
  bnd (bif (!(decide (r53 < 0))) then Qf (l.drop m57) (fun z0=>Yp z0 y47) else some default) fun r58=>
  bif ((decide (r53 < 0))||r58) then
  (some ([],270))
  else
  (Rm counts r53 fun y60=>
   need (decide ((s47.length+[y60].length)*32≤140737488355328∧s47.length+[y60].length≤maxLen)) <|
   nx47 (s47++[y60])))
 (fun(s47:(List G2))=>
  some (s47,0)) l 0 []
theorem H27 (counts:List G2) (l:List Ga) (r:(List G2)×Int) (h:Zs counts l=some r):Pure Tryz.prog 23 [E4 counts,E3 l] (·=.tup [E4 r.1,G1 r.2]):=by
 unfold Zs at h
 refine H4 [.tmp 4,.tmp 5] Tryz.func23 O O (G5 fun K1 hK1=>G3 (JLh (E4 ([]:List G2)) (Q4 4 O O) O (JLh (G1 0) (Gb O O) O (G8 (hK1 _ _ (G5 fun K2 hK2=>G3 (JLh (OW 1079 4 G2.av ([]:List G2)) (Zv 1079 86 4 O O O) O (G8 (hK2 _ _ (G5 (fun K3 hK3=>G5 fun K4 hK4=>G3 (JLh (E3 l) (G6 O O) O (Hp (f:=Ga.av) (xs:=l) J4 O O (fun hm11=>?_) O O O)))))))))))))
 refine JLh (G1 0) (G6 O O) O (G8 (hK4 _ _ (Gi ?_)))
 obtain⟨b47,kx47,hb47,hkx47,h⟩:=Hy h
 refine Ha (fun i47 (s47:(List G2))=>each b47 kx47 (List.drop i47 l) i47 s47=some r) (fun i47 s47=>[(0,E4 counts),(1,E3 l),(6,OW 1079 4 G2.av s47),(10,E3 l),(11,Ek l.length),(12,Ek i47)]) (fun i47 s47=>[(1079,.spare 86 4 s47.length s47.length)]) (fun i47=>l.length - i47) 0 [] h ⟨(by repeat' constructor),⟨⟨_,rfl,.same⟩,G⟩,rfl⟩ ?_
 clear h
 intro i47 s47 hi47 K47 e47
 refine G5 fun K48 hK48=>G3 (JLh (BL (decide ((i47:Int) < (l.length:Int)))) (J2 O O O) O (G8 (hK48 _ _ (G5 (fun K49 hK49=>Gn O (fun hb=>?_) (fun hb=>?_))))))
 ·
  have hk47:=Jd hb
  obtain⟨y47,nx47,hy47,hn47,h⟩:=Hr hi47 hk47
  replace h:=Rq hb47 h
  refine Gp (hK49 _ _ (G5 (fun K50 hK50=>Gi (G5 fun K51 hK51=>G3 (JLh (Ek i47) (G6 O O) O (JLh (.dptr [G1 y47.Load,G1 y47.Discharge]) (Gz (f:=Ga.av) (xs:=l) (y:=y47) O O O J4 hy47 O) O (JLh (.agg [G1 y47.Load,G1 y47.Discharge]) (Gh Jc O O O) O (JLh (.ptr 1080 0) (Hh 1080 2 Ys O O) O (JLh (Ek i47) (Gb O O) O (Hg (u:=.junk) (H5 (u:=.agg [G1 y47.Load,G1 y47.Discharge]) (ds:=[G1 y47.Load,G1 y47.Discharge]) G64 O O O O O O O O) (G8 (hK51 _ _ ?_))))))))))))
  refine Gq [(0,E4 counts),(1,E3 l),(6,OW 1079 4 G2.av s47),(7,Ek i47),(8,.dptr [G1 y47.Load,G1 y47.Discharge]),(10,E3 l),(11,Ek l.length),(12,Ek i47)] [(1079,.spare 86 4 s47.length s47.length)] 1080 rfl rfl rfl ⟨⟨_,rfl,.same⟩,G⟩ rfl (by repeat' (first | exact .ptr | constructor)) (G5 fun K52 hK52=>G3 (JLh (E4 counts) (G6 O O) O (JLh (.fn 53 [.dptr [G1 y47.Load,G1 y47.Discharge]]) (R9 (cs:=[.dptr [G1 y47.Load,G1 y47.Discharge]]) O O) O ?_)))
  obtain⟨r53,hr53,h⟩:=Gf h
  refine JLh (G1 r53) (Gy (args:=[E4 counts,.fn 53 [.dptr [G1 y47.Load,G1 y47.Discharge]]]) O (G17 counts (fun z0=>G1d z0 y47) 53 [.dptr [G1 y47.Load,G1 y47.Discharge]] Q01 O (fun z0 q hq=>Hc0 z0 y47 q hq) r53 hr53) J65 ⟨O,O,O,O,G⟩) O (JLh (G1 r53) (Gb O O) O (G8 (hK52 _ _ (G5 (fun K54 hK54=>G5 fun K55 hK55=>G3 (JLh (G1 r53) (G6 O O) O (JLh (BL (decide (r53 < 0))) (J2 O O O) O (JLh (BL (decide (r53 < 0))) (G6 O O) O (Gg (u:=E3 l) [] O O O .scf G (fun hc=>G6 O O) ?_)))))))))
  refine Gg (u:=Ek i47) [] O O O .scf G (fun hc=>G6 O O) ?_
  obtain⟨v56,hv56,h⟩:=Gf h
  refine Gg (u:=G1 v56) [(24,Ek i47)] O O O .scf ⟨.all id,G⟩ (fun hc=>Ht (H68 (H1 hc hv56)) O O O) ?_
  obtain⟨m57,hm57,h⟩:=Gf h
  refine Gg (u:=E3 (l.drop m57)) [(23,E3 l),(25,G1 v56)] O O O .scf ⟨.all id,.all id,G⟩ (fun hc=>Q22 (f:=Ga.av) (xs:=l) O O O J4 (Yo (H1 hc hm57))) ?_
  refine Gg (u:=.fn 55 [.dptr [G1 y47.Load,G1 y47.Discharge]]) [] O O O .scf G (fun hc=>R9 (cs:=[.dptr [G1 y47.Load,G1 y47.Discharge]]) O O) ?_
  obtain⟨r58,hr58,h⟩:=Gf h
  refine Gg (u:=BL r58) [(26,E3 (l.drop m57)),(27,.fn 55 [.dptr [G1 y47.Load,G1 y47.Discharge]])] O O O .scf ⟨.all id,.all id,G⟩ (fun hc=>Gy (args:=[E3 (l.drop m57),.fn 55 [.dptr [G1 y47.Load,G1 y47.Discharge]]]) O (G88 (l.drop m57) (fun z0=>Yp z0 y47) 55 [.dptr [G1 y47.Load,G1 y47.Discharge]] Jff O (fun z0 q hq=>Hbf z0 y47 q hq) r58 (H1 hc hr58)) Q00 ⟨O,O,O,O,G⟩) ?_
  refine JLh (BL ((decide (r53 < 0))||r58)) (G2a O O O O) O (G8 (hK55 _ _ (Gn O (fun hb=>?_) (fun hb=>?_))))
  ·
   replace h:=H1 hb h
   refine G5 fun K59 hK59=>G3 (JLh (E4 ([]:List G2)) (Q4 4 O O) O (JLh (G1 270) (Gb O O) O (G8 (hK59 _ _ (Gx (⟨[E4 ([]:List G2),G1 270],[],G,O,⟨⟨_,O,.conv (.same O)⟩,⟨_,O,.conv (.same O)⟩,G⟩,O,congrArg (fun r:(List G2)×Int=>(.tup [E4 r.1,G1 r.2]:AV)) (Option.some.inj h)⟩))))))
  ·
   replace h:=Hv hb h
   refine Gp (hK54 _ _ (G3 (JLh (OW 1079 4 G2.av s47) (G6 O O) O (JLh (E4 counts) (G6 O O) O (JLh (G1 r53) (G6 O O) O ?_)))))
   obtain⟨m61,y60,hm61,hy60,h⟩:=Qk h
   refine JLh (Eg y60) (Gz (f:=G2.av) (xs:=counts) (y:=y60) O O O H7 hy60 hm61) O (JLh (.agg (G2.cs y60)) (Gh Qn O O O) O (JLh (E4 [y60]) (Hf (xs:=[.agg (G2.cs y60)]) O ⟨O,O,G⟩ H7 Qi O O O O) O ?_))
   obtain⟨ha62,h⟩:=Hz h
   refine JLh (OW 1079 4 G2.av (s47++[y60])) (Q5 (f:=G2.av) (xs:=s47) (ys:=[y60]) O O O O H7 G66 ha62 (fun _=>O) (.inl O) O) O (JLh (OW 1079 4 G2.av (s47++[y60])) (Gb O O) O (G8 (hK50 _ _ (G3 (JLh (G1 ((i47+1:Nat):Int)) (Ht (Hn hk47 hm11) O O O) O (JLh (G1 ((i47+1:Nat):Int)) (G6 O O) O (G8 (e47 _ _ (i47+1) (s47++[y60]) (app1 hn47 h) (by omega) ⟨(by repeat' constructor),⟨⟨_,rfl,.same⟩,G⟩,rfl⟩))))))))
 ·
  have h:=app1 hkx47 (Hs hi47 (H9 hb))
  refine Hi (hK3 _ _ (G5 fun K63 hK63=>G3 (JLh (OW 1079 4 G2.av s47) (G6 O O) O (JLh (OW 1079 4 G2.av s47) (Gb O O) O (JLh (G1 0) (Gb O O) O (G8 (hK63 _ _ (Gx (⟨[E4 s47,G1 0],[],G,O,⟨⟨_,O,.conv (.list O)⟩,⟨_,O,.conv (.same O)⟩,G⟩,O,congrArg (fun r:(List G2)×Int=>(.tup [E4 r.1,G1 r.2]:AV)) (Option.some.inj h)⟩)))))))))

def G5b (F:Nat) (s:Hc) (boxes:List Gr) (families:List (List Ga)) (Rp:(Int×Int)→Prop):Option Prop:=
 bnd (Y5 s boxes) fun r4=>
 bif (!r4) then
 (some (Rp (0,2)))
 else
 (bnd (Jo boxes) fun r7=>
  each (fun y11 i11 (s11:Int×(Gu Ga Int)) nx11=>
   bnd (Zs r7 y11) fun r17=>
   bif decide (r17.2≠0) then
   (some (Rp (0,r17.2)))
   else
   (bnd (Qw F s r17.1) fun r22=>
    Rn (s11.1+r22) fun v23=>
    each (fun y53 i53 (s53:(Gu Ga Int)) nx53=>
     bnd (some (Gu.get s53 y53 0)) fun v58=>
     Rn (v58+1) fun v59=>
     nx53 (Gu.put s53 y53 v59))
    (fun(s53:(Gu Ga Int))=>
     nx11 (v23,s53)) y11 0 s11.2))
  (fun(s11:Int×(Gu Ga Int))=>
   J84 (fun(x67:Ga×Int) (s67:Unit) nx67=>
    bif decide (1 < x67.2) then
    (lft (some (Rp (0,271))))
    else
    (nx67 ()))
   (fun(s67:Unit)=>
    some (Rp (s11.1,0))) (Gu.l s11.2) ()) families 0 (0,(Gu.empty:Gu Ga Int)))
def G5c (F:Nat) (s:Hc) (boxes:List Gr) (families:List (List Ga)):Option (Int×Int):=
 bnd (Y5 s boxes) fun r4=>
 bif (!r4) then
 (some (id (0,2)))
 else
 (bnd (Jo boxes) fun r7=>
  each (fun y11 i11 (s11:Int×(Gu Ga Int)) nx11=>
   bnd (Zs r7 y11) fun r17=>
   bif decide (r17.2≠0) then
   (some (id (0,r17.2)))
   else
   (bnd (Qw F s r17.1) fun r22=>
    Rn (s11.1+r22) fun v23=>
    each (fun y53 i53 (s53:(Gu Ga Int)) nx53=>
     bnd (some (Gu.get s53 y53 0)) fun v58=>
     Rn (v58+1) fun v59=>
     nx53 (Gu.put s53 y53 v59))
    (fun(s53:(Gu Ga Int))=>
     nx11 (v23,s53)) y11 0 s11.2))
  (fun(s11:Int×(Gu Ga Int))=>
   Hb3 (fun(x67:Ga×Int) (s67:Unit) nx67=>
    bif decide (1 < x67.2) then
    (lft (some (id (0,271))))
    else
    (nx67 ()))
   (fun(s67:Unit)=>
    some (id (s11.1,0))) (Gu.l s11.2) ()) families 0 (0,(Gu.empty:Gu Ga Int)))
theorem J3c (F:Nat) (s:Hc) (boxes:List Gr) (families:List (List Ga)) (Rp:(Int×Int)→Prop) (p:Prop) (h:G5b F s boxes families Rp=some p) (hp:p):Pure Tryz.prog 8 [.agg (Hc.cs s),E2 boxes,LS 1 (E3) families] (fun av=>∃ r,Rp r∧av=.tup [G1 r.1,G1 r.2]):=by
 unfold G5b at h
 refine H4 [.tmp 6,.tmp 7] Tryz.func8 O O (G5 fun K1 hK1=>G3 (JLh (.ptr 1026 0) (Jw (u:=.agg (Hc.cs s)) (cs:=(Hc.cs s)) 1026 O O O O O) O (JLh (G1 0) (Gb O O) O (JLh (G1 0) (Gb O O) O (G8 (hK1 _ _ ?_))))))
 refine Gq [(1,E2 boxes),(2,LS 1 (E3) families),(3,Ee s)] [] 1026 rfl rfl rfl G rfl (by exact⟨.conv (.same rfl),.conv (.same rfl),.ptr,G⟩) (G5 (fun K2 hK2=>G5 fun K3 hK3=>G3 (JLh (.agg (Hc.cs s)) (Gh J5 O O O) O (JLh (E2 boxes) (G6 O O) O ?_))))
 obtain⟨r4,hr4,h⟩:=Gf h
 refine JLh (BL r4) (Gy (args:=[.agg (Hc.cs s),E2 boxes]) O (Gc1 s boxes r4 hr4) Had ⟨O,O,O,O,G⟩) O (JLh (BL (!r4)) (Zy (b:=r4) O O) O (G8 (hK3 _ _ (Gn O (fun hb=>?_) (fun hb=>?_)))))
 ·
  replace h:=H1 hb h
  refine G5 fun K5 hK5=>G3 (JLh (G1 0) (Gb O O) O (JLh (G1 2) (Gb O O) O (G8 (hK5 _ _ (Gx (⟨[G1 0,G1 2],[],G,O,⟨⟨_,O,.conv (.same O)⟩,⟨_,O,.conv (.same O)⟩,G⟩,O,(0,2),Eq.mpr (Option.some.inj h) hp,O⟩))))))
 ·
  replace h:=Hv hb h
  refine Gp (hK2 _ _ (G5 fun K6 hK6=>G3 (JLh (E2 boxes) (G6 O O) O ?_)))
  obtain⟨r7,hr7,h⟩:=Gf h
  refine JLh (E4 r7) (Gy (args:=[E2 boxes]) O (G44.down boxes r7 hr7) Gd9 ⟨O,O,G⟩) O (JLh (G1 0) (Gb O O) O (JLh (E4 r7) (Gb O O) O (G8 (hK6 _ _ (G5 fun K8 hK8=>G3 (JLh (.mp 1028) (G2b 1028 Ga.kv G1 O O) O (JLh (.mp 1028) (Gb O O) O (G8 (hK8 _ _ (G5 (fun K9 hK9=>G5 fun K10 hK10=>G3 (JLh (LS 1 (E3) families) (G6 O O) O (Hp (f:=(E3)) (xs:=families) Qj O O (fun hm27=>?_) O O O)))))))))))))
  refine JLh (G1 0) (G6 O O) O (G8 (hK10 _ _ (Gi ?_)))
  obtain⟨b11,kx11,hb11,hkx11,h⟩:=Hy h
  refine Ha (fun i11 (s11:Int×(Gu Ga Int))=>each b11 kx11 (List.drop i11 families) i11 s11=some p) (fun i11 s11=>[(3,Ee s),(8,G1 s11.1),(9,E4 r7),(10,.mp 1028),(26,LS 1 (E3) families),(27,Ek families.length),(28,Ek i11)]) (fun i11 s11=>[(1028,MP 90 Ga.kv G1 s11.2)]) (fun i11=>families.length - i11) 0 (0,(Gu.empty:Gu Ga Int)) h ⟨(by repeat' constructor),⟨⟨_,rfl,.map⟩,G⟩,rfl⟩ ?_
  clear h
  intro i11 s11 hi11 K11 e11
  refine G5 fun K12 hK12=>G3 (JLh (BL (decide ((i11:Int) < (families.length:Int)))) (J2 O O O) O (G8 (hK12 _ _ (G5 (fun K13 hK13=>Gn O (fun hb=>?_) (fun hb=>?_))))))
  ·
   have hk11:=Jd hb
   obtain⟨y11,nx11,hy11,hn11,h⟩:=Hr hi11 hk11
   replace h:=Rq hb11 h
   refine Gp (hK13 _ _ (G5 (fun K14 hK14=>Gi (G5 fun K15 hK15=>G3 (JLh (.dptr [E3 y11]) (Gz (f:=(E3)) (xs:=families) (y:=y11) O O O Qj hy11 O) O (JLh (E3 y11) (Gk G23 O O O) O (JLh (E3 y11) (Gb O O) O (G8 (hK15 _ _ (G5 fun K16 hK16=>G3 (JLh (E4 r7) (G6 O O) O (JLh (E3 y11) (G6 O O) O ?_))))))))))))
   obtain⟨r17,hr17,h⟩:=Gf h
   refine JLh (.tup [E4 r17.1,G1 r17.2]) (Gy (args:=[E4 r7,E3 y11]) O (H27 r7 y11 r17 hr17) J6b ⟨O,O,O,O,G⟩) O (JLh (.tup [E4 r17.1,G1 r17.2]) (G6 O O) O (JLh (E4 r17.1) (H0 O O O) O (JLh (G1 r17.2) (H0 O O O) O (JLh (E4 r17.1) (Gb O O) O (JLh (G1 r17.2) (Gb O O) O (G8 (hK16 _ _ (G5 (fun K18 hK18=>G5 fun K19 hK19=>G3 (JLh (G1 r17.2) (G6 O O) O (JLh (BL (decide (r17.2≠0))) (H78 O O O) O (G8 (hK19 _ _ (Gn O (fun hb=>?_) (fun hb=>?_)))))))))))))))
   ·
    replace h:=H1 hb h
    refine G5 fun K20 hK20=>G3 (JLh (G1 r17.2) (G6 O O) O (JLh (G1 0) (Gb O O) O (JLh (G1 r17.2) (Gb O O) O (G8 (hK20 _ _ (Gx (⟨[G1 0,G1 r17.2],[],G,O,⟨⟨_,O,.conv (.same O)⟩,⟨_,O,.conv (.same O)⟩,G⟩,O,(0,r17.2),Eq.mpr (Option.some.inj h) hp,O⟩)))))))
   ·
    replace h:=Hv hb h
    refine Gp (hK18 _ _ (G5 fun K21 hK21=>G3 (JLh (G1 s11.1) (G6 O O) O (JLh (.agg (Hc.cs s)) (Gh J5 O O O) O (JLh (E4 r17.1) (G6 O O) O ?_)))))
    obtain⟨r22,hr22,h⟩:=Gf h
    refine JLh (G1 r22) (Gy (args:=[.agg (Hc.cs s),E4 r17.1]) O (Gc2 F s r17.1 r22 hr22) Hac ⟨O,O,O,O,G⟩) O ?_
    obtain⟨v23,hv23,h⟩:=Hb h
    refine JLh (G1 v23) (Ht hv23 O O O) O (JLh (G1 v23) (Gb O O) O (G8 (hK21 _ _ (G5 fun K24 hK24=>G3 (JLh (E3 y11) (G6 O O) O (Hp (f:=Ga.av) (xs:=y11) J4 O O (fun hm47=>?_) O O O))))))
    refine JLh (G1 0) (G6 O O) O (G8 (hK24 _ _ (Gi ?_)))
    obtain⟨b53,kx53,hb53,hkx53,h⟩:=Hy h
    refine Ha (fun i53 (s53:(Gu Ga Int))=>each b53 kx53 (List.drop i53 y11) i53 s53=some p) (fun i53 s53=>[(3,Ee s),(8,G1 v23),(9,E4 r7),(10,.mp 1028),(26,LS 1 (E3) families),(27,Ek families.length),(28,Ek i11),(46,E3 y11),(47,Ek y11.length),(48,Ek i53)]) (fun i53 s53=>[(1028,MP 90 Ga.kv G1 s53)]) (fun i53=>y11.length - i53) 0 s11.2 h ⟨(by repeat' constructor),⟨⟨_,rfl,.map⟩,G⟩,rfl⟩ ?_
    clear h
    intro i53 s53 hi53 K53 e53
    refine G5 fun K54 hK54=>G3 (JLh (BL (decide ((i53:Int) < (y11.length:Int)))) (J2 O O O) O (G8 (hK54 _ _ (G5 (fun K55 hK55=>Gn O (fun hb=>?_) (fun hb=>?_))))))
    ·
     have hk53:=Jd hb
     obtain⟨y53,nx53,hy53,hn53,h⟩:=Hr hi53 hk53
     replace h:=Rq hb53 h
     refine Gp (hK55 _ _ (G5 (fun K56 hK56=>Gi (G5 fun K57 hK57=>G3 (JLh (.dptr [G1 y53.Load,G1 y53.Discharge]) (Gz (f:=Ga.av) (xs:=y11) (y:=y53) O O O J4 hy53 O) O (JLh (.agg [G1 y53.Load,G1 y53.Discharge]) (Gh Jc O O O) O (JLh (.ptr 1027 0) (Hh 1027 2 Ys O O) O (Hg (u:=.junk) (H5 (u:=.agg [G1 y53.Load,G1 y53.Discharge]) (ds:=[G1 y53.Load,G1 y53.Discharge]) G64 O O O O O O O O) (G8 (hK57 _ _ ?_))))))))))
     refine Gq [(3,Ee s),(8,G1 v23),(9,E4 r7),(10,.mp 1028),(16,.dptr [G1 y53.Load,G1 y53.Discharge]),(26,LS 1 (E3) families),(27,Ek families.length),(28,Ek i11),(46,E3 y11),(47,Ek y11.length),(48,Ek i53)] [(1028,MP 90 Ga.kv G1 s53)] 1027 rfl rfl rfl ⟨⟨_,rfl,.map⟩,G⟩ rfl (by repeat' (first | exact .ptr | constructor)) ?_
     refine Re (l':=[(3,Ee s),(8,G1 v23),(9,E4 r7),(10,.mp 1028),(16,.dptr [G1 y53.Load,G1 y53.Discharge]),(26,LS 1 (E3) families),(27,Ek families.length),(28,Ek i11),(46,E3 y11),(47,Ek y11.length),(48,Ek i53)]) (L':=[(1028,MP 90 Ga.kv G1 s53)]) ⟨(by repeat' constructor),⟨⟨_,rfl,.map⟩,G⟩,rfl⟩ ?_
     obtain⟨v58,hv58,h⟩:=Gf h
     obtain⟨v59,hv59,h⟩:=Hb h
     refine Qt [4,6] [0,0,0,0,0,1,0] [0,0,1,1,0,1,0] [[(1028,MP 90 Ga.kv G1 s53)],((1028,MI 90 Ga.kv G1 s53 y53 0)::[(1028,MP 90 Ga.kv G1 s53)]),((1028,MP 90 Ga.kv G1 (Gu.put s53 y53 v59))::((1028,MI 90 Ga.kv G1 s53 y53 0)::[(1028,MP 90 Ga.kv G1 s53)]))] Jr (by kernel_rfl) rfl rfl ?_
     refine Gm (u:=.mp 1028) O O ⟨Gs (G6 O O) O,G⟩ (Gm (u:=.agg [G1 y53.Load,G1 y53.Discharge]) O O ⟨Gs (Gh Jc O O O) O,G⟩ (Gm (u:=G1 v58) O O ⟨Gs (((Option.some.inj hv58) ▸ G9d (av:=G1) (m:=s53) (a:=y53) 0 (.int .i64 0) O O O O J4b H7d G9f O)) O,Gs (((Option.some.inj hv58) ▸ Hc5 (av:=G1) (m:=s53) (a:=y53) 0 (.int .i64 0) O O O O J4b H7d G9f O)) O,G⟩ (Gm (u:=G1 v59) O O ⟨Gs (Ht hv59 O O O) O,Gs (Ht hv59 O O O) O,G⟩ (D_w (u:=.tup [.junk,G1 (Zx (Gu.l s53) y53:Int)]) O O O O (Gs (H79 (m:=s53) (a:=y53) 0 (.int .i64 0) O O O O J4b H7d G9f O) O) (Gm (u:=G1 (Zx (Gu.l s53) y53:Int)) O O ⟨Gs (H0 O O O) O,G⟩ (J3e (u:=.junk) O O O O (Gs (H1c (m:=s53) (a:=y53) (v:=v59) 0 O O O O O O) O) (Zu ?_)))))))
     refine hK56 _ _ (G3 (JLh (G1 ((i53+1:Nat):Int)) (Ht (Hn hk53 hm47) O O O) O (JLh (G1 ((i53+1:Nat):Int)) (G6 O O) O (G8 (e53 _ _ (i53+1) (Gu.put s53 y53 v59) (app1 hn53 h) (by omega) ⟨(by repeat' constructor),⟨⟨_,rfl,.map⟩,G⟩,rfl⟩)))))
    ·
     have h:=app1 hkx53 (Hs hi53 (H9 hb))
     refine Hi (hK14 _ _ (G3 (JLh (G1 ((i11+1:Nat):Int)) (Ht (Hn hk11 hm27) O O O) O (JLh (G1 ((i11+1:Nat):Int)) (G6 O O) O (G8 (e11 _ _ (i11+1) (v23,s53) (app1 hn11 h) (by omega) ⟨(by repeat' constructor),⟨⟨_,rfl,.map⟩,G⟩,rfl⟩))))))
  ·
   have h:=app1 hkx11 (Hs hi11 (H9 hb))
   refine Hi (hK9 _ _ (G5 (fun K60 hK60=>G5 fun K61 hK61=>G3 (JLh (.mp 1028) (G6 O O) O (JLh (.it 1029) (Hed 1029 (m:=s11.2) O O O O H7d) O (G8 (hK61 _ _ (Gi ?_))))))))
   obtain⟨b67,kx67,hb67,hkx67,h⟩:=Hda h
   refine He7 (Gu.size s11.2) (fun i67 (s67:Unit)=>MInv b67 kx67 (Gu.l s11.2) i67 s67) (fun i67 s67=>[(8,G1 s11.1),(61,.it 1029)]) (fun i67 s67=>[(1028,MP 90 Ga.kv G1 s11.2),(1029,.iter 1028 (Gu.size s11.2) i67)]) () (MInv.start h hp) ⟨⟨.same O,.same O,G⟩,⟨⟨_,O,.map⟩,⟨_,O,.iter O⟩,G⟩,O⟩ ?_
   clear h hp
   intro i67 s67 hi67 K67 e67
   refine G5 fun K68 hK68=>G3 (H0c O O O (J47 (m:=s11.2) O O O O) ?_)
   intro u_ L_ hn_
   rcases hn_ with ⟨q67,x67,he67,hs67,rfl,rfl⟩ | ⟨ha67,rfl,rfl⟩
   ·
    obtain⟨o67,h,ho1_67,ho2_67⟩:=hi67.step he67 hs67
    replace h:=J8a hb67 h
    refine JLh (BL true) (H0 O O O) O (G8 (hK68 _ _ (G5 (fun K69 hK69=>He8 O (Gp (hK69 _ _ (Gi (G5 fun K70 hK70=>G3 (JLh (.tup [.agg [G1 x67.1.Load,G1 x67.1.Discharge],G1 x67.2]) (Hef (kv:=Ga.kv) (av:=G1) (m:=s11.2) (q:=q67) (seen:=i67) (e:=x67) O O O O he67) O (JLh (G1 x67.2) (H0 O O O) O (JLh (G1 x67.2) (Gb O O) O (G8 (hK70 _ _ (G5 fun K71 hK71=>G3 (JLh (G1 x67.2) (G6 O O) O (JLh (BL (decide (1 < x67.2))) (Zj O O O) O (G8 (hK71 _ _ (Gn O (fun hb=>?_) (fun hb=>?_))))))))))))))))))))
    ·
     replace h:=H1 hb h
     refine G5 fun K72 hK72=>G3 (JLh (G1 0) (Gb O O) O (JLh (G1 271) (Gb O O) O (G8 (hK72 _ _ (Gx ?_)))))
     obtain⟨y_,hy_,hl_⟩:=lft_out h
     exact⟨[G1 0,G1 271],[],G,O,⟨⟨_,O,.conv (.same O)⟩,⟨_,O,.conv (.same O)⟩,G⟩,O,(0,271),Eq.mpr (Option.some.inj hl_) (ho1_67 y_ hy_),O⟩
    ·
     replace h:=Hv hb h
     refine Gp (e67 _ _ (i67++[q67]) () (ho2_67 _ (Option.some.inj h).symm) (H7c (List.getElem?_eq_some_iff.1 he67).1 hs67) ⟨⟨.same O,.same O,G⟩,⟨⟨_,O,.map⟩,⟨_,O,.iter O⟩,G⟩,O⟩)
   ·
    obtain⟨p_,h,hp⟩:=hi67.done ha67
    replace h:=app1 hkx67 h
    refine JLh (BL false) (H0 O O O) O (G8 (hK68 _ _ (G5 (fun K73 hK73=>H74 O (Hi (hK60 _ _ (G5 fun K74 hK74=>G3 (JLh (G1 s11.1) (G6 O O) O (JLh (G1 s11.1) (Gb O O) O (JLh (G1 0) (Gb O O) O (G8 (hK74 _ _ (Gx (⟨[G1 s11.1,G1 0],[],G,O,⟨⟨_,O,.conv (.same O)⟩,⟨_,O,.conv (.same O)⟩,G⟩,O,(s11.1,0),Eq.mpr (Option.some.inj h) hp,O⟩))))))))))))))
theorem J3d (S_:Nat→(Hc)→(List Gr)→(List (List Ga))→Option (Int×Int)) (hS_:∀ F s boxes families r,S_ F s boxes families=some r→∃ p:Prop,G5b F s boxes families (fun r_=>r_=r)=some p∧p) (F:Nat) (s:Hc) (boxes:List Gr) (families:List (List Ga)) (r:Int×Int) (h:S_ F s boxes families=some r):Pure Tryz.prog 8 [.agg (Hc.cs s),E2 boxes,LS 1 (E3) families] (·=.tup [G1 r.1,G1 r.2]):=by
 obtain⟨p,h1,h2⟩:=hS_ F s boxes families r h
 exact(J3c F s boxes families _ p h1 h2).monoP (fun av hh=>by obtain⟨r_,rfl,ha⟩:=hh; exact ha)

def Rv (F:Nat) (boxes:List Gr) (l:List Int):Option (List (List Ga)):=
 bnd (Jo boxes) fun r5=>
 each (fun y6 i6 (s6:(List (List Ga))) nx6=>
  jp (fun kj9=>
   jp (fun kj12=>
    bif decide (0 < (l.length:Int)) then
    (bnd (Gfd (i6:Int) (l.length:Int)) fun v14=>
     Rm l v14 fun y15=>
     Rn (y15) fun v17=>
     bnd (Gfd v17 3) fun v18=>
     kj12 v18)
    else
    (kj12 0)) fun(j12:Int)=>
   jp (fun kj20=>
    bif decide (0 < (s6.length:Int)) then
    (Rn ((s6.length:Int) - 1) fun v23=>
     need (decide (0≤v23∧v23+1=(s6.length:Int))) <|
     each (fun y37 i37 (s37:Bool) nx37=>
      bnd (bif s37 then Zi y37 y6.Ga else some default) fun r42=>
      nx37 (s37&&r42))
     (fun(s37:Bool)=>
      kj20 s37) (Jn s6) 0 (decide (0 < (s6.length:Int))))
    else
    (kj20 (decide (0 < (s6.length:Int))))) fun(j20:Bool)=>
   bif decide (j12=2) then
   (kj9 s6)
   else
   (bif ((decide (j12=1))&&j20) then
    (Rn ((s6.length:Int) - 1) fun v45=>
     Rn ((s6.length:Int) - 1) fun v46=>
     need (decide (0≤v46∧v46+1=(s6.length:Int))) <|
     need (decide (((Jn s6).length+1)*16≤140737488355328∧(Jn s6).length+1≤maxLen)) <|
     need (decide (0≤v45∧v45+1=(s6.length:Int))) <|
     kj9 (R5 s6 (Jn s6++[y6.Ga])))
    else
    (need (decide ((s6.length+1)*24≤140737488355328∧s6.length+1≤maxLen)) <|
     kj9 (s6++[[y6.Ga]])))) fun(j9:(List (List Ga)))=>
  nx6 j9)
 (fun(s6:(List (List Ga)))=>
  some s6) r5 0 []
theorem Gee (F:Nat) (boxes:List Gr) (l:List Int) (r:(List (List Ga))) (h:Rv F boxes l=some r):Pure Tryz.prog 9 [E2 boxes,Eb l] (·=LS 1 (E3) r):=by
 unfold Rv at h
 refine H4 [.tmp 4] Tryz.func9 O O (G5 fun K1 hK1=>G3 (JLh (NS 100000004 101000004 2 Ga.av ([]:List (List Ga))) (A_nnil2 100000004 101000004 2 82 84 O O O O O) O (G8 (hK1 _ _ (G5 fun K2 hK2=>G3 (JLh (NS 1030 1034 2 Ga.av ([]:List (List Ga))) (A_nnil2 1030 1034 2 82 84 O O O O O) O (G8 (hK2 _ _ (G5 (fun K3 hK3=>G5 fun K4 hK4=>G3 (JLh (E2 boxes) (G6 O O) O ?_)))))))))))
 obtain⟨r5,hr5,h⟩:=Gf h
 refine JLh (E4 r5) (Gy (args:=[E2 boxes]) O (G44.down boxes r5 hr5) Gd9 ⟨O,O,G⟩) O (Hp (f:=G2.av) (xs:=r5) H7 O O (fun hm14=>?_) O O O)
 refine JLh (G1 0) (G6 O O) O (G8 (hK4 _ _ (Gi ?_)))
 obtain⟨b6,kx6,hb6,hkx6,h⟩:=Hy h
 refine Ha (fun i6 (s6:(List (List Ga)))=>each b6 kx6 (List.drop i6 r5) i6 s6=some r) (fun i6 s6=>[(1,Eb l),(5,NS 1030 1034 2 Ga.av s6),(13,E4 r5),(14,Ek r5.length),(15,Ek i6)]) (fun i6 s6=>[(1030,.spare 82 1 (Qd s6) 0),(1034,.spare 84 2 (Qd s6) (Jn s6).length)]) (fun i6=>r5.length - i6) 0 [] h ⟨(by repeat' constructor),⟨⟨_,rfl,.same⟩,⟨_,rfl,.same⟩,G⟩,rfl⟩ ?_
 clear h
 intro i6 s6 hi6 K6 e6
 refine G5 fun K7 hK7=>G3 (JLh (BL (decide ((i6:Int) < (r5.length:Int)))) (J2 O O O) O (G8 (hK7 _ _ (G5 (fun K8 hK8=>Gn O (fun hb=>?_) (fun hb=>?_))))))
 ·
  have hk6:=Jd hb
  obtain⟨y6,nx6,hy6,hn6,h⟩:=Hr hi6 hk6
  replace h:=Rq hb6 h
  refine Gp (hK8 _ _ ?_)
  obtain⟨kj9,hkj9,h⟩:=Q7 h
  refine Jm (fun j9:(List (List Ga))=>kj9 j9=some r) (fun j9=>[(1,Eb l),(5,NS 1030 1034 2 Ga.av j9),(13,E4 r5),(14,Ek r5.length),(15,Ek i6)]) (fun j9=>[(1030,.spare 82 1 (Qd j9) 0),(1034,.spare 84 2 (Qd j9) (Jn j9).length)]) (fun Kj9 ej9=>?_) ?_
  ·
   refine Gi (G5 fun K10 hK10=>G3 (JLh (Ek i6) (G6 O O) O (JLh (Eg y6) (Gz (f:=G2.av) (xs:=r5) (y:=y6) O O O H7 hy6 O) O (JLh (.agg (G2.cs y6)) (Gh Qn O O O) O (JLh (.ptr 1031 0) (Hh 1031 4 Qi O O) O (JLh (Ek i6) (Gb O O) O (Hg (u:=.junk) (H5 (u:=.agg (G2.cs y6)) (ds:=[G1 y6.Ga.Load,G1 y6.Ga.Discharge,G1 y6.Whole,G1 y6.Half]) Zm O O O O O O O O) (G8 (hK10 _ _ ?_)))))))))
   refine Gq [(1,Eb l),(5,NS 1030 1034 2 Ga.av s6),(6,Ek i6),(7,Eg y6),(13,E4 r5),(14,Ek r5.length),(15,Ek i6)] [(1030,.spare 82 1 (Qd s6) 0),(1034,.spare 84 2 (Qd s6) (Jn s6).length)] 1031 rfl rfl rfl ⟨⟨_,rfl,.same⟩,⟨_,rfl,.same⟩,G⟩ rfl (by repeat' (first | exact .ptr | constructor)) (G5 fun K11 hK11=>G3 (JLh (G1 0) (Gb O O) O (G8 (hK11 _ _ ?_))))
   obtain⟨kj12,hkj12,h⟩:=Q7 h
   refine Jm (fun j12:Int=>kj12 j12=some r) (fun j12=>[(1,Eb l),(5,NS 1030 1034 2 Ga.av s6),(7,Eg y6),(8,G1 j12),(13,E4 r5),(14,Ek r5.length),(15,Ek i6)]) (fun j12=>[(1030,.spare 82 1 (Qd s6) 0),(1034,.spare 84 2 (Qd s6) (Jn s6).length)]) (fun Kj12 ej12=>?_) ?_
   ·
    refine G5 fun K13 hK13=>G3 (JLh (Eb l) (G6 O O) O (Hp (f:=U8) (xs:=l) G04 O O (fun hm21=>?_) O O O))
    refine JLh (BL (decide (0 < (l.length:Int)))) (Zj O O O) O (G8 (hK13 _ _ (Gn O (fun hb=>?_) (fun hb=>?_))))
    ·
     replace h:=H1 hb h
     refine G3 (JLh (Eb l) (G6 O O) O (JLh (Ek i6) (G6 O O) O (JLh (Eb l) (G6 O O) O (Hp (f:=U8) (xs:=l) G04 O O (fun hm26=>?_) O O O))))
     obtain⟨v14,hv14,h⟩:=Gf h
     refine JLh (G1 v14) (H77 (Qo hv14).1 (Qo hv14).2 O O O) O ?_
     obtain⟨m16,y15,hm16,hy15,h⟩:=Qk h
     refine JLh (.dptr [U8 y15]) (Gz (f:=U8) (xs:=l) (y:=y15) O O O G04 hy15 hm16) O (JLh (U8 y15) (Gk J7 O O O) O ?_)
     obtain⟨v17,hv17,h⟩:=Hb h
     refine JLh (G1 v17) (G15 Yu G3b hv17 O O) O ?_
     obtain⟨v18,hv18,h⟩:=Gf h
     refine JLh (G1 v18) (H77 (Qo hv18).1 (Qo hv18).2 O O O) O (JLh (G1 v18) (Gb O O) O (G8 (ej12 _ _ v18 h ⟨(by repeat' constructor),⟨⟨_,rfl,.same⟩,⟨_,rfl,.same⟩,G⟩,rfl⟩)))
    ·
     replace h:=Hv hb h
     refine Gp (ej12 _ _ 0 h ⟨(by repeat' constructor),⟨⟨_,rfl,.same⟩,⟨_,rfl,.same⟩,G⟩,rfl⟩)
   ·intro j12 h
    replace h:=app1 hkj12 h
    refine G5 fun K19 hK19=>G3 (JLh (NS 1030 1034 2 Ga.av s6) (G6 O O) O (JLh (Ek s6.length) (Hee (f:=Ga.av) (xss:=s6) Qj O O O) O (JLh (BL (decide (0 < (s6.length:Int)))) (Zj O O O) O (JLh (BL (decide (0 < (s6.length:Int)))) (Gb O O) O (G8 (hK19 _ _ ?_))))))
    obtain⟨kj20,hkj20,h⟩:=Q7 h
    refine Jm (fun j20:Bool=>kj20 j20=some r) (fun j20=>[(1,Eb l),(5,NS 1030 1034 2 Ga.av s6),(7,Eg y6),(8,G1 j12),(9,BL j20),(13,E4 r5),(14,Ek r5.length),(15,Ek i6)]) (fun j20=>[(1030,.spare 82 1 (Qd s6) 0),(1034,.spare 84 2 (Qd s6) (Jn s6).length)]) (fun Kj20 ej20=>?_) ?_
    ·
     refine G5 fun K21 hK21=>G3 (JLh (BL (decide (0 < (s6.length:Int)))) (G6 O O) O (G8 (hK21 _ _ (Gn O (fun hb=>?_) (fun hb=>?_)))))
     ·
      replace h:=H1 hb h
      refine G5 fun K22 hK22=>G3 (JLh (NS 1030 1034 2 Ga.av s6) (G6 O O) O (JLh (NS 1030 1034 2 Ga.av s6) (G6 O O) O (JLh (Ek s6.length) (Hee (f:=Ga.av) (xss:=s6) Qj O O O) O ?_)))
      obtain⟨v23,hv23,h⟩:=Hb h
      refine JLh (G1 v23) (G18 hv23 O O O) O ?_
      obtain⟨ha24,h⟩:=Hz h
      refine JLh (.nptr 1030 (Qd s6) v23.toNat (.own 1034 (Qd s6) 2 ((Jn s6).map Ga.av))) (Jc0 (f:=Ga.av) (xss:=s6) (m:=v23.toNat) O O O O Qj (H3d ha24).1 (H3d ha24).2) O (JLh (.own 1034 (Qd s6) 2 ((Jn s6).map Ga.av)) (A_nload G23 O O O) O (Hp (f:=Ga.av) (xs:=(Jn s6)) J4 O O (fun hm42=>?_) O O O))
      refine JLh (G1 0) (G6 O O) O (G8 (hK22 _ _ (Gi ?_)))
      obtain⟨b37,kx37,hb37,hkx37,h⟩:=Hy h
      refine Ha (fun i37 (s37:Bool)=>each b37 kx37 (List.drop i37 (Jn s6)) i37 s37=some r) (fun i37 s37=>[(1,Eb l),(5,NS 1030 1034 2 Ga.av s6),(7,Eg y6),(8,G1 j12),(9,BL s37),(13,E4 r5),(14,Ek r5.length),(15,Ek i6),(41,.own 1034 (Qd s6) 2 ((Jn s6).map Ga.av)),(42,G1 ((Jn s6).length:Int)),(43,Ek i37)]) (fun i37 s37=>[(1030,.spare 82 1 (Qd s6) 0),(1034,.spare 84 2 (Qd s6) (Jn s6).length)]) (fun i37=>(Jn s6).length - i37) 0 (decide (0 < (s6.length:Int))) h ⟨(by repeat' constructor),⟨⟨_,rfl,.same⟩,⟨_,rfl,.same⟩,G⟩,rfl⟩ ?_
      clear h
      intro i37 s37 hi37 K37 e37
      refine G5 fun K38 hK38=>G3 (JLh (BL (decide ((i37:Int) < ((Jn s6).length:Int)))) (J2 O O O) O (G8 (hK38 _ _ (G5 (fun K39 hK39=>Gn O (fun hb=>?_) (fun hb=>?_))))))
      ·
       have hk37:=Jd hb
       obtain⟨y37,nx37,hy37,hn37,h⟩:=Hr hi37 hk37
       replace h:=Rq hb37 h
       refine Gp (hK39 _ _ (G5 (fun K40 hK40=>Gi (G5 fun K41 hK41=>G3 (JLh (.dptr [G1 y37.Load,G1 y37.Discharge]) (Gz (f:=Ga.av) (xs:=(Jn s6)) (y:=y37) O O O J4 hy37 O) O (JLh (.agg [G1 y37.Load,G1 y37.Discharge]) (Gh Jc O O O) O (JLh (.ptr 1032 0) (Hh 1032 2 Ys O O) O (Hg (u:=.junk) (H5 (u:=.agg [G1 y37.Load,G1 y37.Discharge]) (ds:=[G1 y37.Load,G1 y37.Discharge]) G64 O O O O O O O O) (G8 (hK41 _ _ ?_))))))))))
       refine Gq [(1,Eb l),(5,NS 1030 1034 2 Ga.av s6),(7,Eg y6),(8,G1 j12),(9,BL s37),(11,.dptr [G1 y37.Load,G1 y37.Discharge]),(13,E4 r5),(14,Ek r5.length),(15,Ek i6),(41,.own 1034 (Qd s6) 2 ((Jn s6).map Ga.av)),(42,G1 ((Jn s6).length:Int)),(43,Ek i37)] [(1030,.spare 82 1 (Qd s6) 0),(1034,.spare 84 2 (Qd s6) (Jn s6).length)] 1032 rfl rfl rfl ⟨⟨_,rfl,.same⟩,⟨_,rfl,.same⟩,G⟩ rfl (by repeat' (first | exact .ptr | constructor)) (G3 (JLh (BL s37) (G6 O O) O (JLh (BL s37) (G6 O O) O (Gg (u:=.agg [G1 y37.Load,G1 y37.Discharge]) [] O O O .sct G (fun hc=>Gh Jc O O O) ?_))))
       refine Gg (u:=Eg y6) [] O O O .sct G (fun hc=>Gd Ja O O O) ?_
       refine Gg (u:=.agg [G1 y6.Ga.Load,G1 y6.Ga.Discharge]) [(50,Eg y6)] O O O .sct ⟨.all id,G⟩ (fun hc=>Gh Jc O O O) ?_
       obtain⟨r42,hr42,h⟩:=Gf h
       refine Gg (u:=BL r42) [(49,.agg [G1 y37.Load,G1 y37.Discharge]),(51,.agg [G1 y6.Ga.Load,G1 y6.Ga.Discharge])] O O O .sct ⟨.all id,.all id,G⟩ (fun hc=>Gy (args:=[.agg [G1 y37.Load,G1 y37.Discharge],.agg [G1 y6.Ga.Load,G1 y6.Ga.Discharge]]) O (G62 y37 y6.Ga r42 (H1 hc hr42)) H36 ⟨O,O,O,O,G⟩) ?_
       refine JLh (BL (s37&&r42)) (Qc O O O O) O (JLh (BL (s37&&r42)) (Gb O O) O (G8 (hK40 _ _ (G3 (JLh (G1 ((i37+1:Nat):Int)) (Ht (Hn hk37 hm42) O O O) O (JLh (G1 ((i37+1:Nat):Int)) (G6 O O) O (G8 (e37 _ _ (i37+1) (s37&&r42) (app1 hn37 h) (by omega) ⟨(by repeat' constructor),⟨⟨_,rfl,.same⟩,⟨_,rfl,.same⟩,G⟩,rfl⟩))))))))
      ·
       have h:=app1 hkx37 (Hs hi37 (H9 hb))
       refine Hi (ej20 _ _ s37 h ⟨(by repeat' constructor),⟨⟨_,rfl,.same⟩,⟨_,rfl,.same⟩,G⟩,rfl⟩)
     ·
      replace h:=Hv hb h
      refine Gp (ej20 _ _ (decide (0 < (s6.length:Int))) h ⟨(by repeat' constructor),⟨⟨_,rfl,.same⟩,⟨_,rfl,.same⟩,G⟩,rfl⟩)
    ·intro j20 h
     replace h:=app1 hkj20 h
     refine Gi (G5 fun K43 hK43=>G3 (JLh (G1 j12) (G6 O O) O (JLh (BL (decide (j12=2))) (Qh O O O) O (JLh (BL (decide (j12=2))) (Gb O O) O (G8 (hK43 _ _ (Gn O (fun hb=>?_) (fun hb=>?_))))))))
     ·
      replace h:=H1 hb h
      refine Gp (ej9 _ _ s6 h ⟨(by repeat' constructor),⟨⟨_,rfl,.same⟩,⟨_,rfl,.same⟩,G⟩,rfl⟩)
     ·
      replace h:=Hv hb h
      refine G5 fun K44 hK44=>G3 (JLh (G1 j12) (G6 O O) O (JLh (BL (decide (j12=1))) (Qh O O O) O (JLh (BL (decide (j12=1))) (G6 O O) O (Gg (u:=BL j20) [] O O O .sct G (fun hc=>G6 O O) ?_))))
      refine JLh (BL ((decide (j12=1))&&j20)) (Qc O O O O) O (JLh (BL ((decide (j12=1))&&j20)) (Gb O O) O (G8 (hK44 _ _ (Gn O (fun hb=>?_) (fun hb=>?_)))))
      ·
       replace h:=H1 hb h
       refine Re (l':=[(1,Eb l),(5,NS 1030 1034 2 Ga.av s6),(7,Eg y6),(13,E4 r5),(14,Ek r5.length),(15,Ek i6)]) (L':=[(1030,.spare 82 1 (Qd s6) 0),(1034,.spare 84 2 (Qd s6) (Jn s6).length)]) ⟨(by repeat' constructor),⟨⟨_,rfl,.same⟩,⟨_,rfl,.same⟩,G⟩,rfl⟩ ?_
       obtain⟨v45,hv45,h⟩:=Hb h
       obtain⟨v46,hv46,h⟩:=Hb h
       obtain⟨ha47,h⟩:=Hz h
       obtain⟨ha48,h⟩:=Hz h
       obtain⟨ha49,h⟩:=Hz h
       refine JC_drawN 15 _ [13] [0,0,0,0,0,0,0,0,0,0,0,0,0,0,1,1] [1,1,1,1,0,0,0,0,0,0,0,0,0,0,1,1] [[(1030,.spare 82 1 (Qd s6) 0),(1034,.spare 84 2 (Qd s6) (Jn s6).length)],((1034,.spare 84 2 (Qd (R5 s6 (Jn s6++[y6.Ga]))) (Jn (R5 s6 (Jn s6++[y6.Ga]))).length)::[(1030,.spare 82 1 (Qd s6) 0),(1034,.spare 84 2 (Qd s6) (Jn s6).length)])] Jr (by kernel_rfl) rfl rfl rfl (by kernel_rfl) rfl rfl ?_
       refine Gm (u:=NS 1030 1034 2 Ga.av s6) O O ⟨Gs (G6 O O) O,Gs (G6 O O) O,G⟩ (Gm (u:=NS 1030 1034 2 Ga.av s6) O O ⟨Gs (G6 O O) O,Gs (G6 O O) O,G⟩ (Gm (u:=Ek s6.length) O O ⟨Gs (Hee (f:=Ga.av) (xss:=s6) Qj O O O) O,Gs (Hee (f:=Ga.av) (xss:=s6) Qj O O O) O,G⟩ (Gm (u:=G1 v45) O O ⟨Gs (G18 hv45 O O O) O,Gs (G18 hv45 O O O) O,G⟩ (Gm (u:=NS 1030 1034 2 Ga.av s6) O O ⟨Gs (G6 O O) O,G⟩ (Gm (u:=NS 1030 1034 2 Ga.av s6) O O ⟨Gs (G6 O O) O,G⟩ (Gm (u:=Ek s6.length) O O ⟨Gs (Hee (f:=Ga.av) (xss:=s6) Qj O O O) O,G⟩ (Gm (u:=G1 v46) O O ⟨Gs (G18 hv46 O O O) O,G⟩ (Gm (u:=.nptr 1030 (Qd s6) v46.toNat (.own 1034 (Qd s6) 2 ((Jn s6).map Ga.av))) O O ⟨Gs (Jc0 (f:=Ga.av) (xss:=s6) (m:=v46.toNat) O O O O Qj (H3d ha47).1 (H3d ha47).2) O,G⟩ (Gm (u:=.own 1034 (Qd s6) 2 ((Jn s6).map Ga.av)) O O ⟨Gs (A_nload G23 O O O) O,G⟩ (Gm (u:=Eg y6) O O ⟨Gs (Gd Ja O O O) O,G⟩ (Gm (u:=.agg [G1 y6.Ga.Load,G1 y6.Ga.Discharge]) O O ⟨Gs (Gh Jc O O O) O,G⟩ (Gm (u:=E3 [y6.Ga]) O O ⟨Gs (Hf (xs:=[.agg [G1 y6.Ga.Load,G1 y6.Ga.Discharge]]) O ⟨O,O,G⟩ J4 Ys O O O O) O,G⟩ (D_w (u:=.own 1034 (Qd (R5 s6 (Jn s6++[y6.Ga]))) 2 ((Jn (R5 s6 (Jn s6++[y6.Ga]))).map Ga.av)) O O O O (Gs (A_npushM (f:=Ga.av) (xss:=s6) (g:=y6.Ga) O O O O J4 J56 ha48 (fun _=>O) O) O) ?_)))))))))))))
       refine Gm (u:=.nptr 1030 (Qd s6) v45.toNat (.own 1034 (Qd s6) 2 ((Jn s6).map Ga.av))) O O ⟨Gs (Jc0 (f:=Ga.av) (xss:=s6) (m:=v45.toNat) O O O O Qj (H3d ha49).1 (H3d ha49).2) O,G⟩ (Zu (Q1e (s:=5) (f:=Ga.av) (xss:=s6) (ys:=(Jn s6++[y6.Ga])) J4f O O O O (H3d ha49).1 O (totN_push _ _) ?_ O O O))
       refine G8 (ej9 _ _ (R5 s6 (Jn s6++[y6.Ga])) h ⟨(by repeat' constructor),⟨⟨_,rfl,.same⟩,⟨_,rfl,.same⟩,G⟩,rfl⟩)
      ·
       replace h:=Hv hb h
       refine G3 (JLh (NS 1030 1034 2 Ga.av s6) (G6 O O) O (JLh (Eg y6) (Gd Ja O O O) O (JLh (.agg [G1 y6.Ga.Load,G1 y6.Ga.Discharge]) (Gh Jc O O O) O (JLh (.own 1034 (Qd (s6++[[y6.Ga]])) 2 ((Jn (s6++[[y6.Ga]])).map Ga.av)) (A_nlitM 1034 (f:=Ga.av) (xss:=s6) (g:=y6.Ga) O ⟨.inl O,O,G⟩ J4 Ys O O O O) O (JLh (.ms 1033 0 1 1) (A_litBox 1033 (u:=.own 1034 (Qd (s6++[[y6.Ga]])) 2 ((Jn (s6++[[y6.Ga]])).map Ga.av)) O O O O Qj H55 O) O ?_)))))
       obtain⟨ha50,h⟩:=Hz h
       refine JLh (NS 1030 1034 2 Ga.av (s6++[[y6.Ga]])) (A_nnewM (f:=Ga.av) (xss:=s6) (g:=y6.Ga) O O O O O Qj J57 ha50) O (JLh (NS 1030 1034 2 Ga.av (s6++[[y6.Ga]])) (Gb O O) O (G8 (ej9 _ _ (s6++[[y6.Ga]]) h ⟨(by repeat' constructor),⟨⟨_,rfl,.same⟩,⟨_,rfl,.same⟩,G⟩,rfl⟩)))
  ·intro j9 h
   replace h:=app1 hkj9 h
   refine G3 (JLh (G1 ((i6+1:Nat):Int)) (Ht (Hn hk6 hm14) O O O) O (JLh (G1 ((i6+1:Nat):Int)) (G6 O O) O (G8 (e6 _ _ (i6+1) j9 (app1 hn6 h) (by omega) ⟨(by repeat' constructor),⟨⟨_,rfl,.same⟩,⟨_,rfl,.same⟩,G⟩,rfl⟩))))
 ·
  have h:=app1 hkx6 (Hs hi6 (H9 hb))
  refine Hi (hK3 _ _ (G5 fun K51 hK51=>G3 (JLh (NS 1030 1034 2 Ga.av s6) (G6 O O) O (JLh (NS 1030 1034 2 Ga.av s6) (Gb O O) O (G8 (hK51 _ _ (Jd5 (j:=1034) (k:=2) (f:=Ga.av) (xss:=s6) [(4,LS 1 (E3) s6)] [] 1030 rfl rfl G rfl (by exact⟨.nst,G⟩) (Gx (⟨[LS 1 (E3) s6],[],G,O,⟨⟨_,O,.conv (.same O)⟩,G⟩,O,congrArg (fun r:(List (List Ga))=>(LS 1 (E3) r:AV)) (Option.some.inj h)⟩)))))))))

def Jy (columns:Int):Option Hc:=
 need (decide (columns≤9223372036854775807)) <|
 upto (fun i21 (s21:(List G9)×(List Ge)×Int×Int×Int×Int×(List Row)×(List Frame)×(List Gv)×Int×Int×Int×Int) nx21=>
  need (decide ((s21.1.length+[(G9.mk 0 (i21:Int) false 2 0 0 0 0 [] 0 0 0)].length)*112≤140737488355328∧s21.1.length+[(G9.mk 0 (i21:Int) false 2 0 0 0 0 [] 0 0 0)].length≤maxLen)) <|
  nx21 ((s21.1++[(G9.mk 0 (i21:Int) false 2 0 0 0 0 [] 0 0 0)]),s21.2.1,s21.2.2.1,s21.2.2.2.1,s21.2.2.2.2.1,s21.2.2.2.2.2.1,s21.2.2.2.2.2.2.1,s21.2.2.2.2.2.2.2.1,s21.2.2.2.2.2.2.2.2.1,s21.2.2.2.2.2.2.2.2.2.1,s21.2.2.2.2.2.2.2.2.2.2.1,s21.2.2.2.2.2.2.2.2.2.2.2.1,s21.2.2.2.2.2.2.2.2.2.2.2.2))
 (fun(s21:(List G9)×(List Ge)×Int×Int×Int×Int×(List Row)×(List Frame)×(List Gv)×Int×Int×Int×Int)=>
  some (Hc.mk s21.1 s21.2.1 (Light.mk s21.2.2.1 s21.2.2.2.1 s21.2.2.2.2.1 s21.2.2.2.2.2.1) s21.2.2.2.2.2.2.1 s21.2.2.2.2.2.2.2.1 s21.2.2.2.2.2.2.2.2.1 (G4.mk s21.2.2.2.2.2.2.2.2.2.1 s21.2.2.2.2.2.2.2.2.2.2.1 s21.2.2.2.2.2.2.2.2.2.2.2.1 s21.2.2.2.2.2.2.2.2.2.2.2.2))) columns.toNat 0 ([],[],0,0,0,0,[],[],[],0,0,0,0)
theorem Q8 (columns:Int) (r:Hc) (h:Jy columns=some r):Pure Tryz.prog 26 [G1 columns] (·=.agg (Hc.cs r)):=by
 unfold Jy at h
 refine H4 [.cell 2 36] Tryz.func26 O O (G5 fun K1 hK1=>G3 (JLh (.ptr 1084 0) (G0b 1084 [E5 ([]:List G9),Ea ([]:List Ge),G1 0,G1 0,G1 0,G1 0,E7 ([]:List Row),E8 ([]:List Frame),E9 ([]:List Gv),G1 0,G1 0,G1 0,G1 0] [.slice none 0 0,.slice none 0 0,.int .i64 0,.int .i64 0,.int .i64 0,.int .i64 0,.slice none 0 0,.slice none 0 0,.slice none 0 0,.int .i64 0,.int .i64 0,.int .i64 0,.int .i64 0] H30 ⟨.inr ⟨_,O,O⟩,.inr ⟨_,O,O⟩,.inl O,.inl O,.inl O,.inl O,.inr ⟨_,O,O⟩,.inr ⟨_,O,O⟩,.inr ⟨_,O,O⟩,.inl O,.inl O,.inl O,.inl O,G⟩ O O) O (G8 (hK1 _ _ ?_))))
 refine G5 fun K2 hK2=>G3 (JLh (.ptr 1085 0) (G0b 1085 [.sc (.slice none 0 0),Ea ([]:List Ge),G1 0,G1 0,G1 0,G1 0,E7 ([]:List Row),E8 ([]:List Frame),E9 ([]:List Gv),G1 0,G1 0,G1 0,G1 0] [.slice none 0 0,.slice none 0 0,.int .i64 0,.int .i64 0,.int .i64 0,.int .i64 0,.slice none 0 0,.slice none 0 0,.slice none 0 0,.int .i64 0,.int .i64 0,.int .i64 0,.int .i64 0] H30 ⟨.inl O,.inr ⟨_,O,O⟩,.inl O,.inl O,.inl O,.inl O,.inr ⟨_,O,O⟩,.inr ⟨_,O,O⟩,.inr ⟨_,O,O⟩,.inl O,.inl O,.inl O,.inl O,G⟩ O O) O ?_)
 refine G6d 1085 0 1086 59 12 O O O (cs':=[OW 1086 12 G9.av ([]:List G9),Ea ([]:List Ge),G1 0,G1 0,G1 0,G1 0,E7 ([]:List Row),E8 ([]:List Frame),E9 ([]:List Gv),G1 0,G1 0,G1 0,G1 0]) O (G8 (hK2 _ _ (G5 (fun K3 hK3=>G5 fun K4 hK4=>G3 (JLh (G1 columns) (G6 O O) O (JLh (G1 0) (G6 O O) O (G8 (hK4 _ _ (Gi ?_)))))))))
 obtain⟨hx21,h⟩:=Hz h
 obtain⟨b21,kx21,hb21,hkx21,h⟩:=H2d h
 refine Ha (fun i21 (s21:(List G9)×(List Ge)×Int×Int×Int×Int×(List Row)×(List Frame)×(List Gv)×Int×Int×Int×Int)=>upto b21 kx21 (columns.toNat - i21) i21 s21=some r) (fun i21 s21=>[(2,.ptr 1084 0),(3,.ptr 1085 0),(5,G1 columns),(6,Ek i21)]) (fun i21 s21=>[(1086,.spare 59 12 s21.1.length s21.1.length),(1084,.box 36 [E5 ([]:List G9),Ea ([]:List Ge),G1 0,G1 0,G1 0,G1 0,E7 ([]:List Row),E8 ([]:List Frame),E9 ([]:List Gv),G1 0,G1 0,G1 0,G1 0]),(1085,.box 36 [OW 1086 12 G9.av s21.1,Ea s21.2.1,G1 s21.2.2.1,G1 s21.2.2.2.1,G1 s21.2.2.2.2.1,G1 s21.2.2.2.2.2.1,E7 s21.2.2.2.2.2.2.1,E8 s21.2.2.2.2.2.2.2.1,E9 s21.2.2.2.2.2.2.2.2.1,G1 s21.2.2.2.2.2.2.2.2.2.1,G1 s21.2.2.2.2.2.2.2.2.2.2.1,G1 s21.2.2.2.2.2.2.2.2.2.2.2.1,G1 s21.2.2.2.2.2.2.2.2.2.2.2.2])]) (fun i21=>columns.toNat - i21) 0 ([],[],0,0,0,0,[],[],[],0,0,0,0) h ⟨(by repeat' constructor),⟨⟨_,rfl,.same⟩,⟨_,rfl,.boxL rfl (by repeat' constructor)⟩,⟨_,rfl,.boxL rfl (by repeat' constructor)⟩,G⟩,rfl⟩ ?_
 clear h
 intro i21 s21 hi21 K21 e21
 refine G5 fun K22 hK22=>G3 (JLh (BL (decide ((i21:Int) < columns))) (J2 O O O) O (G8 (hK22 _ _ (G5 (fun K23 hK23=>Gn O (fun hb=>?_) (fun hb=>?_))))))
 ·
  have hk21:=Ge0 hb
  obtain⟨nx21,hn21,h⟩:=Gd3 hi21 hk21
  replace h:=J8a hb21 h
  refine Gp (hK23 _ _ (G5 (fun K24 hK24=>Gi (G5 fun K25 hK25=>G3 (JLh (Ek i21) (G6 O O) O (JLh (Ek i21) (Gb O O) O (G8 (hK25 _ _ (G3 ?_)))))))))
  refine JLh (.ptr 1085 0) (Jf J0 O O) O (JLh (OW 1086 12 G9.av s21.1) (Jv J8 O O O O) O (JLh (Ek i21) (G6 O O) O (JLh (.agg [G1 0,Ek i21,BL false,G1 2,G1 0,G1 0,G1 0,G1 0,E1 ([]:List Int),G1 0,G1 0,G1 0]) (Ji (cs:=[G1 0,Ek i21,BL false,G1 2,G1 0,G1 0,G1 0,G1 0,E1 ([]:List Int),G1 0,G1 0,G1 0]) [(0,1),(1,1),(2,1),(3,1),(4,1),(5,1),(6,1),(7,1),(8,1),(9,1),(10,1),(11,1)] [G1 0,G1 0,BL false,G1 0,G1 0,G1 0,G1 0,G1 0,E1 ([]:List Int),G1 0,G1 0,G1 0] [.int .i64 0,.int .i64 0,.bool false,.int .i64 0,.int .i64 0,.int .i64 0,.int .i64 0,.int .i64 0,.slice none 0 0,.int .i64 0,.int .i64 0,.int .i64 0] H31 Ha4 ⟨.inl O,.inl O,.inl O,.inl O,.inl O,.inl O,.inl O,.inl O,.inr ⟨_,O,O⟩,.inl O,.inl O,.inl O,G⟩ O O) O (JLh (E5 ([(G9.mk 0 (i21:Int) false 2 0 0 0 0 [] 0 0 0)])) (Hf (xs:=[.agg [G1 0,Ek i21,BL false,G1 2,G1 0,G1 0,G1 0,G1 0,E1 ([]:List Int),G1 0,G1 0,G1 0]]) O ⟨O,O,G⟩ J3 G21 O O O O) O ?_))))
  obtain⟨ha26,h⟩:=Hz h
  refine JLh (OW 1086 12 G9.av (s21.1++[(G9.mk 0 (i21:Int) false 2 0 0 0 0 [] 0 0 0)])) (Q5 (f:=G9.av) (xs:=s21.1) (ys:=[(G9.mk 0 (i21:Int) false 2 0 0 0 0 [] 0 0 0)]) O O O O J3 J5a ha26 (fun _=>O) (.inl O) O) O (JLh (.ptr 1085 0) (Jf J0 O O) O (Hg (u:=.junk) (H5 (u:=OW 1086 12 G9.av (s21.1++[(G9.mk 0 (i21:Int) false 2 0 0 0 0 [] 0 0 0)])) (ds:=[OW 1086 12 G9.av (s21.1++[(G9.mk 0 (i21:Int) false 2 0 0 0 0 [] 0 0 0)]),Ea s21.2.1,G1 s21.2.2.1,G1 s21.2.2.2.1,G1 s21.2.2.2.2.1,G1 s21.2.2.2.2.2.1,E7 s21.2.2.2.2.2.2.1,E8 s21.2.2.2.2.2.2.2.1,E9 s21.2.2.2.2.2.2.2.2.1,G1 s21.2.2.2.2.2.2.2.2.2.1,G1 s21.2.2.2.2.2.2.2.2.2.2.1,G1 s21.2.2.2.2.2.2.2.2.2.2.2.1,G1 s21.2.2.2.2.2.2.2.2.2.2.2.2]) Ha8 O O O O O O O O) (G8 (hK24 _ _ ?_))))
  refine G3 (JLh (G1 ((i21+1:Nat):Int)) (Ht (Hn hk21 (G92 hx21)) O O O) O (JLh (G1 ((i21+1:Nat):Int)) (G6 O O) O (G8 (e21 _ _ (i21+1) ((s21.1++[(G9.mk 0 (i21:Int) false 2 0 0 0 0 [] 0 0 0)]),s21.2.1,s21.2.2.1,s21.2.2.2.1,s21.2.2.2.2.1,s21.2.2.2.2.2.1,s21.2.2.2.2.2.2.1,s21.2.2.2.2.2.2.2.1,s21.2.2.2.2.2.2.2.2.1,s21.2.2.2.2.2.2.2.2.2.1,s21.2.2.2.2.2.2.2.2.2.2.1,s21.2.2.2.2.2.2.2.2.2.2.2.1,s21.2.2.2.2.2.2.2.2.2.2.2.2) (app1 hn21 h) (by omega) ⟨(by repeat' constructor),⟨⟨_,rfl,.same⟩,⟨_,rfl,.boxL rfl (by repeat' constructor)⟩,⟨_,rfl,.boxL rfl (by repeat' constructor)⟩,G⟩,rfl⟩))))
 ·
  have h:=app1 hkx21 (Gd4 hi21 (G24 hb))
  refine Hi (hK3 _ _ ?_)
  refine G5 fun K27 hK27=>G3 (JLh (.agg [OW 1086 12 G9.av s21.1,Ea s21.2.1,G1 s21.2.2.1,G1 s21.2.2.2.1,G1 s21.2.2.2.2.1,G1 s21.2.2.2.2.2.1,E7 s21.2.2.2.2.2.2.1,E8 s21.2.2.2.2.2.2.2.1,E9 s21.2.2.2.2.2.2.2.2.1,G1 s21.2.2.2.2.2.2.2.2.2.1,G1 s21.2.2.2.2.2.2.2.2.2.2.1,G1 s21.2.2.2.2.2.2.2.2.2.2.2.1,G1 s21.2.2.2.2.2.2.2.2.2.2.2.2]) (G9e J5 O O O O) O (Hg (u:=.junk) (H5 (u:=.agg [OW 1086 12 G9.av s21.1,Ea s21.2.1,G1 s21.2.2.1,G1 s21.2.2.2.1,G1 s21.2.2.2.2.1,G1 s21.2.2.2.2.2.1,E7 s21.2.2.2.2.2.2.1,E8 s21.2.2.2.2.2.2.2.1,E9 s21.2.2.2.2.2.2.2.2.1,G1 s21.2.2.2.2.2.2.2.2.2.1,G1 s21.2.2.2.2.2.2.2.2.2.2.1,G1 s21.2.2.2.2.2.2.2.2.2.2.2.1,G1 s21.2.2.2.2.2.2.2.2.2.2.2.2]) (ds:=[OW 1086 12 G9.av s21.1,Ea s21.2.1,G1 s21.2.2.1,G1 s21.2.2.2.1,G1 s21.2.2.2.2.1,G1 s21.2.2.2.2.2.1,E7 s21.2.2.2.2.2.2.1,E8 s21.2.2.2.2.2.2.2.1,E9 s21.2.2.2.2.2.2.2.2.1,G1 s21.2.2.2.2.2.2.2.2.2.1,G1 s21.2.2.2.2.2.2.2.2.2.2.1,G1 s21.2.2.2.2.2.2.2.2.2.2.2.1,G1 s21.2.2.2.2.2.2.2.2.2.2.2.2]) Ha7 O O O O O O O O) (G8 (hK27 _ _ ?_))))
  refine Gx (⟨[.agg [E5 s21.1,Ea s21.2.1,G1 s21.2.2.1,G1 s21.2.2.2.1,G1 s21.2.2.2.2.1,G1 s21.2.2.2.2.2.1,E7 s21.2.2.2.2.2.2.1,E8 s21.2.2.2.2.2.2.2.1,E9 s21.2.2.2.2.2.2.2.2.1,G1 s21.2.2.2.2.2.2.2.2.2.1,G1 s21.2.2.2.2.2.2.2.2.2.2.1,G1 s21.2.2.2.2.2.2.2.2.2.2.2.1,G1 s21.2.2.2.2.2.2.2.2.2.2.2.2]],[],G,O,⟨⟨_,⟨_,_,_,_,O,O,O,.inl ⟨J5,O⟩⟩,.agg ⟨.list O,.same O,.same O,.same O,.same O,.same O,.same O,.same O,.same O,.same O,.same O,.same O,.same O,G⟩⟩,G⟩,O,congrArg (fun r:Hc=>(.agg (Hc.cs r):AV)) (Option.some.inj h)⟩)

def G1f (F:Nat) (s:Hc) (boxes:List Gr) (l:List Ga):Option (Int×Int):=
 bnd (Y5 s boxes) fun r4=>
 bif (!r4) then
 (some (0,2))
 else
 (bnd (Jo boxes) fun r7=>
  bnd (Zs r7 l) fun r8=>
  bif decide (r8.2≠0) then
  (some (0,r8.2))
  else
  (bnd (Qw F s r8.1) fun r13=>
   some (r13,0)))
theorem G47 (F:Nat) (s:Hc) (boxes:List Gr) (l:List Ga) (r:Int×Int) (h:G1f F s boxes l=some r):Pure Tryz.prog 25 [.agg (Hc.cs s),E2 boxes,E3 l] (·=.tup [G1 r.1,G1 r.2]):=by
 unfold G1f at h
 refine H4 [.tmp 6,.tmp 7] Tryz.func25 O O (G5 fun K1 hK1=>G3 (JLh (.ptr 1083 0) (Jw (u:=.agg (Hc.cs s)) (cs:=(Hc.cs s)) 1083 O O O O O) O (JLh (G1 0) (Gb O O) O (JLh (G1 0) (Gb O O) O (G8 (hK1 _ _ ?_))))))
 refine Gq [(1,E2 boxes),(2,E3 l),(3,Ee s)] [] 1083 rfl rfl rfl G rfl (by exact⟨.conv (.same rfl),.conv (.same rfl),.ptr,G⟩) (G5 (fun K2 hK2=>G5 fun K3 hK3=>G3 (JLh (.agg (Hc.cs s)) (Gh J5 O O O) O (JLh (E2 boxes) (G6 O O) O ?_))))
 obtain⟨r4,hr4,h⟩:=Gf h
 refine JLh (BL r4) (Gy (args:=[.agg (Hc.cs s),E2 boxes]) O (Gc1 s boxes r4 hr4) Had ⟨O,O,O,O,G⟩) O (JLh (BL (!r4)) (Zy (b:=r4) O O) O (G8 (hK3 _ _ (Gn O (fun hb=>?_) (fun hb=>?_)))))
 ·
  replace h:=H1 hb h
  refine G5 fun K5 hK5=>G3 (JLh (G1 0) (Gb O O) O (JLh (G1 2) (Gb O O) O (G8 (hK5 _ _ (Gx (⟨[G1 0,G1 2],[],G,O,⟨⟨_,O,.conv (.same O)⟩,⟨_,O,.conv (.same O)⟩,G⟩,O,congrArg (fun r:Int×Int=>(.tup [G1 r.1,G1 r.2]:AV)) (Option.some.inj h)⟩))))))
 ·
  replace h:=Hv hb h
  refine Gp (hK2 _ _ (G5 fun K6 hK6=>G3 (JLh (E2 boxes) (G6 O O) O ?_)))
  obtain⟨r7,hr7,h⟩:=Gf h
  refine JLh (E4 r7) (Gy (args:=[E2 boxes]) O (G44.down boxes r7 hr7) Gd9 ⟨O,O,G⟩) O (JLh (E3 l) (G6 O O) O ?_)
  obtain⟨r8,hr8,h⟩:=Gf h
  refine JLh (.tup [E4 r8.1,G1 r8.2]) (Gy (args:=[E4 r7,E3 l]) O (H27 r7 l r8 hr8) J6b ⟨O,O,O,O,G⟩) O (JLh (.tup [E4 r8.1,G1 r8.2]) (G6 O O) O (JLh (E4 r8.1) (H0 O O O) O (JLh (G1 r8.2) (H0 O O O) O (JLh (E4 r8.1) (Gb O O) O (JLh (G1 r8.2) (Gb O O) O (G8 (hK6 _ _ (G5 (fun K9 hK9=>G5 fun K10 hK10=>G3 (JLh (G1 r8.2) (G6 O O) O (JLh (BL (decide (r8.2≠0))) (H78 O O O) O (G8 (hK10 _ _ (Gn O (fun hb=>?_) (fun hb=>?_)))))))))))))))
  ·
   replace h:=H1 hb h
   refine G5 fun K11 hK11=>G3 (JLh (G1 r8.2) (G6 O O) O (JLh (G1 0) (Gb O O) O (JLh (G1 r8.2) (Gb O O) O (G8 (hK11 _ _ (Gx (⟨[G1 0,G1 r8.2],[],G,O,⟨⟨_,O,.conv (.same O)⟩,⟨_,O,.conv (.same O)⟩,G⟩,O,congrArg (fun r:Int×Int=>(.tup [G1 r.1,G1 r.2]:AV)) (Option.some.inj h)⟩)))))))
  ·
   replace h:=Hv hb h
   refine Gp (hK9 _ _ (G5 fun K12 hK12=>G3 (JLh (.agg (Hc.cs s)) (Gh J5 O O O) O (JLh (E4 r8.1) (G6 O O) O ?_))))
   obtain⟨r13,hr13,h⟩:=Gf h
   refine JLh (G1 r13) (Gy (args:=[.agg (Hc.cs s),E4 r8.1]) O (Gc2 F s r8.1 r13 hr13) Hac ⟨O,O,O,O,G⟩) O (JLh (G1 r13) (Gb O O) O (JLh (G1 0) (Gb O O) O (G8 (hK12 _ _ (Gx (⟨[G1 r13,G1 0],[],G,O,⟨⟨_,O,.conv (.same O)⟩,⟨_,O,.conv (.same O)⟩,G⟩,O,congrArg (fun r:Int×Int=>(.tup [G1 r.1,G1 r.2]:AV)) (Option.some.inj h)⟩))))))

def H49 (n:Int) (d:Int):Option Int:=
 Rn (n+d) fun v3=>
 Rn (v3 - 1) fun v4=>
 bnd (quo64 v4 d) fun v5=>
 some v5
theorem He0 (n:Int) (d:Int) (r:Int) (h:H49 n d=some r):Pure Tryz.prog 56 [G1 n,G1 d] (·=G1 r):=by
 unfold H49 at h
 refine H4 [.tmp 4] Tryz.func56 O O (G5 fun K1 hK1=>G3 (JLh (G1 0) (Gb O O) O (G8 (hK1 _ _ (G5 fun K2 hK2=>G3 (JLh (G1 n) (G6 O O) O (JLh (G1 d) (G6 O O) O ?_)))))))
 obtain⟨v3,hv3,h⟩:=Hb h
 refine JLh (G1 v3) (Ht hv3 O O O) O ?_
 obtain⟨v4,hv4,h⟩:=Hb h
 refine JLh (G1 v4) (G18 hv4 O O O) O (JLh (G1 d) (G6 O O) O ?_)
 obtain⟨v5,hv5,h⟩:=Gf h
 refine JLh (G1 v5) (A_quo (H83 hv5).1 (H83 hv5).2 O O O) O (JLh (G1 v5) (Gb O O) O (G8 (hK2 _ _ (Gx (⟨[G1 v5],[],G,O,⟨⟨_,O,.conv (.same O)⟩,G⟩,O,congrArg (fun r:Int=>(G1 r:AV)) (Option.some.inj h)⟩)))))

def H4a (s:Hc) (whole:Int) (half:Int):Option (Int×Int):=
 bnd (Ya s) fun r4=>
 bif (((!r4)||(decide ((min whole half) < 0)))||(decide (2000 < (max whole half)))) then
 (some (0,2))
 else
 (bnd (Zo s) fun r7=>
  bnd (H49 whole r7) fun r9=>
  Rn (2*r9) fun v10=>
  Rn (2*whole) fun v11=>
  Rn (v11+half) fun v12=>
  bnd (H49 v12 r7) fun r13=>
  some ((max v10 r13),0))
theorem J9f (s:Hc) (whole:Int) (half:Int) (r:Int×Int) (h:H4a s whole half=some r):Pure Tryz.prog 27 [.agg (Hc.cs s),G1 whole,G1 half] (·=.tup [G1 r.1,G1 r.2]):=by
 unfold H4a at h
 refine H4 [.tmp 6,.tmp 7] Tryz.func27 O O (G5 fun K1 hK1=>G3 (JLh (.ptr 1087 0) (Jw (u:=.agg (Hc.cs s)) (cs:=(Hc.cs s)) 1087 O O O O O) O (JLh (G1 0) (Gb O O) O (JLh (G1 0) (Gb O O) O (G8 (hK1 _ _ ?_))))))
 refine Gq [(1,G1 whole),(2,G1 half),(3,Ee s)] [] 1087 rfl rfl rfl G rfl (by exact⟨.conv (.same rfl),.conv (.same rfl),.ptr,G⟩) (G5 (fun K2 hK2=>G5 fun K3 hK3=>G3 (JLh (.agg (Hc.cs s)) (Gh J5 O O O) O ?_)))
 obtain⟨r4,hr4,h⟩:=Gf h
 refine JLh (BL r4) (Gy (args:=[.agg (Hc.cs s)]) O (G84.down s r4 hr4) H34 ⟨O,O,G⟩) O (JLh (BL (!r4)) (Zy (b:=r4) O O) O (JLh (BL (!r4)) (G6 O O) O (Gg (u:=G1 whole) [] O O O .scf G (fun hc=>G6 O O) ?_)))
 refine Gg (u:=G1 half) [] O O O .scf G (fun hc=>G6 O O) ?_
 refine Gg (u:=G1 (min whole half)) [(13,G1 whole),(14,G1 half)] O O O .scf ⟨.all id,.all id,G⟩ (fun hc=>Ja5 O O O) ?_
 refine Gg (u:=BL (decide ((min whole half) < 0))) [(15,G1 (min whole half))] O O O .scf ⟨.all id,G⟩ (fun hc=>J2 O O O) ?_
 refine JLh (BL ((!r4)||(decide ((min whole half) < 0)))) (G2a O O O O) O (JLh (BL ((!r4)||(decide ((min whole half) < 0)))) (G6 O O) O (Gg (u:=G1 whole) [] O O O .scf G (fun hc=>G6 O O) ?_))
 refine Gg (u:=G1 half) [] O O O .scf G (fun hc=>G6 O O) ?_
 refine Gg (u:=G1 (max whole half)) [(19,G1 whole),(20,G1 half)] O O O .scf ⟨.all id,.all id,G⟩ (fun hc=>A_max O O O) ?_
 refine Gg (u:=BL (decide (2000 < (max whole half)))) [(21,G1 (max whole half))] O O O .scf ⟨.all id,G⟩ (fun hc=>Zj O O O) ?_
 refine JLh (BL (((!r4)||(decide ((min whole half) < 0)))||(decide (2000 < (max whole half))))) (G2a O O O O) O (G8 (hK3 _ _ (Gn O (fun hb=>?_) (fun hb=>?_))))
 ·
  replace h:=H1 hb h
  refine G5 fun K5 hK5=>G3 (JLh (G1 0) (Gb O O) O (JLh (G1 2) (Gb O O) O (G8 (hK5 _ _ (Gx (⟨[G1 0,G1 2],[],G,O,⟨⟨_,O,.conv (.same O)⟩,⟨_,O,.conv (.same O)⟩,G⟩,O,congrArg (fun r:Int×Int=>(.tup [G1 r.1,G1 r.2]:AV)) (Option.some.inj h)⟩))))))
 ·
  replace h:=Hv hb h
  refine Gp (hK2 _ _ (G5 fun K6 hK6=>G3 (JLh (.agg (Hc.cs s)) (Gh J5 O O O) O ?_)))
  obtain⟨r7,hr7,h⟩:=Gf h
  refine JLh (G1 r7) (Gy (args:=[.agg (Hc.cs s)]) O (G1b s r7 hr7) Gd8 ⟨O,O,G⟩) O (JLh (G1 r7) (Gb O O) O (G8 (hK6 _ _ (G5 fun K8 hK8=>G3 (JLh (G1 whole) (G6 O O) O (JLh (G1 r7) (G6 O O) O ?_))))))
  obtain⟨r9,hr9,h⟩:=Gf h
  refine JLh (G1 r9) (Gy (args:=[G1 whole,G1 r7]) O (He0 whole r7 r9 hr9) J64 ⟨O,O,O,O,G⟩) O ?_
  obtain⟨v10,hv10,h⟩:=Hb h
  refine JLh (G1 v10) (G31 hv10 O O O) O (JLh (G1 whole) (G6 O O) O ?_)
  obtain⟨v11,hv11,h⟩:=Hb h
  refine JLh (G1 v11) (G31 hv11 O O O) O (JLh (G1 half) (G6 O O) O ?_)
  obtain⟨v12,hv12,h⟩:=Hb h
  refine JLh (G1 v12) (Ht hv12 O O O) O (JLh (G1 r7) (G6 O O) O ?_)
  obtain⟨r13,hr13,h⟩:=Gf h
  refine JLh (G1 r13) (Gy (args:=[G1 v12,G1 r7]) O (He0 v12 r7 r13 hr13) J64 ⟨O,O,O,O,G⟩) O (JLh (G1 (max v10 r13)) (A_max O O O) O (JLh (G1 (max v10 r13)) (Gb O O) O (JLh (G1 0) (Gb O O) O (G8 (hK8 _ _ (Gx (⟨[G1 (max v10 r13),G1 0],[],G,O,⟨⟨_,O,.conv (.same O)⟩,⟨_,O,.conv (.same O)⟩,G⟩,O,congrArg (fun r:Int×Int=>(.tup [G1 r.1,G1 r.2]:AV)) (Option.some.inj h)⟩)))))))

def G00 (a:List Ga) (b:List Ga):Option Bool:=
 bif decide ((a.length:Int)≠(b.length:Int)) then
 (some false)
 else
 (each (fun y24 i24 (s24:Unit) nx24=>
   Rm b (i24:Int) fun y29=>
   bif (!decide (y24=y29)) then
   (some false)
   else
   (nx24 ()))
  (fun(s24:Unit)=>
   some true) a 0 ())
theorem Gcb (a:List Ga) (b:List Ga) (r:Bool) (h:G00 a b=some r):Pure Tryz.prog 28 [E3 a,E3 b] (·=BL r):=by
 unfold G00 at h
 refine H4 [.tmp 4] Tryz.func28 O O (G5 fun K1 hK1=>G3 (JLh (BL false) (Gb O O) O (G8 (hK1 _ _ (G5 (fun K2 hK2=>G5 fun K3 hK3=>G3 (JLh (E3 a) (G6 O O) O (Hp (f:=Ga.av) (xs:=a) J4 O O (fun hm7=>?_) O O O))))))))
 refine JLh (E3 b) (G6 O O) O (Hp (f:=Ga.av) (xs:=b) J4 O O (fun hm9=>?_) O O O)
 refine JLh (BL (decide ((a.length:Int)≠(b.length:Int)))) (H78 O O O) O (G8 (hK3 _ _ (Gn O (fun hb=>?_) (fun hb=>?_))))
 ·
  replace h:=H1 hb h
  refine G5 fun K4 hK4=>G3 (JLh (BL false) (Gb O O) O (G8 (hK4 _ _ (Gx (⟨[BL false],[],G,O,⟨⟨_,O,.conv (.same O)⟩,G⟩,O,congrArg (fun r:Bool=>(BL r:AV)) (Option.some.inj h)⟩)))))
 ·
  replace h:=Hv hb h
  refine Gp (hK2 _ _ (G5 (fun K5 hK5=>G5 fun K6 hK6=>G3 (JLh (G1 0) (Gb O O) O (G8 (hK6 _ _ (Gi ?_)))))))
  obtain⟨b24,kx24,hb24,hkx24,h⟩:=Hy h
  refine Ha (fun i24 (s24:Unit)=>each b24 kx24 (List.drop i24 a) i24 s24=some r) (fun i24 s24=>[(0,E3 a),(1,E3 b),(5,Ek i24)]) (fun i24 s24=>[]) (fun i24=>a.length - i24) 0 () h ⟨⟨.same O,.same O,.same O,G⟩,G,O⟩ ?_
  clear h
  intro i24 s24 hi24 K24 e24
  refine G5 (fun K25 hK25=>G5 fun K26 hK26=>G3 (JLh (Ek i24) (G6 O O) O (JLh (E3 a) (G6 O O) O (Hp (f:=Ga.av) (xs:=a) J4 O O (fun hm13=>?_) O O O))))
  refine JLh (BL (decide ((i24:Int) < (a.length:Int)))) (J2 O O O) O (G8 (hK26 _ _ (Gn O (fun hb=>?_) (fun hb=>?_))))
  ·
   have hk24:=Jd hb
   obtain⟨y24,nx24,hy24,hn24,h⟩:=Hr hi24 hk24
   replace h:=Rq hb24 h
   refine Gp (hK25 _ _ (G5 (fun K27 hK27=>Gi (G5 (fun K28 hK28=>?_)))))
   obtain⟨m30,y29,hm30,hy29,h⟩:=Qk h
   refine Qt [] [0,0,0,0,0,0,0,0,0] [0,0,0,0,0,0,0,0,0] [[]] Jr (by kernel_rfl) rfl rfl ?_
   refine Gm (u:=E3 a) O O ⟨Gs (G6 O O) O,G⟩ (Gm (u:=Ek i24) O O ⟨Gs (G6 O O) O,G⟩ (Gm (u:=.dptr [G1 y24.Load,G1 y24.Discharge]) O O ⟨Gs (Gz (f:=Ga.av) (xs:=a) (y:=y24) O O O J4 hy24 O) O,G⟩ (Gm (u:=.agg [G1 y24.Load,G1 y24.Discharge]) O O ⟨Gs (Gh Jc O O O) O,G⟩ (Gm (u:=E3 b) O O ⟨Gs (G6 O O) O,G⟩ (Gm (u:=Ek i24) O O ⟨Gs (G6 O O) O,G⟩ (Gm (u:=.dptr [G1 y29.Load,G1 y29.Discharge]) O O ⟨Gs (Gz (f:=Ga.av) (xs:=b) (y:=y29) O O O J4 hy29 hm30) O,G⟩ (Gm (u:=.agg [G1 y29.Load,G1 y29.Discharge]) O O ⟨Gs (Gh Jc O O O) O,G⟩ (Gm (u:=BL (!decide (y24=y29))) O O ⟨Gs (Jc1 (vs:=[.int .i64 y24.Load,.int .i64 y24.Discharge]) (us:=[.int .i64 y29.Load,.int .i64 y29.Discharge]) 4 O (tq_84 y24 y29) H59 Hf2 O O O) O,G⟩ (Zu ?_)))))))))
   refine hK28 _ _ (Gn O (fun hb=>?_) (fun hb=>?_))
   ·
    replace h:=H1 hb h
    refine G5 fun K31 hK31=>G3 (JLh (BL false) (Gb O O) O (G8 (hK31 _ _ (Gx (⟨[BL false],[],G,O,⟨⟨_,O,.conv (.same O)⟩,G⟩,O,congrArg (fun r:Bool=>(BL r:AV)) (Option.some.inj h)⟩)))))
   ·
    replace h:=Hv hb h
    refine Gp (hK27 _ _ (G3 (JLh (Ek i24) (G6 O O) O (JLh (G1 ((i24+1:Nat):Int)) (Ht (Hn hk24 hm13) O O O) O (JLh (G1 ((i24+1:Nat):Int)) (Gb O O) O (G8 (e24 _ _ (i24+1) () (app1 hn24 h) (by omega) ⟨⟨.same rfl,.same rfl,.same rfl,G⟩,G,rfl⟩)))))))
  ·
   have h:=app1 hkx24 (Hs hi24 (H9 hb))
   refine Hi (hK5 _ _ (G5 fun K32 hK32=>G3 (JLh (BL true) (Gb O O) O (G8 (hK32 _ _ (Gx (⟨[BL true],[],G,O,⟨⟨_,O,.conv (.same O)⟩,G⟩,O,congrArg (fun r:Bool=>(BL r:AV)) (Option.some.inj h)⟩)))))))
end
end Go.Proofs.YteoeccjboahfgaaGreat
