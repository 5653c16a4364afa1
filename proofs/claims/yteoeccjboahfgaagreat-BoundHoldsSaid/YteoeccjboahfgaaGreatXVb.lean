/-
 Models of functions of the program,and that they return what the models say.
-/
import Derived.Test.YteoeccjboahfgaaGreatXVa
set_option maxRecDepth 100000
set_option linter.unusedVariables false
set_option linter.unusedSimpArgs false
namespace Go.Proofs.YteoeccjboahfgaaGreat
open Go.RowKit
noncomputable section
open XAF
open XVF

def Rw (F:Nat) (s:Hc) (boxes:List Gr) (home:Gu Int Int) (calls:Int):Option (G6a×Int×(Gu Int Int)):=
 need (decide (calls≤9223372036854775807)) <|
 upto (fun i6 (s6:(List (List G7))×(List (List Int))×(Gu Int Slot)) nx6=>
  need (decide (10≤9223372036854775807)) <|
  upto (fun i13 (s13:(List G7)) nx13=>
   each (fun y42 i42 (s42:(List G7)) nx42=>
    jp (fun kj45=>
     bnd (some (Gu.get s6.2.2 y42.ID (Slot.mk 0 0 0))) fun v48=>
     bif ((((Gu.has s6.2.2 y42.ID)&&(decide (v48.Tier=(i13:Int))))&&(decide (y42.Load < (i6:Int))))&&(decide ((i6:Int) < y42.Discharge))) then
     (bnd (Rh s42 (G7.mk y42.ID v48)) fun r51=>
      bnd (G07 s boxes r51) fun r53=>
      bif r53 then
      (kj45 r51)
      else
      (kj45 s42))
     else
     (kj45 s42)) fun(j45:(List G7))=>
    nx42 j45)
   (fun(s42:(List G7))=>
    nx13 s42) boxes 0 s13)
  (fun(s13:(List G7))=>
   each (fun y56 i56 (s56:(List G7)) nx56=>
    jp (fun kj59=>
     bnd (bif (!((decide ((i6:Int) < y56.Load))||(decide (y56.Discharge≤(i6:Int))))) then M_twistlocklaw23_holds s56 y56.ID else some default) fun r63=>
     bif (((decide ((i6:Int) < y56.Load))||(decide (y56.Discharge≤(i6:Int))))||r63) then
     (kj59 s56)
     else
     (loop (fun nx67 (s67:(List G7)×Bool×Int)=>
       bif ((decide (s67.2.2 < (s.Columns.length:Int)))&&(!s67.2.1)) then
       (jp (fun kj70=>
         bnd (Ge9 s y56.Size) fun r72=>
         each (fun y99 i99 (s99:(List G7)×Bool) nx99=>
          bnd (Rh s99.1 (G7.mk y56.ID y99)) fun r105=>
          bnd (some (Gu.get home y56.ID 0)) fun v107=>
          Rn (v107+s67.2.2) fun v108=>
          bnd (Gfd v108 (s.Columns.length:Int)) fun v109=>
          bnd (bif decide (y99.G9=v109) then G07 s boxes r105 else some default) fun r110=>
          bif ((decide (y99.G9=v109))&&r110) then
          (kj70 (r105,true))
          else
          (nx99 (s99.1,s99.2)))
         (fun(s99:(List G7)×Bool)=>
          kj70 (s99.1,s99.2)) r72 0 (s67.1,s67.2.1)) fun(j70:(List G7)×Bool)=>
        Rn (s67.2.2+1) fun v112=>
        nx67 (j70.1,j70.2,v112))
       else
       (bif (!s67.2.1) then
        (some ((G6a.mk [] []),y56.ID,home))
        else
        (kj59 s67.1))) F (s56,false,0))) fun(j59:(List G7))=>
    nx56 j59)
   (fun(s56:(List G7))=>
    each (fun y138 i138 (s138:(Gu Int Slot)) nx138=>
     nx138 (Gu.put s138 y138.Gr y138.Slot))
    (fun(s138:(Gu Int Slot))=>
     need (decide ((s6.1.length+[s56].length)*24≤140737488355328∧s6.1.length+[s56].length≤maxLen)) <|
     nx6 ((s6.1++[s56]),s6.2.1,s138)) s56 0 (Gu.empty:Gu Int Slot)) boxes 0 s13) (10:Int).toNat 0 [])
 (fun(s6:(List (List G7))×(List (List Int))×(Gu Int Slot))=>
  some ((G6a.mk s6.1 s6.2.1),0,home)) calls.toNat 0 ([],[],(Gu.empty:Gu Int Slot))
theorem G78 (F:Nat) (s:Hc) (boxes:List Gr) (home:Gu Int Int) (calls:Int) (r:G6a×Int×(Gu Int Int)) (h:Rw F s boxes home calls=some r):Qq Tryz.prog 12 [.agg (Hc.cs s),E2 boxes,.mp 1017,G1 calls] [(1017,MP 64 (fun n:Int=>Value.int .i64 n) G1 home)] (fun av L'=>av=.tup [.agg [LS 1 (E0) r.1.States,LS 1 (E1) r.1.Water],G1 r.2.1]∧L'=[(1017,MP 64 (fun n:Int=>Value.int .i64 n) G1 r.2.2)]):=by
 unfold Rw at h
 refine Zw [1017] [.cell 8 42,.tmp 9] Tryz.func12 O O (H64 O) ?_
 refine G5 fun K1 hK1=>G3 (JLh (.ptr 1039 0) (Jw (u:=.agg (Hc.cs s)) (cs:=(Hc.cs s)) 1039 O O O O O) O (JLh (.ptr 1040 0) (G0b 1040 [LS 1 (E0) ([]:List (List G7)),LS 1 (E1) ([]:List (List Int))] [.slice none 0 0,.slice none 0 0] Gd5 ⟨.inr ⟨_,O,O⟩,.inr ⟨_,O,O⟩,G⟩ O O) O (JLh (G1 0) (Gb O O) O (G8 (hK1 _ _ ?_)))))
 refine Gq [(1,E2 boxes),(2,.mp 1017),(3,G1 calls),(4,Ee s),(8,.ptr 1040 0)] [(1017,MP 64 (fun n:Int=>Value.int .i64 n) G1 home),(1040,.box 42 [LS 1 (E0) ([]:List (List G7)),LS 1 (E1) ([]:List (List Int))])] 1039 rfl rfl rfl ⟨⟨_,rfl,.map⟩,⟨_,rfl,.boxEq rfl rfl⟩,G⟩ rfl (by repeat' (first | exact .ptr | constructor)) ?_
 refine G5 fun K2 hK2=>G3 (JLh (.ptr 1041 0) (G0b 1041 [.sc (.slice none 0 0),LS 1 (E1) ([]:List (List Int))] [.slice none 0 0,.slice none 0 0] Gd5 ⟨.inl O,.inr ⟨_,O,O⟩,G⟩ O O) O (G6d 1041 0 1049 101 1 O O O (cs':=[OW 1049 1 (E0) ([]:List (List G7)),LS 1 (E1) ([]:List (List Int))]) O (G8 (hK2 _ _ (G5 fun K3 hK3=>G3 (JLh (.mp 1047) (G2b 1047 (fun n:Int=>Value.int .i64 n) Slot.av O O) O (JLh (.mp 1047) (Gb O O) O (G8 (hK3 _ _ (G5 (fun K4 hK4=>G5 fun K5 hK5=>G3 (JLh (G1 0) (Gb O O) O (G8 (hK5 _ _ (Gi ?_)))))))))))))))
 obtain⟨hx6,h⟩:=Hz h
 obtain⟨b6,kx6,hb6,hkx6,h⟩:=H2d h
 refine Ha (fun i6 (s6:(List (List G7))×(List (List Int))×(Gu Int Slot))=>upto b6 kx6 (calls.toNat - i6) i6 s6=some r) (fun i6 s6=>[(1,E2 boxes),(2,.mp 1017),(3,G1 calls),(4,Ee s),(8,.ptr 1040 0),(10,.ptr 1041 0),(11,.mp 1047),(12,Ek i6)]) (fun i6 s6=>[(1017,MP 64 (fun n:Int=>Value.int .i64 n) G1 home),(1049,.spare 101 1 s6.1.length s6.1.length),(1047,MP 100 (fun n:Int=>Value.int .i64 n) Slot.av s6.2.2),(1040,.box 42 [LS 1 (E0) ([]:List (List G7)),LS 1 (E1) ([]:List (List Int))]),(1041,.box 42 [OW 1049 1 (E0) s6.1,LS 1 (E1) s6.2.1])]) (fun i6=>calls.toNat - i6) 0 ([],[],(Gu.empty:Gu Int Slot)) h ⟨(by repeat' constructor),⟨⟨_,rfl,.map⟩,⟨_,rfl,.same⟩,⟨_,rfl,.map⟩,⟨_,rfl,.boxL rfl ⟨.same rfl,.same rfl,G⟩⟩,⟨_,rfl,.boxL rfl ⟨.same rfl,.same rfl,G⟩⟩,G⟩,rfl⟩ ?_
 clear h
 intro i6 s6 hi6 K6 e6
 refine G5 (fun K7 hK7=>G5 fun K8 hK8=>G3 (JLh (Ek i6) (G6 O O) O (JLh (G1 calls) (G6 O O) O (JLh (BL (decide ((i6:Int) < calls))) (J2 O O O) O (G8 (hK8 _ _ (Gn O (fun hb=>?_) (fun hb=>?_))))))))
 ·
  have hk6:=Ge0 hb
  obtain⟨nx6,hn6,h⟩:=Gd3 hi6 hk6
  replace h:=J8a hb6 h
  refine Gp (hK7 _ _ (G5 (fun K9 hK9=>Gi (G5 fun K10 hK10=>G3 (JLh (E0 ([]:List G7)) (Q4 4 O O) O (G8 (hK10 _ _ (G5 (fun K11 hK11=>G5 fun K12 hK12=>G3 (JLh (G1 0) (Gb O O) O (G8 (hK12 _ _ (Gi ?_)))))))))))))
  obtain⟨hx13,h⟩:=Hz h
  obtain⟨b13,kx13,hb13,hkx13,h⟩:=H2d h
  refine Ha (fun i13 (s13:(List G7))=>upto b13 kx13 ((10:Int).toNat - i13) i13 s13=some r) (fun i13 s13=>[(1,E2 boxes),(2,.mp 1017),(3,G1 calls),(4,Ee s),(8,.ptr 1040 0),(10,.ptr 1041 0),(11,.mp 1047),(12,Ek i6),(13,E0 s13),(14,Ek i13)]) (fun i13 s13=>[(1017,MP 64 (fun n:Int=>Value.int .i64 n) G1 home),(1049,.spare 101 1 s6.1.length s6.1.length),(1047,MP 100 (fun n:Int=>Value.int .i64 n) Slot.av s6.2.2),(1040,.box 42 [LS 1 (E0) ([]:List (List G7)),LS 1 (E1) ([]:List (List Int))]),(1041,.box 42 [OW 1049 1 (E0) s6.1,LS 1 (E1) s6.2.1])]) (fun i13=>(10:Int).toNat - i13) 0 [] h ⟨(by repeat' constructor),⟨⟨_,rfl,.map⟩,⟨_,rfl,.same⟩,⟨_,rfl,.map⟩,⟨_,rfl,.boxL rfl ⟨.same rfl,.same rfl,G⟩⟩,⟨_,rfl,.boxL rfl ⟨.same rfl,.same rfl,G⟩⟩,G⟩,rfl⟩ ?_
  clear h
  intro i13 s13 hi13 K13 e13
  refine G5 (fun K14 hK14=>G5 fun K15 hK15=>G3 (JLh (Ek i13) (G6 O O) O (JLh (BL (decide ((i13:Int) < 10))) (J2 O O O) O (G8 (hK15 _ _ (Gn O (fun hb=>?_) (fun hb=>?_)))))))
  ·
   have hk13:=Ge0 hb
   obtain⟨nx13,hn13,h⟩:=Gd3 hi13 hk13
   replace h:=J8a hb13 h
   refine Gp (hK14 _ _ (G5 (fun K16 hK16=>Gi (G5 fun K17 hK17=>G3 (JLh (E2 boxes) (G6 O O) O (Hp (f:=Gr.av) (xs:=boxes) Jg O O (fun hm40=>?_) O O O))))))
   refine JLh (G1 0) (G6 O O) O (G8 (hK17 _ _ (Gi ?_)))
   obtain⟨b42,kx42,hb42,hkx42,h⟩:=Hy h
   refine Ha (fun i42 (s42:(List G7))=>each b42 kx42 (List.drop i42 boxes) i42 s42=some r) (fun i42 s42=>[(1,E2 boxes),(2,.mp 1017),(3,G1 calls),(4,Ee s),(8,.ptr 1040 0),(10,.ptr 1041 0),(11,.mp 1047),(12,Ek i6),(13,E0 s42),(14,Ek i13),(39,E2 boxes),(40,Ek boxes.length),(41,Ek i42)]) (fun i42 s42=>[(1017,MP 64 (fun n:Int=>Value.int .i64 n) G1 home),(1049,.spare 101 1 s6.1.length s6.1.length),(1047,MP 100 (fun n:Int=>Value.int .i64 n) Slot.av s6.2.2),(1040,.box 42 [LS 1 (E0) ([]:List (List G7)),LS 1 (E1) ([]:List (List Int))]),(1041,.box 42 [OW 1049 1 (E0) s6.1,LS 1 (E1) s6.2.1])]) (fun i42=>boxes.length - i42) 0 s13 h ⟨(by repeat' constructor),⟨⟨_,rfl,.map⟩,⟨_,rfl,.same⟩,⟨_,rfl,.map⟩,⟨_,rfl,.boxL rfl ⟨.same rfl,.same rfl,G⟩⟩,⟨_,rfl,.boxL rfl ⟨.same rfl,.same rfl,G⟩⟩,G⟩,rfl⟩ ?_
   clear h
   intro i42 s42 hi42 K42 e42
   refine G5 fun K43 hK43=>G3 (JLh (BL (decide ((i42:Int) < (boxes.length:Int)))) (J2 O O O) O (G8 (hK43 _ _ (G5 (fun K44 hK44=>Gn O (fun hb=>?_) (fun hb=>?_))))))
   ·
    have hk42:=Jd hb
    obtain⟨y42,nx42,hy42,hn42,h⟩:=Hr hi42 hk42
    replace h:=Rq hb42 h
    refine Gp (hK44 _ _ ?_)
    obtain⟨kj45,hkj45,h⟩:=Q7 h
    refine Jm (fun j45:(List G7)=>kj45 j45=some r) (fun j45=>[(1,E2 boxes),(2,.mp 1017),(3,G1 calls),(4,Ee s),(8,.ptr 1040 0),(10,.ptr 1041 0),(11,.mp 1047),(12,Ek i6),(13,E0 j45),(14,Ek i13),(39,E2 boxes),(40,Ek boxes.length),(41,Ek i42)]) (fun j45=>[(1017,MP 64 (fun n:Int=>Value.int .i64 n) G1 home),(1049,.spare 101 1 s6.1.length s6.1.length),(1047,MP 100 (fun n:Int=>Value.int .i64 n) Slot.av s6.2.2),(1040,.box 42 [LS 1 (E0) ([]:List (List G7)),LS 1 (E1) ([]:List (List Int))]),(1041,.box 42 [OW 1049 1 (E0) s6.1,LS 1 (E1) s6.2.1])]) (fun Kj45 ej45=>?_) ?_
    ·
     refine Gi (G5 fun K46 hK46=>G3 (JLh (Eh y42) (Gz (f:=Gr.av) (xs:=boxes) (y:=y42) O O O Jg hy42 O) O (JLh (.agg (Gr.cs y42)) (Gh Z1 O O O) O (JLh (.ptr 1042 0) (Hh 1042 9 Rg O O) O (Hg (u:=.junk) (H5 (u:=.agg (Gr.cs y42)) (ds:=(Gr.cs y42)) Z4 O O O O O O O O) (G8 (hK46 _ _ ?_)))))))
     refine Gq [(1,E2 boxes),(2,.mp 1017),(3,G1 calls),(4,Ee s),(8,.ptr 1040 0),(10,.ptr 1041 0),(11,.mp 1047),(12,Ek i6),(13,E0 s42),(14,Ek i13),(16,Eh y42),(39,E2 boxes),(40,Ek boxes.length),(41,Ek i42)] [(1017,MP 64 (fun n:Int=>Value.int .i64 n) G1 home),(1049,.spare 101 1 s6.1.length s6.1.length),(1047,MP 100 (fun n:Int=>Value.int .i64 n) Slot.av s6.2.2),(1040,.box 42 [LS 1 (E0) ([]:List (List G7)),LS 1 (E1) ([]:List (List Int))]),(1041,.box 42 [OW 1049 1 (E0) s6.1,LS 1 (E1) s6.2.1])] 1042 rfl rfl rfl ⟨⟨_,rfl,.map⟩,⟨_,rfl,.same⟩,⟨_,rfl,.map⟩,⟨_,rfl,.boxEq rfl rfl⟩,⟨_,rfl,.boxEq rfl rfl⟩,G⟩ rfl (by repeat' (first | exact .ptr | constructor)) ?_
     refine G5 fun K47 hK47=>G3 (JLh (.mp 1047) (G6 O O) O (JLh (Eh y42) (Gd Qg O O O) O (JLh (G1 y42.ID) (Gk Gc O O O) O ?_)))
     obtain⟨v48,hv48,h⟩:=Gf h
     refine JLh (.tup [.agg (Slot.cs v48),BL (Gu.has s6.2.2 y42.ID)]) (((Option.some.inj hv48) ▸ Ja6 (av:=Slot.av) (m:=s6.2.2) (a:=y42.ID) (Slot.mk 0 0 0) (.agg #[.int .i64 0,.int .i64 0,.int .u8 0]) O O O O tk_3 J53 tf_zv_103 O)) O (JLh (.tup [.agg (Slot.cs v48),BL (Gu.has s6.2.2 y42.ID)]) (G6 O O) O (JLh (.agg (Slot.cs v48)) (H0 O O O) O (JLh (BL (Gu.has s6.2.2 y42.ID)) (H0 O O O) O (JLh (.ptr 1043 0) (Hh 1043 3 Rb O O) O (Hg (u:=.junk) (H5 (u:=.agg (Slot.cs v48)) (ds:=[G1 v48.G9,G1 v48.Tier,U8 v48.Half]) Rt O O O O O O O O) (JLh (BL (Gu.has s6.2.2 y42.ID)) (Gb O O) O (G8 (hK47 _ _ ?_))))))))
     refine Gq [(1,E2 boxes),(2,.mp 1017),(3,G1 calls),(4,Ee s),(8,.ptr 1040 0),(10,.ptr 1041 0),(11,.mp 1047),(12,Ek i6),(13,E0 s42),(14,Ek i13),(16,Eh y42),(17,Ei v48),(18,BL (Gu.has s6.2.2 y42.ID)),(39,E2 boxes),(40,Ek boxes.length),(41,Ek i42)] [(1017,MP 64 (fun n:Int=>Value.int .i64 n) G1 home),(1049,.spare 101 1 s6.1.length s6.1.length),(1047,MP 100 (fun n:Int=>Value.int .i64 n) Slot.av s6.2.2),(1040,.box 42 [LS 1 (E0) ([]:List (List G7)),LS 1 (E1) ([]:List (List Int))]),(1041,.box 42 [OW 1049 1 (E0) s6.1,LS 1 (E1) s6.2.1])] 1043 rfl rfl rfl ⟨⟨_,rfl,.map⟩,⟨_,rfl,.same⟩,⟨_,rfl,.map⟩,⟨_,rfl,.boxEq rfl rfl⟩,⟨_,rfl,.boxEq rfl rfl⟩,G⟩ rfl (by repeat' (first | exact .ptr | constructor)) ?_
     refine G5 fun K49 hK49=>G3 (JLh (BL (Gu.has s6.2.2 y42.ID)) (G6 O O) O (JLh (BL (Gu.has s6.2.2 y42.ID)) (G6 O O) O (Gg (u:=.dptr [G1 v48.Tier,U8 v48.Half]) [] O O O .sct G (fun hc=>Gd Y9 O O O) ?_)))
     refine Gg (u:=G1 v48.Tier) [(54,.dptr [G1 v48.Tier,U8 v48.Half])] O O O .sct ⟨.all id,G⟩ (fun hc=>Gk Gc O O O) ?_
     refine Gg (u:=Ek i13) [] O O O .sct G (fun hc=>G6 O O) ?_
     refine Gg (u:=BL (decide (v48.Tier=(i13:Int)))) [(55,G1 v48.Tier),(56,Ek i13)] O O O .sct ⟨.all id,.all id,G⟩ (fun hc=>Qh O O O) ?_
     refine JLh (BL ((Gu.has s6.2.2 y42.ID)&&(decide (v48.Tier=(i13:Int))))) (Qc O O O O) O (JLh (BL ((Gu.has s6.2.2 y42.ID)&&(decide (v48.Tier=(i13:Int))))) (G6 O O) O (Gg (u:=.dptr ((Gr.cs y42).drop 5)) [] O O O .sct G (fun hc=>Gd Yq O O O) ?_))
     refine Gg (u:=G1 y42.Load) [(60,.dptr ((Gr.cs y42).drop 5))] O O O .sct ⟨.all id,G⟩ (fun hc=>Gk Gc O O O) ?_
     refine Gg (u:=Ek i6) [] O O O .sct G (fun hc=>G6 O O) ?_
     refine Gg (u:=BL (decide (y42.Load < (i6:Int)))) [(61,G1 y42.Load),(62,Ek i6)] O O O .sct ⟨.all id,.all id,G⟩ (fun hc=>J2 O O O) ?_
     refine JLh (BL (((Gu.has s6.2.2 y42.ID)&&(decide (v48.Tier=(i13:Int))))&&(decide (y42.Load < (i6:Int))))) (Qc O O O O) O (JLh (BL (((Gu.has s6.2.2 y42.ID)&&(decide (v48.Tier=(i13:Int))))&&(decide (y42.Load < (i6:Int))))) (G6 O O) O (Gg (u:=Ek i6) [] O O O .sct G (fun hc=>G6 O O) ?_))
     refine Gg (u:=.dptr ((Gr.cs y42).drop 6)) [] O O O .sct G (fun hc=>Gd Zg O O O) ?_
     refine Gg (u:=G1 y42.Discharge) [(67,.dptr ((Gr.cs y42).drop 6))] O O O .sct ⟨.all id,G⟩ (fun hc=>Gk Gc O O O) ?_
     refine Gg (u:=BL (decide ((i6:Int) < y42.Discharge))) [(66,Ek i6),(68,G1 y42.Discharge)] O O O .sct ⟨.all id,.all id,G⟩ (fun hc=>J2 O O O) ?_
     refine JLh (BL ((((Gu.has s6.2.2 y42.ID)&&(decide (v48.Tier=(i13:Int))))&&(decide (y42.Load < (i6:Int))))&&(decide ((i6:Int) < y42.Discharge)))) (Qc O O O O) O (G8 (hK49 _ _ (Gn O (fun hb=>?_) (fun hb=>?_))))
     ·
      replace h:=H1 hb h
      refine G5 fun K50 hK50=>G3 (JLh (E0 s42) (G6 O O) O (JLh (Eh y42) (Gd Qg O O O) O (JLh (G1 y42.ID) (Gk Gc O O O) O (JLh (.agg (Slot.cs v48)) (Gh Q2 O O O) O (JLh (.agg [G1 y42.ID,G1 v48.G9,G1 v48.Tier,U8 v48.Half]) (Ji (cs:=[G1 y42.ID,G1 v48.G9,G1 v48.Tier,U8 v48.Half]) [(0,1),(1,3)] [G1 0,G1 0,G1 0,U8 0] [.int .i64 0,.int .i64 0,.int .i64 0,.int .u8 0] H9a J15 ⟨.inl O,.inl O,.inl O,.inl O,G⟩ O O) O ?_)))))
      obtain⟨r51,hr51,h⟩:=Gf h
      refine JLh (E0 r51) (Gy (args:=[E0 s42,.agg [G1 y42.ID,G1 v48.G9,G1 v48.Tier,U8 v48.Half]]) O (G75 s42 (G7.mk y42.ID v48) r51 hr51) J6a ⟨O,O,O,O,G⟩) O (JLh (E0 r51) (Gb O O) O (G8 (hK50 _ _ (G5 fun K52 hK52=>G3 (JLh (.agg (Hc.cs s)) (Gh J5 O O O) O (JLh (E2 boxes) (G6 O O) O (JLh (E0 r51) (G6 O O) O ?_)))))))
      obtain⟨r53,hr53,h⟩:=Gf h
      refine JLh (BL r53) (Gy (args:=[.agg (Hc.cs s),E2 boxes,E0 r51]) O (Ge8 s boxes r51 r53 hr53) Hab ⟨O,O,O,O,O,O,G⟩) O (G8 (hK52 _ _ (Gn O (fun hb=>?_) (fun hb=>?_))))
      ·
       replace h:=H1 hb h
       refine G3 (JLh (E0 r51) (G6 O O) O (JLh (E0 r51) (Gb O O) O (G8 (ej45 _ _ r51 h ⟨(by repeat' constructor),⟨⟨_,rfl,.map⟩,⟨_,rfl,.same⟩,⟨_,rfl,.map⟩,⟨_,rfl,.boxL rfl ⟨.same rfl,.same rfl,G⟩⟩,⟨_,rfl,.boxL rfl ⟨.same rfl,.same rfl,G⟩⟩,G⟩,rfl⟩))))
      ·
       replace h:=Hv hb h
       refine Gp (ej45 _ _ s42 h ⟨(by repeat' constructor),⟨⟨_,rfl,.map⟩,⟨_,rfl,.same⟩,⟨_,rfl,.map⟩,⟨_,rfl,.boxL rfl ⟨.same rfl,.same rfl,G⟩⟩,⟨_,rfl,.boxL rfl ⟨.same rfl,.same rfl,G⟩⟩,G⟩,rfl⟩)
     ·
      replace h:=Hv hb h
      refine Gp (ej45 _ _ s42 h ⟨(by repeat' constructor),⟨⟨_,rfl,.map⟩,⟨_,rfl,.same⟩,⟨_,rfl,.map⟩,⟨_,rfl,.boxL rfl ⟨.same rfl,.same rfl,G⟩⟩,⟨_,rfl,.boxL rfl ⟨.same rfl,.same rfl,G⟩⟩,G⟩,rfl⟩)
    ·intro j45 h
     replace h:=app1 hkj45 h
     refine G3 (JLh (G1 ((i42+1:Nat):Int)) (Ht (Hn hk42 hm40) O O O) O (JLh (G1 ((i42+1:Nat):Int)) (G6 O O) O (G8 (e42 _ _ (i42+1) j45 (app1 hn42 h) (by omega) ⟨(by repeat' constructor),⟨⟨_,rfl,.map⟩,⟨_,rfl,.same⟩,⟨_,rfl,.map⟩,⟨_,rfl,.boxL rfl ⟨.same rfl,.same rfl,G⟩⟩,⟨_,rfl,.boxL rfl ⟨.same rfl,.same rfl,G⟩⟩,G⟩,rfl⟩))))
   ·
    have h:=app1 hkx42 (Hs hi42 (H9 hb))
    refine Hi (hK16 _ _ (G3 (JLh (Ek i13) (G6 O O) O (JLh (G1 ((i13+1:Nat):Int)) (Ht (Hn hk13 (G92 hx13)) O O O) O (JLh (G1 ((i13+1:Nat):Int)) (Gb O O) O (G8 (e13 _ _ (i13+1) s42 (app1 hn13 h) (by omega) ⟨(by repeat' constructor),⟨⟨_,rfl,.map⟩,⟨_,rfl,.same⟩,⟨_,rfl,.map⟩,⟨_,rfl,.boxL rfl ⟨.same rfl,.same rfl,G⟩⟩,⟨_,rfl,.boxL rfl ⟨.same rfl,.same rfl,G⟩⟩,G⟩,rfl⟩)))))))
  ·
   have h:=app1 hkx13 (Gd4 hi13 (G24 hb))
   refine Hi (hK11 _ _ (G5 (fun K54 hK54=>G5 fun K55 hK55=>G3 (JLh (E2 boxes) (G6 O O) O (Hp (f:=Gr.av) (xs:=boxes) Jg O O (fun hm84=>?_) O O O)))))
   refine JLh (G1 0) (G6 O O) O (G8 (hK55 _ _ (Gi ?_)))
   obtain⟨b56,kx56,hb56,hkx56,h⟩:=Hy h
   refine Ha (fun i56 (s56:(List G7))=>each b56 kx56 (List.drop i56 boxes) i56 s56=some r) (fun i56 s56=>[(1,E2 boxes),(2,.mp 1017),(3,G1 calls),(4,Ee s),(8,.ptr 1040 0),(10,.ptr 1041 0),(12,Ek i6),(13,E0 s56),(83,E2 boxes),(84,Ek boxes.length),(85,Ek i56)]) (fun i56 s56=>[(1017,MP 64 (fun n:Int=>Value.int .i64 n) G1 home),(1049,.spare 101 1 s6.1.length s6.1.length),(1047,MP 100 (fun n:Int=>Value.int .i64 n) Slot.av s6.2.2),(1040,.box 42 [LS 1 (E0) ([]:List (List G7)),LS 1 (E1) ([]:List (List Int))]),(1041,.box 42 [OW 1049 1 (E0) s6.1,LS 1 (E1) s6.2.1])]) (fun i56=>boxes.length - i56) 0 s13 h ⟨(by repeat' constructor),⟨⟨_,rfl,.map⟩,⟨_,rfl,.same⟩,⟨_,rfl,.map⟩,⟨_,rfl,.boxL rfl ⟨.same rfl,.same rfl,G⟩⟩,⟨_,rfl,.boxL rfl ⟨.same rfl,.same rfl,G⟩⟩,G⟩,rfl⟩ ?_
   clear h
   intro i56 s56 hi56 K56 e56
   refine G5 fun K57 hK57=>G3 (JLh (BL (decide ((i56:Int) < (boxes.length:Int)))) (J2 O O O) O (G8 (hK57 _ _ (G5 (fun K58 hK58=>Gn O (fun hb=>?_) (fun hb=>?_))))))
   ·
    have hk56:=Jd hb
    obtain⟨y56,nx56,hy56,hn56,h⟩:=Hr hi56 hk56
    replace h:=Rq hb56 h
    refine Gp (hK58 _ _ ?_)
    obtain⟨kj59,hkj59,h⟩:=Q7 h
    refine Jm (fun j59:(List G7)=>kj59 j59=some r) (fun j59=>[(1,E2 boxes),(2,.mp 1017),(3,G1 calls),(4,Ee s),(8,.ptr 1040 0),(10,.ptr 1041 0),(12,Ek i6),(13,E0 j59),(83,E2 boxes),(84,Ek boxes.length),(85,Ek i56)]) (fun j59=>[(1017,MP 64 (fun n:Int=>Value.int .i64 n) G1 home),(1049,.spare 101 1 s6.1.length s6.1.length),(1047,MP 100 (fun n:Int=>Value.int .i64 n) Slot.av s6.2.2),(1040,.box 42 [LS 1 (E0) ([]:List (List G7)),LS 1 (E1) ([]:List (List Int))]),(1041,.box 42 [OW 1049 1 (E0) s6.1,LS 1 (E1) s6.2.1])]) (fun Kj59 ej59=>?_) ?_
    ·
     refine Gi (G5 fun K60 hK60=>G3 (JLh (Eh y56) (Gz (f:=Gr.av) (xs:=boxes) (y:=y56) O O O Jg hy56 O) O (JLh (.agg (Gr.cs y56)) (Gh Z1 O O O) O (JLh (.ptr 1044 0) (Hh 1044 9 Rg O O) O (Hg (u:=.junk) (H5 (u:=.agg (Gr.cs y56)) (ds:=(Gr.cs y56)) Z4 O O O O O O O O) (G8 (hK60 _ _ ?_)))))))
     refine Gq [(1,E2 boxes),(2,.mp 1017),(3,G1 calls),(4,Ee s),(8,.ptr 1040 0),(10,.ptr 1041 0),(12,Ek i6),(13,E0 s56),(21,Eh y56),(83,E2 boxes),(84,Ek boxes.length),(85,Ek i56)] [(1017,MP 64 (fun n:Int=>Value.int .i64 n) G1 home),(1049,.spare 101 1 s6.1.length s6.1.length),(1047,MP 100 (fun n:Int=>Value.int .i64 n) Slot.av s6.2.2),(1040,.box 42 [LS 1 (E0) ([]:List (List G7)),LS 1 (E1) ([]:List (List Int))]),(1041,.box 42 [OW 1049 1 (E0) s6.1,LS 1 (E1) s6.2.1])] 1044 rfl rfl rfl ⟨⟨_,rfl,.map⟩,⟨_,rfl,.same⟩,⟨_,rfl,.map⟩,⟨_,rfl,.boxEq rfl rfl⟩,⟨_,rfl,.boxEq rfl rfl⟩,G⟩ rfl (by repeat' (first | exact .ptr | constructor)) ?_
     refine G5 (fun K61 hK61=>G5 fun K62 hK62=>G3 (JLh (.dptr ((Gr.cs y56).drop 5)) (Gd Yq O O O) O (JLh (G1 y56.Load) (Gk Gc O O O) O (JLh (Ek i6) (G6 O O) O (JLh (BL (decide ((i6:Int) < y56.Load))) (Zj O O O) O (JLh (BL (decide ((i6:Int) < y56.Load))) (G6 O O) O (Gg (u:=Ek i6) [] O O O .scf G (fun hc=>G6 O O) ?_)))))))
     refine Gg (u:=.dptr ((Gr.cs y56).drop 6)) [] O O O .scf G (fun hc=>Gd Zg O O O) ?_
     refine Gg (u:=G1 y56.Discharge) [(95,.dptr ((Gr.cs y56).drop 6))] O O O .scf ⟨.all id,G⟩ (fun hc=>Gk Gc O O O) ?_
     refine Gg (u:=BL (decide (y56.Discharge≤(i6:Int)))) [(94,Ek i6),(96,G1 y56.Discharge)] O O O .scf ⟨.all id,.all id,G⟩ (fun hc=>G4b O O O) ?_
     refine JLh (BL ((decide ((i6:Int) < y56.Load))||(decide (y56.Discharge≤(i6:Int))))) (G2a O O O O) O (JLh (BL ((decide ((i6:Int) < y56.Load))||(decide (y56.Discharge≤(i6:Int))))) (G6 O O) O (Gg (u:=E0 s56) [] O O O .scf G (fun hc=>G6 O O) ?_))
     refine Gg (u:=Eh y56) [] O O O .scf G (fun hc=>Gd Qg O O O) ?_
     refine Gg (u:=G1 y56.ID) [(101,Eh y56)] O O O .scf ⟨.all id,G⟩ (fun hc=>Gk Gc O O O) ?_
     obtain⟨r63,hr63,h⟩:=Gf h
     refine Gg (u:=BL r63) [(100,E0 s56),(102,G1 y56.ID)] O O O .scf ⟨.all id,.all id,G⟩ (fun hc=>Gy (args:=[E0 s56,G1 y56.ID]) O (H14 s56 y56.ID r63 (H1 hc hr63)) Q0d ⟨O,O,O,O,G⟩) ?_
     refine JLh (BL (((decide ((i6:Int) < y56.Load))||(decide (y56.Discharge≤(i6:Int))))||r63)) (G2a O O O O) O (G8 (hK62 _ _ (Gn O (fun hb=>?_) (fun hb=>?_))))
     ·
      replace h:=H1 hb h
      refine Hi (ej59 _ _ s56 h ⟨(by repeat' constructor),⟨⟨_,rfl,.map⟩,⟨_,rfl,.same⟩,⟨_,rfl,.map⟩,⟨_,rfl,.boxL rfl ⟨.same rfl,.same rfl,G⟩⟩,⟨_,rfl,.boxL rfl ⟨.same rfl,.same rfl,G⟩⟩,G⟩,rfl⟩)
     ·
      replace h:=Hv hb h
      refine Gp (hK61 _ _ (G5 fun K64 hK64=>G3 (JLh (BL false) (Gb O O) O (G8 (hK64 _ _ (G5 (fun K65 hK65=>G5 fun K66 hK66=>G3 (JLh (G1 0) (Gb O O) O (G8 (hK66 _ _ (Gi ?_)))))))))))
      obtain⟨b67,hb67,h⟩:=G26 h
      refine Ha (fun i67 (s67:(List G7)×Bool×Int)=>loop b67 i67 s67=some r) (fun i67 s67=>[(1,E2 boxes),(2,.mp 1017),(3,G1 calls),(4,Ee s),(8,.ptr 1040 0),(10,.ptr 1041 0),(12,Ek i6),(13,E0 s67.1),(21,Eh y56),(22,BL s67.2.1),(23,G1 s67.2.2),(83,E2 boxes),(84,Ek boxes.length),(85,Ek i56)]) (fun i67 s67=>[(1017,MP 64 (fun n:Int=>Value.int .i64 n) G1 home),(1049,.spare 101 1 s6.1.length s6.1.length),(1047,MP 100 (fun n:Int=>Value.int .i64 n) Slot.av s6.2.2),(1040,.box 42 [LS 1 (E0) ([]:List (List G7)),LS 1 (E1) ([]:List (List Int))]),(1041,.box 42 [OW 1049 1 (E0) s6.1,LS 1 (E1) s6.2.1])]) (fun i67=>i67) F (s56,false,0) h ⟨(by repeat' constructor),⟨⟨_,rfl,.map⟩,⟨_,rfl,.same⟩,⟨_,rfl,.map⟩,⟨_,rfl,.boxL rfl ⟨.same rfl,.same rfl,G⟩⟩,⟨_,rfl,.boxL rfl ⟨.same rfl,.same rfl,G⟩⟩,G⟩,rfl⟩ ?_
      clear h
      intro i67 s67 hi67 K67 e67
      obtain⟨m67,nx67,hm_67,hn67,h⟩:=Zn hi67
      replace h:=Hbc hb67 h
      refine G5 (fun K68 hK68=>G5 fun K69 hK69=>G3 (JLh (G1 s67.2.2) (G6 O O) O (JLh (Ee s) (Gd J0 O O O) O (JLh (E5 s.Columns) (Gk J8 O O O) O (Hp (f:=G9.av) (xs:=s.Columns) J3 O O (fun hm108=>?_) O O O)))))
      refine JLh (BL (decide (s67.2.2 < (s.Columns.length:Int)))) (J2 O O O) O (JLh (BL (decide (s67.2.2 < (s.Columns.length:Int)))) (G6 O O) O (Gg (u:=BL s67.2.1) [] O O O .sct G (fun hc=>G6 O O) ?_))
      refine Gg (u:=BL (!s67.2.1)) [(111,BL s67.2.1)] O O O .sct ⟨.all id,G⟩ (fun hc=>Zy (b:=s67.2.1) O O) ?_
      refine JLh (BL ((decide (s67.2.2 < (s.Columns.length:Int)))&&(!s67.2.1))) (Qc O O O O) O (G8 (hK69 _ _ (Gn O (fun hb=>?_) (fun hb=>?_))))
      ·
       replace h:=H1 hb h
       refine Gp (hK68 _ _ ?_)
       obtain⟨kj70,hkj70,h⟩:=Q7 h
       refine Jm (fun j70:(List G7)×Bool=>kj70 j70=some r) (fun j70=>[(1,E2 boxes),(2,.mp 1017),(3,G1 calls),(4,Ee s),(8,.ptr 1040 0),(10,.ptr 1041 0),(12,Ek i6),(13,E0 j70.1),(21,Eh y56),(22,BL j70.2),(23,G1 s67.2.2),(83,E2 boxes),(84,Ek boxes.length),(85,Ek i56)]) (fun j70=>[(1017,MP 64 (fun n:Int=>Value.int .i64 n) G1 home),(1049,.spare 101 1 s6.1.length s6.1.length),(1047,MP 100 (fun n:Int=>Value.int .i64 n) Slot.av s6.2.2),(1040,.box 42 [LS 1 (E0) ([]:List (List G7)),LS 1 (E1) ([]:List (List Int))]),(1041,.box 42 [OW 1049 1 (E0) s6.1,LS 1 (E1) s6.2.1])]) (fun Kj70 ej70=>?_) ?_
       ·
        refine Gi (G5 fun K71 hK71=>G3 (JLh (.agg (Hc.cs s)) (Gh J5 O O O) O (JLh (.dptr ((Gr.cs y56).drop 2)) (Gd G0d O O O) O (JLh (U8 y56.Size) (Gk J7 O O O) O ?_))))
        obtain⟨r72,hr72,h⟩:=Gf h
        refine JLh (E6 r72) (Gy (args:=[.agg (Hc.cs s),U8 y56.Size]) O (M_slot_All_w s y56.Size r72 hr72) Q0c ⟨O,O,O,O,G⟩) O (Hp (f:=Slot.av) (xs:=r72) Y7 O O (fun hm120=>?_) O O O)
        refine JLh (G1 0) (G6 O O) O (G8 (hK71 _ _ (Gi ?_)))
        obtain⟨b99,kx99,hb99,hkx99,h⟩:=Hy h
        refine Ha (fun i99 (s99:(List G7)×Bool)=>each b99 kx99 (List.drop i99 r72) i99 s99=some r) (fun i99 s99=>[(1,E2 boxes),(2,.mp 1017),(3,G1 calls),(4,Ee s),(8,.ptr 1040 0),(10,.ptr 1041 0),(12,Ek i6),(13,E0 s99.1),(21,Eh y56),(22,BL s99.2),(23,G1 s67.2.2),(83,E2 boxes),(84,Ek boxes.length),(85,Ek i56),(119,E6 r72),(120,Ek r72.length),(121,Ek i99)]) (fun i99 s99=>[(1017,MP 64 (fun n:Int=>Value.int .i64 n) G1 home),(1049,.spare 101 1 s6.1.length s6.1.length),(1047,MP 100 (fun n:Int=>Value.int .i64 n) Slot.av s6.2.2),(1040,.box 42 [LS 1 (E0) ([]:List (List G7)),LS 1 (E1) ([]:List (List Int))]),(1041,.box 42 [OW 1049 1 (E0) s6.1,LS 1 (E1) s6.2.1])]) (fun i99=>r72.length - i99) 0 (s67.1,s67.2.1) h ⟨(by repeat' constructor),⟨⟨_,rfl,.map⟩,⟨_,rfl,.same⟩,⟨_,rfl,.map⟩,⟨_,rfl,.boxL rfl ⟨.same rfl,.same rfl,G⟩⟩,⟨_,rfl,.boxL rfl ⟨.same rfl,.same rfl,G⟩⟩,G⟩,rfl⟩ ?_
        clear h
        intro i99 s99 hi99 K99 e99
        refine G5 fun K100 hK100=>G3 (JLh (BL (decide ((i99:Int) < (r72.length:Int)))) (J2 O O O) O (G8 (hK100 _ _ (G5 (fun K101 hK101=>Gn O (fun hb=>?_) (fun hb=>?_))))))
        ·
         have hk99:=Jd hb
         obtain⟨y99,nx99,hy99,hn99,h⟩:=Hr hi99 hk99
         replace h:=Rq hb99 h
         refine Gp (hK101 _ _ (G5 (fun K102 hK102=>Gi (G5 fun K103 hK103=>G3 (JLh (Ei y99) (Gz (f:=Slot.av) (xs:=r72) (y:=y99) O O O Y7 hy99 O) O (JLh (.agg (Slot.cs y99)) (Gh Q2 O O O) O (JLh (.ptr 1045 0) (Hh 1045 3 Rb O O) O (Hg (u:=.junk) (H5 (u:=.agg (Slot.cs y99)) (ds:=[G1 y99.G9,G1 y99.Tier,U8 y99.Half]) Rt O O O O O O O O) (G8 (hK103 _ _ ?_))))))))))
         refine Gq [(1,E2 boxes),(2,.mp 1017),(3,G1 calls),(4,Ee s),(8,.ptr 1040 0),(10,.ptr 1041 0),(12,Ek i6),(13,E0 s99.1),(21,Eh y56),(22,BL s99.2),(23,G1 s67.2.2),(25,Ei y99),(83,E2 boxes),(84,Ek boxes.length),(85,Ek i56),(119,E6 r72),(120,Ek r72.length),(121,Ek i99)] [(1017,MP 64 (fun n:Int=>Value.int .i64 n) G1 home),(1049,.spare 101 1 s6.1.length s6.1.length),(1047,MP 100 (fun n:Int=>Value.int .i64 n) Slot.av s6.2.2),(1040,.box 42 [LS 1 (E0) ([]:List (List G7)),LS 1 (E1) ([]:List (List Int))]),(1041,.box 42 [OW 1049 1 (E0) s6.1,LS 1 (E1) s6.2.1])] 1045 rfl rfl rfl ⟨⟨_,rfl,.map⟩,⟨_,rfl,.same⟩,⟨_,rfl,.map⟩,⟨_,rfl,.boxEq rfl rfl⟩,⟨_,rfl,.boxEq rfl rfl⟩,G⟩ rfl (by repeat' (first | exact .ptr | constructor)) ?_
         refine G5 fun K104 hK104=>G3 (JLh (E0 s99.1) (G6 O O) O (JLh (Eh y56) (Gd Qg O O O) O (JLh (G1 y56.ID) (Gk Gc O O O) O (JLh (.agg (Slot.cs y99)) (Gh Q2 O O O) O (JLh (.agg [G1 y56.ID,G1 y99.G9,G1 y99.Tier,U8 y99.Half]) (Ji (cs:=[G1 y56.ID,G1 y99.G9,G1 y99.Tier,U8 y99.Half]) [(0,1),(1,3)] [G1 0,G1 0,G1 0,U8 0] [.int .i64 0,.int .i64 0,.int .i64 0,.int .u8 0] H9a J15 ⟨.inl O,.inl O,.inl O,.inl O,G⟩ O O) O ?_)))))
         obtain⟨r105,hr105,h⟩:=Gf h
         refine JLh (E0 r105) (Gy (args:=[E0 s99.1,.agg [G1 y56.ID,G1 y99.G9,G1 y99.Tier,U8 y99.Half]]) O (G75 s99.1 (G7.mk y56.ID y99) r105 hr105) J6a ⟨O,O,O,O,G⟩) O (JLh (E0 r105) (Gb O O) O (G8 (hK104 _ _ (G5 (fun K106 hK106=>?_)))))
         refine Re (l':=[(1,E2 boxes),(2,.mp 1017),(3,G1 calls),(4,Ee s),(8,.ptr 1040 0),(10,.ptr 1041 0),(12,Ek i6),(13,E0 s99.1),(21,Eh y56),(22,BL s99.2),(23,G1 s67.2.2),(25,Ei y99),(26,E0 r105),(83,E2 boxes),(84,Ek boxes.length),(85,Ek i56),(119,E6 r72),(120,Ek r72.length),(121,Ek i99)]) (L':=[(1017,MP 64 (fun n:Int=>Value.int .i64 n) G1 home),(1049,.spare 101 1 s6.1.length s6.1.length),(1047,MP 100 (fun n:Int=>Value.int .i64 n) Slot.av s6.2.2),(1040,.box 42 [LS 1 (E0) ([]:List (List G7)),LS 1 (E1) ([]:List (List Int))]),(1041,.box 42 [OW 1049 1 (E0) s6.1,LS 1 (E1) s6.2.1])]) ⟨(by repeat' constructor),⟨⟨_,rfl,.map⟩,⟨_,rfl,.same⟩,⟨_,rfl,.map⟩,⟨_,rfl,.boxL rfl ⟨.same rfl,.same rfl,G⟩⟩,⟨_,rfl,.boxL rfl ⟨.same rfl,.same rfl,G⟩⟩,G⟩,rfl⟩ ?_
         obtain⟨v107,hv107,h⟩:=Gf h
         obtain⟨v108,hv108,h⟩:=Hb h
         obtain⟨v109,hv109,h⟩:=Gf h
         obtain⟨r110,hr110,h⟩:=Gf h
         refine Qt [] [0,0,0,0,0,0,0,0,0,0,0,0,0,0,0,0,0,0,0] [0,0,0,0,0,0,0,0,0,0,0,0,0,0,0,0,0,0,0] [[(1017,MP 64 (fun n:Int=>Value.int .i64 n) G1 home),(1049,.spare 101 1 s6.1.length s6.1.length),(1047,MP 100 (fun n:Int=>Value.int .i64 n) Slot.av s6.2.2),(1040,.box 42 [LS 1 (E0) ([]:List (List G7)),LS 1 (E1) ([]:List (List Int))]),(1041,.box 42 [OW 1049 1 (E0) s6.1,LS 1 (E1) s6.2.1])]] Jr (by kernel_rfl) rfl rfl ?_
         refine Gm (u:=Ei y99) O O ⟨Gs (Gd Q6 O O O) O,G⟩ (Gm (u:=G1 y99.G9) O O ⟨Gs (Gk Gc O O O) O,G⟩ (Gm (u:=.mp 1017) O O ⟨Gs (G6 O O) O,G⟩ (Gm (u:=Eh y56) O O ⟨Gs (Gd Qg O O O) O,G⟩ (Gm (u:=G1 y56.ID) O O ⟨Gs (Gk Gc O O O) O,G⟩ (Gm (u:=G1 v107) O O ⟨Gs (((Option.some.inj hv107) ▸ G9d (av:=G1) (m:=home) (a:=y56.ID) 0 (.int .i64 0) O O O O tk_3 Jb8 G9f O)) O,G⟩ (Gm (u:=G1 s67.2.2) O O ⟨Gs (G6 O O) O,G⟩ (Gm (u:=G1 v108) O O ⟨Gs (Ht hv108 O O O) O,G⟩ (Gm (u:=Ee s) O O ⟨Gs (Gd J0 O O O) O,G⟩ (Gm (u:=E5 s.Columns) O O ⟨Gs (Gk J8 O O O) O,G⟩ (Gm (u:=Ek s.Columns.length) O O ⟨Gs (Zd (f:=G9.av) (xs:=s.Columns) J3 O O) O,G⟩ (Gm (u:=G1 v109) O O ⟨Gs (H77 (Qo hv109).1 (Qo hv109).2 O O O) O,G⟩ (Gm (u:=BL (decide (y99.G9=v109))) O O ⟨Gs (Qh O O O) O,G⟩ (Gm (u:=BL (decide (y99.G9=v109))) O O ⟨Gs (G6 O O) O,G⟩ ?_)))))))))))))
         refine Gm (u:=.opt (decide (y99.G9=v109)) (.agg (Hc.cs s))) O O ⟨He [] O O O .sct G (fun hc=>Gh J5 O O O) O,G⟩ (Gm (u:=.opt (decide (y99.G9=v109)) (E2 boxes)) O O ⟨He [] O O O .sct G (fun hc=>G6 O O) O,G⟩ (Gm (u:=.opt (decide (y99.G9=v109)) (E0 r105)) O O ⟨He [] O O O .sct G (fun hc=>G6 O O) O,G⟩ (Gm (u:=.opt (decide (y99.G9=v109)) (BL r110)) O O ⟨He [(145,.agg (Hc.cs s)),(146,E2 boxes),(147,E0 r105)] O O O .sct ⟨.all id,.all id,.all id,G⟩ (fun hc=>Gy (args:=[.agg (Hc.cs s),E2 boxes,E0 r105]) O (Ge8 s boxes r105 r110 (H1 hc hr110)) Hab ⟨O,O,O,O,O,O,G⟩) O,G⟩ (Gm (u:=BL ((decide (y99.G9=v109))&&r110)) O O ⟨Gs (Qc O O O O) O,G⟩ (Zu ?_)))))
         refine hK106 _ _ (Gn O (fun hb=>?_) (fun hb=>?_))
         ·
          replace h:=H1 hb h
          refine G5 fun K111 hK111=>G3 (JLh (E0 r105) (G6 O O) O (JLh (E0 r105) (Gb O O) O (JLh (BL true) (Gb O O) O (G8 (hK111 _ _ (Hi (ej70 _ _ (r105,true) h ⟨(by repeat' constructor),⟨⟨_,rfl,.map⟩,⟨_,rfl,.same⟩,⟨_,rfl,.map⟩,⟨_,rfl,.boxL rfl ⟨.same rfl,.same rfl,G⟩⟩,⟨_,rfl,.boxL rfl ⟨.same rfl,.same rfl,G⟩⟩,G⟩,rfl⟩)))))))
         ·
          replace h:=Hv hb h
          refine Gp (hK102 _ _ (G3 (JLh (G1 ((i99+1:Nat):Int)) (Ht (Hn hk99 hm120) O O O) O (JLh (G1 ((i99+1:Nat):Int)) (G6 O O) O (G8 (e99 _ _ (i99+1) (s99.1,s99.2) (app1 hn99 h) (by omega) ⟨(by repeat' constructor),⟨⟨_,rfl,.map⟩,⟨_,rfl,.same⟩,⟨_,rfl,.map⟩,⟨_,rfl,.boxL rfl ⟨.same rfl,.same rfl,G⟩⟩,⟨_,rfl,.boxL rfl ⟨.same rfl,.same rfl,G⟩⟩,G⟩,rfl⟩))))))
        ·
         have h:=app1 hkx99 (Hs hi99 (H9 hb))
         refine Hi (ej70 _ _ (s99.1,s99.2) h ⟨(by repeat' constructor),⟨⟨_,rfl,.map⟩,⟨_,rfl,.same⟩,⟨_,rfl,.map⟩,⟨_,rfl,.boxL rfl ⟨.same rfl,.same rfl,G⟩⟩,⟨_,rfl,.boxL rfl ⟨.same rfl,.same rfl,G⟩⟩,G⟩,rfl⟩)
       ·intro j70 h
        replace h:=app1 hkj70 h
        refine G3 (JLh (G1 s67.2.2) (G6 O O) O ?_)
        obtain⟨v112,hv112,h⟩:=Hb h
        refine JLh (G1 v112) (Ht hv112 O O O) O (JLh (G1 v112) (Gb O O) O (G8 (e67 _ _ m67 (j70.1,j70.2,v112) (app1 hn67 h) (by omega) ⟨(by repeat' constructor),⟨⟨_,rfl,.map⟩,⟨_,rfl,.same⟩,⟨_,rfl,.map⟩,⟨_,rfl,.boxL rfl ⟨.same rfl,.same rfl,G⟩⟩,⟨_,rfl,.boxL rfl ⟨.same rfl,.same rfl,G⟩⟩,G⟩,rfl⟩)))
      ·
       replace h:=Hv hb h
       refine Hi (hK65 _ _ (G5 fun K113 hK113=>G3 (JLh (BL s67.2.1) (G6 O O) O (JLh (BL (!s67.2.1)) (Zy (b:=s67.2.1) O O) O (G8 (hK113 _ _ (Gn O (fun hb=>?_) (fun hb=>?_))))))))
       ·
        replace h:=H1 hb h
        refine G5 (fun K114 hK114=>Re (l':=[(8,.ptr 1040 0),(21,Eh y56)]) (L':=[(1017,MP 64 (fun n:Int=>Value.int .i64 n) G1 home),(1049,.spare 101 1 s6.1.length s6.1.length),(1047,MP 100 (fun n:Int=>Value.int .i64 n) Slot.av s6.2.2),(1040,.box 42 [LS 1 (E0) ([]:List (List G7)),LS 1 (E1) ([]:List (List Int))]),(1041,.box 42 [OW 1049 1 (E0) s6.1,LS 1 (E1) s6.2.1])]) ⟨⟨.same O,.same O,G⟩,⟨⟨_,O,.map⟩,⟨_,O,.same⟩,⟨_,O,.map⟩,⟨_,O,.boxL O ⟨.same O,.same O,G⟩⟩,⟨_,O,.boxL O ⟨.same O,.same O,G⟩⟩,G⟩,O⟩ ?_)
        refine Qt [3] [0,0,0,0,1] [0,1,1,0,1] [[(1017,MP 64 (fun n:Int=>Value.int .i64 n) G1 home),(1049,.spare 101 1 s6.1.length s6.1.length),(1047,MP 100 (fun n:Int=>Value.int .i64 n) Slot.av s6.2.2),(1040,.box 42 [LS 1 (E0) ([]:List (List G7)),LS 1 (E1) ([]:List (List Int))]),(1041,.box 42 [OW 1049 1 (E0) s6.1,LS 1 (E1) s6.2.1])],((1040,.box 42 [LS 1 (E0) ([]:List (List G7)),LS 1 (E1) ([]:List (List Int))])::[(1017,MP 64 (fun n:Int=>Value.int .i64 n) G1 home),(1049,.spare 101 1 s6.1.length s6.1.length),(1047,MP 100 (fun n:Int=>Value.int .i64 n) Slot.av s6.2.2),(1040,.box 42 [LS 1 (E0) ([]:List (List G7)),LS 1 (E1) ([]:List (List Int))]),(1041,.box 42 [OW 1049 1 (E0) s6.1,LS 1 (E1) s6.2.1])])] Jr (by kernel_rfl) rfl rfl ?_
        refine Gm (u:=.agg [LS 1 (E0) ([]:List (List G7)),LS 1 (E1) ([]:List (List Int))]) O O ⟨Gs (Ji (cs:=[LS 1 (E0) ([]:List (List G7)),LS 1 (E1) ([]:List (List Int))]) [(0,1),(1,1)] [LS 1 (E0) ([]:List (List G7)),LS 1 (E1) ([]:List (List Int))] [.slice none 0 0,.slice none 0 0] Hcb Gd5 ⟨.inr ⟨_,O,O⟩,.inr ⟨_,O,O⟩,G⟩ O O) O,G⟩ (Gm (u:=Eh y56) O O ⟨Gs (Gd Qg O O O) O,Gs (Gd Qg O O O) O,G⟩ (Gm (u:=G1 y56.ID) O O ⟨Gs (Gk Gc O O O) O,Gs (Gk Gc O O O) O,G⟩ (J3e (u:=.junk) O O O O (Gs (H5 (u:=.agg [LS 1 (E0) ([]:List (List G7)),LS 1 (E1) ([]:List (List Int))]) (ds:=[LS 1 (E0) ([]:List (List G7)),LS 1 (E1) ([]:List (List Int))]) G93 O O O O O O O O) O) (Gm (u:=G1 y56.ID) O O ⟨Gs (Gb O O) O,G⟩ (Zu ?_)))))
        refine hK114 _ _ (Re (l':=[(8,.ptr 1040 0),(9,G1 y56.ID)]) (L':=[(1017,MP 64 (fun n:Int=>Value.int .i64 n) G1 home),(1047,MP 100 (fun n:Int=>Value.int .i64 n) Slot.av s6.2.2),(1040,.box 42 [LS 1 (E0) ([]:List (List G7)),LS 1 (E1) ([]:List (List Int))]),(1041,.box 42 [LS 1 (E0) s6.1,LS 1 (E1) s6.2.1])]) ⟨⟨.same O,.same O,G⟩,⟨⟨_,O,.map⟩,⟨_,O,.map⟩,⟨_,O,.boxL O ⟨.same O,.same O,G⟩⟩,⟨_,O,.boxL O ⟨.list O,.same O,G⟩⟩,G⟩,O⟩ ?_)
        refine Gq [(8,.ptr 1040 0),(9,G1 y56.ID)] [(1017,MP 64 (fun n:Int=>Value.int .i64 n) G1 home),(1047,MP 100 (fun n:Int=>Value.int .i64 n) Slot.av s6.2.2),(1040,.box 42 [LS 1 (E0) ([]:List (List G7)),LS 1 (E1) ([]:List (List Int))])] 1041 rfl rfl rfl ⟨⟨_,rfl,.map⟩,⟨_,rfl,.map⟩,⟨_,rfl,.boxEq rfl rfl⟩,G⟩ rfl (by exact⟨.conv (.same rfl),.conv (.same rfl),G⟩) (Gx ?_)
        obtain rfl:=Option.some.inj h
        exact⟨[.agg [LS 1 (E0) ([]:List (List G7)),LS 1 (E1) ([]:List (List Int))],G1 y56.ID],[(1017,MP 64 (fun n:Int=>Value.int .i64 n) G1 home)],⟨⟨_,O,.map⟩,G⟩,O,⟨⟨_,⟨_,_,_,_,O,O,O,.inl ⟨G36,O⟩⟩,.conv (.same O)⟩,⟨_,O,.conv (.same O)⟩,G⟩,O,O⟩
       ·
        replace h:=Hv hb h
        refine Gp (ej59 _ _ s67.1 h ⟨(by repeat' constructor),⟨⟨_,rfl,.map⟩,⟨_,rfl,.same⟩,⟨_,rfl,.map⟩,⟨_,rfl,.boxL rfl ⟨.same rfl,.same rfl,G⟩⟩,⟨_,rfl,.boxL rfl ⟨.same rfl,.same rfl,G⟩⟩,G⟩,rfl⟩)
    ·intro j59 h
     replace h:=app1 hkj59 h
     refine G3 (JLh (G1 ((i56+1:Nat):Int)) (Ht (Hn hk56 hm84) O O O) O (JLh (G1 ((i56+1:Nat):Int)) (G6 O O) O (G8 (e56 _ _ (i56+1) j59 (app1 hn56 h) (by omega) ⟨(by repeat' constructor),⟨⟨_,rfl,.map⟩,⟨_,rfl,.same⟩,⟨_,rfl,.map⟩,⟨_,rfl,.boxL rfl ⟨.same rfl,.same rfl,G⟩⟩,⟨_,rfl,.boxL rfl ⟨.same rfl,.same rfl,G⟩⟩,G⟩,rfl⟩))))
   ·
    have h:=app1 hkx56 (Hs hi56 (H9 hb))
    refine Hi (hK54 _ _ (G5 fun K115 hK115=>G3 (JLh (.mp 1048) (G2b 1048 (fun n:Int=>Value.int .i64 n) Slot.av O O) O (JLh (.mp 1048) (Gb O O) O ?_))))
    refine JL_rename 1047 1048 (MP 100 (fun n:Int=>Value.int .i64 n) Slot.av (Gu.empty:Gu Int Slot)) [(1,E2 boxes),(2,.mp 1017),(3,G1 calls),(4,Ee s),(8,.ptr 1040 0),(10,.ptr 1041 0),(12,Ek i6),(13,E0 s56),(83,E2 boxes),(84,Ek boxes.length),(85,Ek i56),(86,BL (decide ((i56:Int) < (boxes.length:Int)))),(158,.mp 1048),(11,.mp 1048)] [(1,E2 boxes),(2,.mp 1017),(3,G1 calls),(4,Ee s),(8,.ptr 1040 0),(10,.ptr 1041 0),(12,Ek i6),(13,E0 s56),(83,E2 boxes),(84,Ek boxes.length),(85,Ek i56),(86,BL (decide ((i56:Int) < (boxes.length:Int)))),(158,.mp 1047),(11,.mp 1047)] [(1017,MP 64 (fun n:Int=>Value.int .i64 n) G1 home),(1049,.spare 101 1 s6.1.length s6.1.length),(1040,.box 42 [LS 1 (E0) ([]:List (List G7)),LS 1 (E1) ([]:List (List Int))]),(1041,.box 42 [OW 1049 1 (E0) s6.1,LS 1 (E1) s6.2.1])] ⟨_,_,rfl⟩ ⟨(by repeat' constructor),⟨⟨_,rfl,.map⟩,⟨_,rfl,.map⟩,⟨_,rfl,.same⟩,⟨_,rfl,.boxL rfl ⟨.same rfl,.same rfl,G⟩⟩,⟨_,rfl,.boxL rfl ⟨.same rfl,.same rfl,G⟩⟩,G⟩,rfl⟩ rfl rfl rfl rfl rfl ⟨⟨_,rfl,.map⟩,⟨_,rfl,.same⟩,⟨_,rfl,.boxEq rfl rfl⟩,⟨_,rfl,.boxEq rfl rfl⟩,G⟩ ⟨.inr ⟨rfl,rfl⟩,⟨.inr ⟨rfl,rfl⟩,⟨.inr ⟨rfl,rfl⟩,⟨.inr ⟨rfl,rfl⟩,⟨.inr ⟨rfl,rfl⟩,⟨.inr ⟨rfl,rfl⟩,⟨.inr ⟨rfl,rfl⟩,⟨.inr ⟨rfl,rfl⟩,⟨.inr ⟨rfl,rfl⟩,⟨.inr ⟨rfl,rfl⟩,⟨.inr ⟨rfl,rfl⟩,⟨.inr ⟨rfl,rfl⟩,⟨.inl ⟨rfl,rfl⟩,⟨.inl ⟨rfl,rfl⟩,G⟩⟩⟩⟩⟩⟩⟩⟩⟩⟩⟩⟩⟩⟩ ?_
    refine G8 (hK115 _ _ (G5 (fun K116 hK116=>G5 fun K117 hK117=>G3 (JLh (E0 s56) (G6 O O) O (Hp (f:=G7.av) (xs:=s56) Hw O O (fun hm160=>?_) O O O)))))
    refine JLh (G1 0) (G6 O O) O (G8 (hK117 _ _ (Gi ?_)))
    obtain⟨b138,kx138,hb138,hkx138,h⟩:=Hy h
    refine Ha (fun i138 (s138:(Gu Int Slot))=>each b138 kx138 (List.drop i138 s56) i138 s138=some r) (fun i138 s138=>[(1,E2 boxes),(2,.mp 1017),(3,G1 calls),(4,Ee s),(8,.ptr 1040 0),(10,.ptr 1041 0),(11,.mp 1047),(12,Ek i6),(13,E0 s56),(159,E0 s56),(160,Ek s56.length),(161,Ek i138)]) (fun i138 s138=>[(1047,MP 100 (fun n:Int=>Value.int .i64 n) Slot.av s138),(1017,MP 64 (fun n:Int=>Value.int .i64 n) G1 home),(1049,.spare 101 1 s6.1.length s6.1.length),(1040,.box 42 [LS 1 (E0) ([]:List (List G7)),LS 1 (E1) ([]:List (List Int))]),(1041,.box 42 [OW 1049 1 (E0) s6.1,LS 1 (E1) s6.2.1])]) (fun i138=>s56.length - i138) 0 (Gu.empty:Gu Int Slot) h ⟨(by repeat' constructor),⟨⟨_,rfl,.map⟩,⟨_,rfl,.map⟩,⟨_,rfl,.same⟩,⟨_,rfl,.boxL rfl ⟨.same rfl,.same rfl,G⟩⟩,⟨_,rfl,.boxL rfl ⟨.same rfl,.same rfl,G⟩⟩,G⟩,rfl⟩ ?_
    clear h
    intro i138 s138 hi138 K138 e138
    refine G5 fun K139 hK139=>G3 (JLh (BL (decide ((i138:Int) < (s56.length:Int)))) (J2 O O O) O (G8 (hK139 _ _ (G5 (fun K140 hK140=>Gn O (fun hb=>?_) (fun hb=>?_))))))
    ·
     have hk138:=Jd hb
     obtain⟨y138,nx138,hy138,hn138,h⟩:=Hr hi138 hk138
     replace h:=Rq hb138 h
     refine Gp (hK140 _ _ (G5 (fun K141 hK141=>Gi (G5 fun K142 hK142=>G3 (JLh (Ef y138) (Gz (f:=G7.av) (xs:=s56) (y:=y138) O O O Hw hy138 O) O (JLh (.agg (G7.cs y138)) (Gh R6 O O O) O (JLh (.ptr 1046 0) (Hh 1046 4 Qp O O) O (Hg (u:=.junk) (H5 (u:=.agg (G7.cs y138)) (ds:=[G1 y138.Gr,G1 y138.Slot.G9,G1 y138.Slot.Tier,U8 y138.Slot.Half]) Yj O O O O O O O O) (G8 (hK142 _ _ ?_))))))))))
     refine Gq [(1,E2 boxes),(2,.mp 1017),(3,G1 calls),(4,Ee s),(8,.ptr 1040 0),(10,.ptr 1041 0),(11,.mp 1047),(12,Ek i6),(13,E0 s56),(28,Ef y138),(159,E0 s56),(160,Ek s56.length),(161,Ek i138)] [(1047,MP 100 (fun n:Int=>Value.int .i64 n) Slot.av s138),(1017,MP 64 (fun n:Int=>Value.int .i64 n) G1 home),(1049,.spare 101 1 s6.1.length s6.1.length),(1040,.box 42 [LS 1 (E0) ([]:List (List G7)),LS 1 (E1) ([]:List (List Int))]),(1041,.box 42 [OW 1049 1 (E0) s6.1,LS 1 (E1) s6.2.1])] 1046 rfl rfl rfl ⟨⟨_,rfl,.map⟩,⟨_,rfl,.map⟩,⟨_,rfl,.same⟩,⟨_,rfl,.boxEq rfl rfl⟩,⟨_,rfl,.boxEq rfl rfl⟩,G⟩ rfl (by repeat' (first | exact .ptr | constructor)) ?_
     refine G3 (JLh (.mp 1047) (G6 O O) O (JLh (Ef y138) (Gd Jb O O O) O (JLh (G1 y138.Gr) (Gk Gc O O O) O (JLh (Ei y138.Slot) (Gd Qr O O O) O (JLh (.agg (Slot.cs y138.Slot)) (Gh Q2 O O O) O (Hg (u:=.junk) (G90 (m:=s138) (a:=y138.Gr) (v:=y138.Slot) O O O O O O tk_3 J53) (G8 (hK141 _ _ (G3 (JLh (G1 ((i138+1:Nat):Int)) (Ht (Hn hk138 hm160) O O O) O (JLh (G1 ((i138+1:Nat):Int)) (G6 O O) O (G8 (e138 _ _ (i138+1) (Gu.put s138 y138.Gr y138.Slot) (app1 hn138 h) (by omega) ⟨(by repeat' constructor),⟨⟨_,rfl,.map⟩,⟨_,rfl,.map⟩,⟨_,rfl,.same⟩,⟨_,rfl,.boxL rfl ⟨.same rfl,.same rfl,G⟩⟩,⟨_,rfl,.boxL rfl ⟨.same rfl,.same rfl,G⟩⟩,G⟩,rfl⟩)))))))))))))
    ·
     have h:=app1 hkx138 (Hs hi138 (H9 hb))
     refine Hi (hK116 _ _ (G3 (JLh (.ptr 1041 0) (Jf G50 O O) O (JLh (OW 1049 1 (E0) s6.1) (Jv G05 O O O O) O (JLh (E0 s56) (G6 O O) O (JLh (LS 1 (E0) [s56]) (Hf (xs:=[E0 s56]) O ⟨O,O,G⟩ Qa G79 O O O O) O ?_))))))
     obtain⟨ha143,h⟩:=Hz h
     refine JLh (OW 1049 1 (E0) (s6.1++[s56])) (Q5 (f:=(E0)) (xs:=s6.1) (ys:=[s56]) O O O O Qa J1a ha143 (fun _=>O) (.inl O) O) O (JLh (.ptr 1041 0) (Jf G50 O O) O (Hg (u:=.junk) (H5 (u:=OW 1049 1 (E0) (s6.1++[s56])) (ds:=[OW 1049 1 (E0) (s6.1++[s56]),LS 1 (E1) s6.2.1]) Ha6 O O O O O O O O) (G8 (hK9 _ _ (G3 (JLh (Ek i6) (G6 O O) O (JLh (G1 ((i6+1:Nat):Int)) (Ht (Hn hk6 (G92 hx6)) O O O) O (JLh (G1 ((i6+1:Nat):Int)) (Gb O O) O (G8 ?_)))))))))
     exact e6 _ _ (i6+1) ((s6.1++[s56]),s6.2.1,s138) (app1 hn6 h) (by omega) ⟨(by repeat' constructor),⟨⟨_,rfl,.map⟩,⟨_,rfl,.same⟩,⟨_,rfl,.map⟩,⟨_,rfl,.boxL rfl ⟨.same rfl,.same rfl,G⟩⟩,⟨_,rfl,.boxL rfl ⟨.same rfl,.same rfl,G⟩⟩,G⟩,rfl⟩
 ·
  have h:=app1 hkx6 (Gd4 hi6 (G24 hb))
  refine Hi (hK4 _ _ (G5 fun K144 hK144=>G3 (JLh (.agg [OW 1049 1 (E0) s6.1,LS 1 (E1) s6.2.1]) (G9e G36 O O O O) O (Hg (u:=.junk) (H5 (u:=.agg [OW 1049 1 (E0) s6.1,LS 1 (E1) s6.2.1]) (ds:=[OW 1049 1 (E0) s6.1,LS 1 (E1) s6.2.1]) G93 O O O O O O O O) (JLh (G1 0) (Gb O O) O (G8 (hK144 _ _ (Gx ?_))))))))
  obtain rfl:=Option.some.inj h
  exact⟨[.agg [LS 1 (E0) s6.1,LS 1 (E1) s6.2.1],G1 0],[(1017,MP 64 (fun n:Int=>Value.int .i64 n) G1 home)],⟨⟨_,O,.map⟩,G⟩,O,⟨⟨_,⟨_,_,_,_,O,O,O,.inl ⟨G36,O⟩⟩,.agg ⟨.list O,.same O,G⟩⟩,⟨_,O,.conv (.same O)⟩,G⟩,O,O⟩

def Rx (F:Nat) (s:Hc) (l:List Hk) (calls:Int) (most:Int):Option ((List Gr)×G6a):=
 bnd (Ga8 (min (l.length:Int) most) l.length) fun m6=>
 each (fun y119 i119 (s119:(List Gr)×(Gu Int Int)) nx119=>
  Rn (5*((i119+1:Nat):Int)) fun v125=>
  Rn (y119.Kilos) fun v126=>
  Rn (100*v126) fun v127=>
  Rn (1000+v127) fun v128=>
  Rn (y119.Load) fun v129=>
  Rn (calls - 1) fun v130=>
  bnd (Gfd v129 v130) fun v131=>
  Rn (v131+1) fun v133=>
  Rn (y119.Stay) fun v134=>
  Rn (calls - 1) fun v135=>
  Rn (v135 - v131) fun v136=>
  bnd (Gfd v134 v136) fun v137=>
  Rn (v133+v137) fun v138=>
  jp (fun kj139=>
   bif y119.Small then
   (kj139 (20,false))
   else
   (kj139 (40,y119.High))) fun(j139:Int×Bool)=>
  Rn (y119.G9) fun v142=>
  bnd (Gfd v142 (s.Columns.length:Int)) fun v143=>
  need (decide ((s119.1.length+[(Gr.mk v125 ByteArray.empty j139.1 j139.2 v128 v131 v138 0 false)].length)*64≤140737488355328∧s119.1.length+[(Gr.mk v125 ByteArray.empty j139.1 j139.2 v128 v131 v138 0 false)].length≤maxLen)) <|
  nx119 ((s119.1++[(Gr.mk v125 ByteArray.empty j139.1 j139.2 v128 v131 v138 0 false)]),(Gu.put s119.2 v125 v143)))
 (fun(s119:(List Gr)×(Gu Int Int))=>
  Rn ((s119.1.length:Int)+1) fun v147=>
  need (decide (v147≤9223372036854775807)) <|
  upto (fun i148 (s148:(List Gr)×(Gu Int Int)) nx148=>
   bnd (Rw F s s148.1 s148.2 calls) fun r153=>
   bif decide (r153.2.1=0) then
   (some (s148.1,r153.1))
   else
   (each (fun y174 i174 (s174:(List Gr)) nx174=>
     jp (fun kj177=>
      bif decide (y174.ID≠r153.2.1) then
      (need (decide ((s174.length+[y174].length)*64≤140737488355328∧s174.length+[y174].length≤maxLen)) <|
       kj177 (s174++[y174]))
      else
      (kj177 s174)) fun(j177:(List Gr))=>
     nx174 j177)
    (fun(s174:(List Gr))=>
     nx148 (s174,r153.2.2)) s148.1 0 []))
  (fun(s148:(List Gr)×(Gu Int Int))=>
   bnd (H4f calls) fun m182=>
   need (decide (24*m182≤281474976710656∧m182≤maxLen∧m182*1≤16777216)) <|
   some ([],(G6a.mk (List.replicate m182 ([]:List G7)) []))) v147.toNat 0 (s119.1,s119.2)) (l.take m6) 0 ([],(Gu.empty:Gu Int Int))
theorem Gef (F:Nat) (s:Hc) (l:List Hk) (calls:Int) (most:Int) (r:(List Gr)×G6a) (h:Rx F s l calls most=some r):Pure Tryz.prog 5 [.agg (Hc.cs s),Ec l,G1 calls,G1 most] (·=.tup [E2 r.1,.agg [LS 1 (E0) r.2.States,LS 1 (E1) r.2.Water]]):=by
 unfold Rx at h
 refine H4 [.tmp 8,.cell 9 42] Tryz.func5 O O ?_
 refine G5 fun K1 hK1=>G3 (JLh (.ptr 1009 0) (Jw (u:=.agg (Hc.cs s)) (cs:=(Hc.cs s)) 1009 O O O O O) O (JLh (E2 ([]:List Gr)) (Q4 9 O O) O (JLh (.ptr 1010 0) (G0b 1010 [LS 1 (E0) ([]:List (List G7)),LS 1 (E1) ([]:List (List Int))] [.slice none 0 0,.slice none 0 0] Gd5 ⟨.inr ⟨_,O,O⟩,.inr ⟨_,O,O⟩,G⟩ O O) O (G8 (hK1 _ _ ?_)))))
 refine Gq [(1,Ec l),(2,G1 calls),(3,G1 most),(4,Ee s),(9,.ptr 1010 0)] [(1010,.box 42 [LS 1 (E0) ([]:List (List G7)),LS 1 (E1) ([]:List (List Int))])] 1009 rfl rfl rfl ⟨⟨_,rfl,.boxEq rfl rfl⟩,G⟩ rfl (by repeat' (first | exact .ptr | constructor)) (G5 fun K2 hK2=>G3 (JLh (OW 1011 9 Gr.av ([]:List Gr)) (Zv 1011 68 9 O O O) O (G8 (hK2 _ _ ?_))))
 refine G5 fun K3 hK3=>G3 (JLh (.mp 1017) (G2b 1017 (fun n:Int=>Value.int .i64 n) G1 O O) O (JLh (.mp 1017) (Gb O O) O (G8 (hK3 _ _ (G5 (fun K4 hK4=>G5 fun K5 hK5=>G3 (JLh (Ec l) (G6 O O) O (JLh (Ec l) (G6 O O) O (Hp (f:=Hk.av) (xs:=l) Gf9 O O (fun hm23=>?_) O O O)))))))))
 refine JLh (G1 most) (G6 O O) O (JLh (G1 (min (l.length:Int) most)) (Ja5 O O O) O ?_)
 obtain⟨m6,hm6,h⟩:=Gf h
 refine JLh (Ec (l.take m6)) (H4c (f:=Hk.av) (xs:=l) O O O Gf9 (Yo hm6)) O (Hp (f:=Hk.av) (xs:=(l.take m6)) Gf9 O O (fun hm27=>?_) O O O)
 refine JLh (G1 0) (G6 O O) O (G8 (hK5 _ _ (Gi ?_)))
 obtain⟨b119,kx119,hb119,hkx119,h⟩:=Hy h
 refine Ha (fun i119 (s119:(List Gr)×(Gu Int Int))=>each b119 kx119 (List.drop i119 (l.take m6)) i119 s119=some r) (fun i119 s119=>[(2,G1 calls),(4,Ee s),(9,.ptr 1010 0),(10,OW 1011 9 Gr.av s119.1),(11,.mp 1017),(26,Ec (l.take m6)),(27,G1 ((l.take m6).length:Int)),(28,Ek i119)]) (fun i119 s119=>[(1011,.spare 68 9 s119.1.length s119.1.length),(1017,MP 64 (fun n:Int=>Value.int .i64 n) G1 s119.2),(1010,.box 42 [LS 1 (E0) ([]:List (List G7)),LS 1 (E1) ([]:List (List Int))])]) (fun i119=>(l.take m6).length - i119) 0 ([],(Gu.empty:Gu Int Int)) h ⟨(by repeat' constructor),⟨⟨_,rfl,.same⟩,⟨_,rfl,.map⟩,⟨_,rfl,.boxL rfl ⟨.same rfl,.same rfl,G⟩⟩,G⟩,rfl⟩ ?_
 clear h
 intro i119 s119 hi119 K119 e119
 refine G5 fun K120 hK120=>G3 (JLh (BL (decide ((i119:Int) < ((l.take m6).length:Int)))) (J2 O O O) O (G8 (hK120 _ _ (G5 (fun K121 hK121=>Gn O (fun hb=>?_) (fun hb=>?_))))))
 ·
  have hk119:=Jd hb
  obtain⟨y119,nx119,hy119,hn119,h⟩:=Hr hi119 hk119
  replace h:=Rq hb119 h
  refine Gp (hK121 _ _ (G5 (fun K122 hK122=>Gi (G5 fun K123 hK123=>G3 (JLh (Ek i119) (G6 O O) O (JLh (.dptr (Hk.cs y119)) (Gz (f:=Hk.av) (xs:=(l.take m6)) (y:=y119) O O O Gf9 hy119 O) O (JLh (.agg (Hk.cs y119)) (Gh tf_agg_66 O O O) O (JLh (.ptr 1012 0) (Hh 1012 6 Jc6 O O) O (JLh (Ek i119) (Gb O O) O (Hg (u:=.junk) (H5 (u:=.agg (Hk.cs y119)) (ds:=[U8 y119.G9,U8 y119.Kilos,U8 y119.Load,U8 y119.Stay,BL y119.Small,BL y119.High]) Je0 O O O O O O O O) (G8 (hK123 _ _ ?_))))))))))))
  refine Gq [(2,G1 calls),(4,Ee s),(9,.ptr 1010 0),(10,OW 1011 9 Gr.av s119.1),(11,.mp 1017),(12,Ek i119),(13,.dptr (Hk.cs y119)),(26,Ec (l.take m6)),(27,G1 ((l.take m6).length:Int)),(28,Ek i119)] [(1011,.spare 68 9 s119.1.length s119.1.length),(1017,MP 64 (fun n:Int=>Value.int .i64 n) G1 s119.2),(1010,.box 42 [LS 1 (E0) ([]:List (List G7)),LS 1 (E1) ([]:List (List Int))])] 1012 rfl rfl rfl ⟨⟨_,rfl,.same⟩,⟨_,rfl,.map⟩,⟨_,rfl,.boxEq rfl rfl⟩,G⟩ rfl (by repeat' (first | exact .ptr | constructor)) ?_
  refine G5 (fun K124 hK124=>?_)
  refine Re (l':=[(2,G1 calls),(4,Ee s),(9,.ptr 1010 0),(10,OW 1011 9 Gr.av s119.1),(11,.mp 1017),(12,Ek i119),(13,.dptr (Hk.cs y119)),(26,Ec (l.take m6)),(27,G1 ((l.take m6).length:Int)),(28,Ek i119)]) (L':=[(1011,.spare 68 9 s119.1.length s119.1.length),(1017,MP 64 (fun n:Int=>Value.int .i64 n) G1 s119.2),(1010,.box 42 [LS 1 (E0) ([]:List (List G7)),LS 1 (E1) ([]:List (List Int))])]) ⟨(by repeat' constructor),⟨⟨_,rfl,.same⟩,⟨_,rfl,.map⟩,⟨_,rfl,.boxL rfl ⟨.same rfl,.same rfl,G⟩⟩,G⟩,rfl⟩ ?_
  obtain⟨v125,hv125,h⟩:=Hb h
  obtain⟨v126,hv126,h⟩:=Hb h
  obtain⟨v127,hv127,h⟩:=Hb h
  obtain⟨v128,hv128,h⟩:=Hb h
  obtain⟨v129,hv129,h⟩:=Hb h
  obtain⟨v130,hv130,h⟩:=Hb h
  obtain⟨v131,hv131,h⟩:=Gf h
  refine Qt [17,18] [0,0,0,0,0,0,0,0,0,0,0,0,0,0,0,0,0,0,0] [1,1,1,1,1,1,1,1,1,1,1,1,1,1,1,1,1,0,0] [[(1011,.spare 68 9 s119.1.length s119.1.length),(1017,MP 64 (fun n:Int=>Value.int .i64 n) G1 s119.2),(1010,.box 42 [LS 1 (E0) ([]:List (List G7)),LS 1 (E1) ([]:List (List Int))])],((1013,.box 68 [.junk,.junk,.junk,.junk,.junk,.junk,.junk,.junk,.junk])::[(1011,.spare 68 9 s119.1.length s119.1.length),(1017,MP 64 (fun n:Int=>Value.int .i64 n) G1 s119.2),(1010,.box 42 [LS 1 (E0) ([]:List (List G7)),LS 1 (E1) ([]:List (List Int))])]),((1013,.box 68 [G1 v125,ST ByteArray.empty,U8 40,BL y119.High,G1 v128,G1 v131,G1 0,U8 0,BL false])::((1013,.box 68 [.junk,.junk,.junk,.junk,.junk,.junk,.junk,.junk,.junk])::[(1011,.spare 68 9 s119.1.length s119.1.length),(1017,MP 64 (fun n:Int=>Value.int .i64 n) G1 s119.2),(1010,.box 42 [LS 1 (E0) ([]:List (List G7)),LS 1 (E1) ([]:List (List Int))])]))] Jr (by kernel_rfl) rfl rfl ?_
  refine Gm (u:=Ek i119) O O ⟨Gs (G6 O O) O,Gs (G6 O O) O,G⟩ (Gm (u:=G1 ((i119+1:Nat):Int)) O O ⟨Gs (Ht (Hn hk119 hm27) O O O) O,Gs (Ht (Hn hk119 hm27) O O O) O,G⟩ (Gm (u:=G1 v125) O O ⟨Gs (G31 hv125 O O O) O,Gs (G31 hv125 O O O) O,G⟩ (Gm (u:=.dptr [BL y119.High]) O O ⟨Gs (Gd H9b O O O) O,Gs (Gd H9b O O O) O,G⟩ (Gm (u:=BL y119.High) O O ⟨Gs (Gk Ru O O O) O,Gs (Gk Ru O O O) O,G⟩ (Gm (u:=.dptr ((Hk.cs y119).drop 1)) O O ⟨Gs (Gd H9d O O O) O,Gs (Gd H9d O O O) O,G⟩ (Gm (u:=U8 y119.Kilos) O O ⟨Gs (Gk J7 O O O) O,Gs (Gk J7 O O O) O,G⟩ (Gm (u:=G1 v126) O O ⟨Gs (G15 Yu G3b hv126 O O) O,Gs (G15 Yu G3b hv126 O O) O,G⟩ (Gm (u:=G1 v127) O O ⟨Gs (G31 hv127 O O O) O,Gs (G31 hv127 O O O) O,G⟩ (Gm (u:=G1 v128) O O ⟨Gs (Ht hv128 O O O) O,Gs (Ht hv128 O O O) O,G⟩ (Gm (u:=.dptr ((Hk.cs y119).drop 2)) O O ⟨Gs (Gd H9c O O O) O,Gs (Gd H9c O O O) O,G⟩ (Gm (u:=U8 y119.Load) O O ⟨Gs (Gk J7 O O O) O,Gs (Gk J7 O O O) O,G⟩ (Gm (u:=G1 v129) O O ⟨Gs (G15 Yu G3b hv129 O O) O,Gs (G15 Yu G3b hv129 O O) O,G⟩ (Gm (u:=G1 calls) O O ⟨Gs (G6 O O) O,Gs (G6 O O) O,G⟩ ?_)))))))))))))
  refine Gm (u:=G1 v130) O O ⟨Gs (G18 hv130 O O O) O,Gs (G18 hv130 O O O) O,G⟩ (Gm (u:=G1 v131) O O ⟨Gs (H77 (Qo hv131).1 (Qo hv131).2 O O O) O,Gs (H77 (Qo hv131).1 (Qo hv131).2 O O O) O,G⟩ (Gm (u:=.agg [G1 v125,ST ByteArray.empty,U8 40,BL y119.High,G1 v128,G1 v131,G1 0,U8 0,BL false]) O O ⟨Gs (Ji (cs:=[G1 v125,ST ByteArray.empty,U8 40,BL y119.High,G1 v128,G1 v131,G1 0,U8 0,BL false]) [(0,1),(1,1),(2,1),(3,1),(4,1),(5,1),(6,1),(7,1),(8,1)] [G1 0,ST ByteArray.empty,U8 0,BL false,G1 0,G1 0,G1 0,U8 0,BL false] [.int .i64 0,.string ByteArray.empty,.int .u8 0,.bool false,.int .i64 0,.int .i64 0,.int .i64 0,.int .u8 0,.bool false] Za G0c ⟨.inl O,.inl O,.inl O,.inl O,.inl O,.inl O,.inl O,.inl O,.inl O,G⟩ O O) O,Gs (Ji (cs:=[G1 v125,ST ByteArray.empty,U8 40,BL y119.High,G1 v128,G1 v131,G1 0,U8 0,BL false]) [(0,1),(1,1),(2,1),(3,1),(4,1),(5,1),(6,1),(7,1),(8,1)] [G1 0,ST ByteArray.empty,U8 0,BL false,G1 0,G1 0,G1 0,U8 0,BL false] [.int .i64 0,.string ByteArray.empty,.int .u8 0,.bool false,.int .i64 0,.int .i64 0,.int .i64 0,.int .u8 0,.bool false] Za G0c ⟨.inl O,.inl O,.inl O,.inl O,.inl O,.inl O,.inl O,.inl O,.inl O,G⟩ O O) O,G⟩ (D_w (u:=.ptr 1013 0) O O O O (Gs (Hh 1013 9 Rg O O) O) (J3e (u:=.junk) O O O O (Gs (H5 (u:=.agg [G1 v125,ST ByteArray.empty,U8 40,BL y119.High,G1 v128,G1 v131,G1 0,U8 0,BL false]) (ds:=[G1 v125,ST ByteArray.empty,U8 40,BL y119.High,G1 v128,G1 v131,G1 0,U8 0,BL false]) Z4 O O O O O O O O) O) (Zu ?_)))))
  refine hK124 _ _ (G5 (fun K132 hK132=>?_))
  refine Re (l':=[(2,G1 calls),(4,Ee s),(9,.ptr 1010 0),(10,OW 1011 9 Gr.av s119.1),(11,.mp 1017),(13,.dptr (Hk.cs y119)),(14,.ptr 1013 0),(26,Ec (l.take m6)),(27,G1 ((l.take m6).length:Int)),(28,Ek i119)]) (L':=[(1011,.spare 68 9 s119.1.length s119.1.length),(1017,MP 64 (fun n:Int=>Value.int .i64 n) G1 s119.2),(1010,.box 42 [LS 1 (E0) ([]:List (List G7)),LS 1 (E1) ([]:List (List Int))]),(1013,.box 68 [G1 v125,ST ByteArray.empty,U8 40,BL y119.High,G1 v128,G1 v131,G1 0,U8 0,BL false])]) ⟨(by repeat' constructor),⟨⟨_,rfl,.same⟩,⟨_,rfl,.map⟩,⟨_,rfl,.boxL rfl ⟨.same rfl,.same rfl,G⟩⟩,⟨_,rfl,.boxL rfl (by repeat' constructor)⟩,G⟩,rfl⟩ ?_
  obtain⟨v133,hv133,h⟩:=Hb h
  obtain⟨v134,hv134,h⟩:=Hb h
  obtain⟨v135,hv135,h⟩:=Hb h
  obtain⟨v136,hv136,h⟩:=Hb h
  obtain⟨v137,hv137,h⟩:=Gf h
  obtain⟨v138,hv138,h⟩:=Hb h
  refine Qt [14] [0,0,0,0,0,0,0,0,0,0,0,0,0,0,0] [0,0,0,0,0,0,0,0,0,0,0,0,0,0,0] [[(1011,.spare 68 9 s119.1.length s119.1.length),(1017,MP 64 (fun n:Int=>Value.int .i64 n) G1 s119.2),(1010,.box 42 [LS 1 (E0) ([]:List (List G7)),LS 1 (E1) ([]:List (List Int))]),(1013,.box 68 [G1 v125,ST ByteArray.empty,U8 40,BL y119.High,G1 v128,G1 v131,G1 0,U8 0,BL false])],((1013,.box 68 [G1 v125,ST ByteArray.empty,U8 40,BL y119.High,G1 v128,G1 v131,G1 v138,U8 0,BL false])::[(1011,.spare 68 9 s119.1.length s119.1.length),(1017,MP 64 (fun n:Int=>Value.int .i64 n) G1 s119.2),(1010,.box 42 [LS 1 (E0) ([]:List (List G7)),LS 1 (E1) ([]:List (List Int))]),(1013,.box 68 [G1 v125,ST ByteArray.empty,U8 40,BL y119.High,G1 v128,G1 v131,G1 0,U8 0,BL false])])] Jr (by kernel_rfl) rfl rfl ?_
  refine Gm (u:=.ptr 1013 5) O O ⟨Gs (Jf Yq O O) O,G⟩ (Gm (u:=G1 v131) O O ⟨Gs (Jv Gc O O O O) O,G⟩ (Gm (u:=G1 v133) O O ⟨Gs (Ht hv133 O O O) O,G⟩ (Gm (u:=.dptr ((Hk.cs y119).drop 3)) O O ⟨Gs (Gd Jaf O O O) O,G⟩ (Gm (u:=U8 y119.Stay) O O ⟨Gs (Gk J7 O O O) O,G⟩ (Gm (u:=G1 v134) O O ⟨Gs (G15 Yu G3b hv134 O O) O,G⟩ (Gm (u:=G1 calls) O O ⟨Gs (G6 O O) O,G⟩ (Gm (u:=G1 v135) O O ⟨Gs (G18 hv135 O O O) O,G⟩ (Gm (u:=.ptr 1013 5) O O ⟨Gs (Jf Yq O O) O,G⟩ (Gm (u:=G1 v131) O O ⟨Gs (Jv Gc O O O O) O,G⟩ (Gm (u:=G1 v136) O O ⟨Gs (G18 hv136 O O O) O,G⟩ (Gm (u:=G1 v137) O O ⟨Gs (H77 (Qo hv137).1 (Qo hv137).2 O O O) O,G⟩ (Gm (u:=G1 v138) O O ⟨Gs (Ht hv138 O O O) O,G⟩ (Gm (u:=.ptr 1013 6) O O ⟨Gs (Jf Zg O O) O,G⟩ ?_)))))))))))))
  refine J3e (u:=.junk) O O O O (Gs (H5 (u:=G1 v138) (ds:=[G1 v125,ST ByteArray.empty,U8 40,BL y119.High,G1 v128,G1 v131,G1 v138,U8 0,BL false]) Qv O O O O O O O O) O) (Zu (hK132 _ _ ?_))
  obtain⟨kj139,hkj139,h⟩:=Q7 h
  refine Jm (fun j139:Int×Bool=>kj139 j139=some r) (fun j139=>[(2,G1 calls),(4,Ee s),(9,.ptr 1010 0),(10,OW 1011 9 Gr.av s119.1),(11,.mp 1017),(13,.dptr (Hk.cs y119)),(14,.ptr 1013 0),(26,Ec (l.take m6)),(27,G1 ((l.take m6).length:Int)),(28,Ek i119)]) (fun j139=>[(1011,.spare 68 9 s119.1.length s119.1.length),(1017,MP 64 (fun n:Int=>Value.int .i64 n) G1 s119.2),(1010,.box 42 [LS 1 (E0) ([]:List (List G7)),LS 1 (E1) ([]:List (List Int))]),(1013,.box 68 [G1 v125,ST ByteArray.empty,U8 j139.1,BL j139.2,G1 v128,G1 v131,G1 v138,U8 0,BL false])]) (fun Kj139 ej139=>?_) ?_
  ·
   refine G5 fun K140 hK140=>G3 (JLh (.dptr [BL y119.Small,BL y119.High]) (Gd Jae O O O) O (JLh (BL y119.Small) (Gk Ru O O O) O (G8 (hK140 _ _ (Gn O (fun hb=>?_) (fun hb=>?_))))))
   ·
    replace h:=H1 hb h
    refine G3 (JLh (.ptr 1013 2) (Jf G0d O O) O (Hg (u:=.junk) (H5 (u:=U8 20) (ds:=[G1 v125,ST ByteArray.empty,U8 20,BL y119.High,G1 v128,G1 v131,G1 v138,U8 0,BL false]) tf_size_5 O O O O O O O O) (JLh (.ptr 1013 3) (Jf H11 O O) O (Hg (u:=.junk) (H5 (u:=BL false) (ds:=[G1 v125,ST ByteArray.empty,U8 20,BL false,G1 v128,G1 v131,G1 v138,U8 0,BL false]) tf_size_4 O O O O O O O O) (G8 (ej139 _ _ (20,false) h ⟨(by repeat' constructor),⟨⟨_,rfl,.same⟩,⟨_,rfl,.map⟩,⟨_,rfl,.boxL rfl ⟨.same rfl,.same rfl,G⟩⟩,⟨_,rfl,.boxL rfl (by repeat' constructor)⟩,G⟩,rfl⟩))))))
   ·
    replace h:=Hv hb h
    refine Gp (ej139 _ _ (40,y119.High) h ⟨(by repeat' constructor),⟨⟨_,rfl,.same⟩,⟨_,rfl,.map⟩,⟨_,rfl,.boxL rfl ⟨.same rfl,.same rfl,G⟩⟩,⟨_,rfl,.boxL rfl (by repeat' constructor)⟩,G⟩,rfl⟩)
  ·intro j139 h
   replace h:=app1 hkj139 h
   refine G5 (fun K141 hK141=>?_)
   refine Re (l':=[(2,G1 calls),(4,Ee s),(9,.ptr 1010 0),(10,OW 1011 9 Gr.av s119.1),(11,.mp 1017),(13,.dptr (Hk.cs y119)),(14,.ptr 1013 0),(26,Ec (l.take m6)),(27,G1 ((l.take m6).length:Int)),(28,Ek i119)]) (L':=[(1011,.spare 68 9 s119.1.length s119.1.length),(1017,MP 64 (fun n:Int=>Value.int .i64 n) G1 s119.2),(1010,.box 42 [LS 1 (E0) ([]:List (List G7)),LS 1 (E1) ([]:List (List Int))]),(1013,.box 68 [G1 v125,ST ByteArray.empty,U8 j139.1,BL j139.2,G1 v128,G1 v131,G1 v138,U8 0,BL false])]) ⟨(by repeat' constructor),⟨⟨_,rfl,.same⟩,⟨_,rfl,.map⟩,⟨_,rfl,.boxL rfl ⟨.same rfl,.same rfl,G⟩⟩,⟨_,rfl,.boxL rfl (by repeat' constructor)⟩,G⟩,rfl⟩ ?_
   obtain⟨v142,hv142,h⟩:=Hb h
   obtain⟨v143,hv143,h⟩:=Gf h
   refine Qt [10] [0,0,0,0,0,0,0,0,0,0,0] [0,0,0,0,0,0,0,0,0,0,0] [[(1011,.spare 68 9 s119.1.length s119.1.length),(1017,MP 64 (fun n:Int=>Value.int .i64 n) G1 s119.2),(1010,.box 42 [LS 1 (E0) ([]:List (List G7)),LS 1 (E1) ([]:List (List Int))]),(1013,.box 68 [G1 v125,ST ByteArray.empty,U8 j139.1,BL j139.2,G1 v128,G1 v131,G1 v138,U8 0,BL false])],((1017,MP 64 (fun n:Int=>Value.int .i64 n) G1 (Gu.put s119.2 v125 v143))::[(1011,.spare 68 9 s119.1.length s119.1.length),(1017,MP 64 (fun n:Int=>Value.int .i64 n) G1 s119.2),(1010,.box 42 [LS 1 (E0) ([]:List (List G7)),LS 1 (E1) ([]:List (List Int))]),(1013,.box 68 [G1 v125,ST ByteArray.empty,U8 j139.1,BL j139.2,G1 v128,G1 v131,G1 v138,U8 0,BL false])])] Jr (by kernel_rfl) rfl rfl ?_
   refine Gm (u:=.mp 1017) O O ⟨Gs (G6 O O) O,G⟩ (Gm (u:=.ptr 1013 0) O O ⟨Gs (Jf Qg O O) O,G⟩ (Gm (u:=G1 v125) O O ⟨Gs (Jv Gc O O O O) O,G⟩ (Gm (u:=.dptr (Hk.cs y119)) O O ⟨Gs (Gd Jb0 O O O) O,G⟩ (Gm (u:=U8 y119.G9) O O ⟨Gs (Gk J7 O O O) O,G⟩ (Gm (u:=G1 v142) O O ⟨Gs (G15 Yu G3b hv142 O O) O,G⟩ (Gm (u:=Ee s) O O ⟨Gs (Gd J0 O O O) O,G⟩ (Gm (u:=E5 s.Columns) O O ⟨Gs (Gk J8 O O O) O,G⟩ (Gm (u:=Ek s.Columns.length) O O ⟨Gs (Zd (f:=G9.av) (xs:=s.Columns) J3 O O) O,G⟩ (Gm (u:=G1 v143) O O ⟨Gs (H77 (Qo hv143).1 (Qo hv143).2 O O O) O,G⟩ (J3e (u:=.junk) O O O O (Gs (G90 (m:=s119.2) (a:=v125) (v:=v143) O O O O O O tk_3 Jb8) O) (Zu ?_)))))))))))
   refine hK141 _ _ ?_
   refine Gq [(2,G1 calls),(4,Ee s),(9,.ptr 1010 0),(10,OW 1011 9 Gr.av s119.1),(11,.mp 1017),(14,.dptr [G1 v125,ST ByteArray.empty,U8 j139.1,BL j139.2,G1 v128,G1 v131,G1 v138,U8 0,BL false]),(26,Ec (l.take m6)),(27,G1 ((l.take m6).length:Int)),(28,Ek i119)] [(1011,.spare 68 9 s119.1.length s119.1.length),(1017,MP 64 (fun n:Int=>Value.int .i64 n) G1 (Gu.put s119.2 v125 v143)),(1010,.box 42 [LS 1 (E0) ([]:List (List G7)),LS 1 (E1) ([]:List (List Int))])] 1013 rfl rfl rfl ⟨⟨_,rfl,.same⟩,⟨_,rfl,.map⟩,⟨_,rfl,.boxEq rfl rfl⟩,G⟩ rfl (by repeat' (first | exact .ptr | constructor)) ?_
   refine G3 (JLh (OW 1011 9 Gr.av s119.1) (G6 O O) O (JLh (.agg [G1 v125,ST ByteArray.empty,U8 j139.1,BL j139.2,G1 v128,G1 v131,G1 v138,U8 0,BL false]) (Gh Z1 O O O) O (JLh (E2 [(Gr.mk v125 ByteArray.empty j139.1 j139.2 v128 v131 v138 0 false)]) (Hf (xs:=[.agg [G1 v125,ST ByteArray.empty,U8 j139.1,BL j139.2,G1 v128,G1 v131,G1 v138,U8 0,BL false]]) O ⟨O,O,G⟩ Jg Rg O O O O) O ?_)))
   obtain⟨ha144,h⟩:=Hz h
   refine JLh (OW 1011 9 Gr.av (s119.1++[(Gr.mk v125 ByteArray.empty j139.1 j139.2 v128 v131 v138 0 false)])) (Q5 (f:=Gr.av) (xs:=s119.1) (ys:=[(Gr.mk v125 ByteArray.empty j139.1 j139.2 v128 v131 v138 0 false)]) O O O O Jg J58 ha144 (fun _=>O) (.inl O) O) O (JLh (OW 1011 9 Gr.av (s119.1++[(Gr.mk v125 ByteArray.empty j139.1 j139.2 v128 v131 v138 0 false)])) (Gb O O) O (G8 (hK122 _ _ (G3 (JLh (G1 ((i119+1:Nat):Int)) (Ht (Hn hk119 hm27) O O O) O (JLh (G1 ((i119+1:Nat):Int)) (G6 O O) O (G8 (e119 _ _ (i119+1) ((s119.1++[(Gr.mk v125 ByteArray.empty j139.1 j139.2 v128 v131 v138 0 false)]),(Gu.put s119.2 v125 v143)) (app1 hn119 h) (by omega) ⟨(by repeat' constructor),⟨⟨_,rfl,.same⟩,⟨_,rfl,.map⟩,⟨_,rfl,.boxL rfl ⟨.same rfl,.same rfl,G⟩⟩,G⟩,rfl⟩))))))))
 ·
  have h:=app1 hkx119 (Hs hi119 (H9 hb))
  refine Hi (hK4 _ _ (G5 (fun K145 hK145=>G5 fun K146 hK146=>G3 (JLh (OW 1011 9 Gr.av s119.1) (G6 O O) O (Hp (f:=Gr.av) (xs:=s119.1) Jg O O (fun hm84=>?_) O O O)))))
  obtain⟨v147,hv147,h⟩:=Hb h
  refine JLh (G1 v147) (Ht hv147 O O O) O (JLh (G1 0) (G6 O O) O (G8 (hK146 _ _ (Gi ?_))))
  obtain⟨hx148,h⟩:=Hz h
  obtain⟨b148,kx148,hb148,hkx148,h⟩:=H2d h
  refine Ha (fun i148 (s148:(List Gr)×(Gu Int Int))=>upto b148 kx148 (v147.toNat - i148) i148 s148=some r) (fun i148 s148=>[(2,G1 calls),(4,Ee s),(9,.ptr 1010 0),(10,E2 s148.1),(11,.mp 1017),(85,G1 v147),(86,Ek i148)]) (fun i148 s148=>[(1017,MP 64 (fun n:Int=>Value.int .i64 n) G1 s148.2),(1010,.box 42 [LS 1 (E0) ([]:List (List G7)),LS 1 (E1) ([]:List (List Int))])]) (fun i148=>v147.toNat - i148) 0 (s119.1,s119.2) h ⟨⟨.same O,.same O,.same O,.list O,.same O,.same O,.same O,G⟩,⟨⟨_,O,.map⟩,⟨_,O,.boxL O ⟨.same O,.same O,G⟩⟩,G⟩,O⟩ ?_
  clear h
  intro i148 s148 hi148 K148 e148
  refine G5 fun K149 hK149=>G3 (JLh (BL (decide ((i148:Int) < v147))) (J2 O O O) O (G8 (hK149 _ _ (G5 (fun K150 hK150=>Gn O (fun hb=>?_) (fun hb=>?_))))))
  ·
   have hk148:=Ge0 hb
   obtain⟨nx148,hn148,h⟩:=Gd3 hi148 hk148
   replace h:=J8a hb148 h
   refine Gp (hK150 _ _ (G5 (fun K151 hK151=>Gi (G5 fun K152 hK152=>G3 (JLh (.agg (Hc.cs s)) (Gh J5 O O O) O (JLh (E2 s148.1) (G6 O O) O (JLh (.mp 1017) (G6 O O) O (JLh (G1 calls) (G6 O O) O ?_))))))))
   obtain⟨r153,hr153,h⟩:=Gf h
   refine JLh (.tup [.agg [LS 1 (E0) r153.1.States,LS 1 (E1) r153.1.Water],G1 r153.2.1]) (H4d (args:=[.agg (Hc.cs s),E2 s148.1,.mp 1017,G1 calls]) (L0:=[(1017,MP 64 (fun n:Int=>Value.int .i64 n) G1 s148.2)]) (Lr:=[(1017,MP 64 (fun n:Int=>Value.int .i64 n) G1 r153.2.2)]) O (G78 F s s148.1 s148.2 calls r153 hr153) Q19 ⟨.inl O,O,.inl O,O,.inl O,O,.inl O,O,G⟩ ⟨O,G⟩ O O O) O (JLh (.tup [.agg [LS 1 (E0) r153.1.States,LS 1 (E1) r153.1.Water],G1 r153.2.1]) (G6 O O) O (JLh (.agg [LS 1 (E0) r153.1.States,LS 1 (E1) r153.1.Water]) (H0 O O O) O (JLh (G1 r153.2.1) (H0 O O O) O (JLh (.ptr 1014 0) (Hh 1014 2 J12 O O) O (Hg (u:=.junk) (H5 (u:=.agg [LS 1 (E0) r153.1.States,LS 1 (E1) r153.1.Water]) (ds:=[LS 1 (E0) r153.1.States,LS 1 (E1) r153.1.Water]) G93 O O O O O O O O) (JLh (G1 r153.2.1) (Gb O O) O (G8 (hK152 _ _ ?_))))))))
   refine Gq [(2,G1 calls),(4,Ee s),(9,.ptr 1010 0),(10,E2 s148.1),(11,.mp 1017),(15,.dptr [LS 1 (E0) r153.1.States,LS 1 (E1) r153.1.Water]),(16,G1 r153.2.1),(85,G1 v147),(86,Ek i148)] [(1017,MP 64 (fun n:Int=>Value.int .i64 n) G1 r153.2.2),(1010,.box 42 [LS 1 (E0) ([]:List (List G7)),LS 1 (E1) ([]:List (List Int))])] 1014 rfl rfl rfl ⟨⟨_,rfl,.map⟩,⟨_,rfl,.boxEq rfl rfl⟩,G⟩ rfl (by repeat' (first | exact .ptr | constructor)) (G5 (fun K154 hK154=>?_))
   refine G5 fun K155 hK155=>G3 (JLh (G1 r153.2.1) (G6 O O) O (JLh (BL (decide (r153.2.1=0))) (Qh O O O) O (G8 (hK155 _ _ (Gn O (fun hb=>?_) (fun hb=>?_))))))
   ·
    replace h:=H1 hb h
    refine G5 (fun K156 hK156=>Re (l':=[(9,.ptr 1010 0),(10,E2 s148.1),(15,.dptr [LS 1 (E0) r153.1.States,LS 1 (E1) r153.1.Water])]) (L':=[(1017,MP 64 (fun n:Int=>Value.int .i64 n) G1 r153.2.2),(1010,.box 42 [LS 1 (E0) ([]:List (List G7)),LS 1 (E1) ([]:List (List Int))])]) ⟨⟨.same O,.same O,.same O,G⟩,⟨⟨_,O,.map⟩,⟨_,O,.boxL O ⟨.same O,.same O,G⟩⟩,G⟩,O⟩ ?_)
    refine Qt [3] [0,0,0,0] [0,0,0,0] [[(1017,MP 64 (fun n:Int=>Value.int .i64 n) G1 r153.2.2),(1010,.box 42 [LS 1 (E0) ([]:List (List G7)),LS 1 (E1) ([]:List (List Int))])],((1010,.box 42 [LS 1 (E0) r153.1.States,LS 1 (E1) r153.1.Water])::[(1017,MP 64 (fun n:Int=>Value.int .i64 n) G1 r153.2.2),(1010,.box 42 [LS 1 (E0) ([]:List (List G7)),LS 1 (E1) ([]:List (List Int))])])] Jr (by kernel_rfl) rfl rfl ?_
    refine Gm (u:=E2 s148.1) O O ⟨Gs (G6 O O) O,G⟩ (Gm (u:=.agg [LS 1 (E0) r153.1.States,LS 1 (E1) r153.1.Water]) O O ⟨Gs (Gh G36 O O O) O,G⟩ (Gm (u:=E2 s148.1) O O ⟨Gs (Gb O O) O,G⟩ (J3e (u:=.junk) O O O O (Gs (H5 (u:=.agg [LS 1 (E0) r153.1.States,LS 1 (E1) r153.1.Water]) (ds:=[LS 1 (E0) r153.1.States,LS 1 (E1) r153.1.Water]) G93 O O O O O O O O) O) (Zu (hK156 _ _ (Gx ?_))))))
    exact⟨[E2 s148.1,.agg [LS 1 (E0) r153.1.States,LS 1 (E1) r153.1.Water]],[],G,O,⟨⟨_,O,.conv (.same O)⟩,⟨_,⟨_,_,_,_,O,O,O,.inl ⟨G36,O⟩⟩,.conv (.same O)⟩,G⟩,O,congrArg (fun r:(List Gr)×G6a=>(.tup [E2 r.1,.agg [LS 1 (E0) r.2.States,LS 1 (E1) r.2.Water]]:AV)) (Option.some.inj h)⟩
   ·
    replace h:=Hv hb h
    refine Gp (hK154 _ _ (G5 fun K157 hK157=>G3 (JLh (OW 1015 9 Gr.av ([]:List Gr)) (Zv 1015 68 9 O O O) O (G8 (hK157 _ _ (G5 (fun K158 hK158=>G5 fun K159 hK159=>G3 (JLh (E2 s148.1) (G6 O O) O (Hp (f:=Gr.av) (xs:=s148.1) Jg O O (fun hm101=>?_) O O O)))))))))
    refine JLh (G1 0) (G6 O O) O (G8 (hK159 _ _ (Gi ?_)))
    obtain⟨b174,kx174,hb174,hkx174,h⟩:=Hy h
    refine Ha (fun i174 (s174:(List Gr))=>each b174 kx174 (List.drop i174 s148.1) i174 s174=some r) (fun i174 s174=>[(2,G1 calls),(4,Ee s),(9,.ptr 1010 0),(11,.mp 1017),(16,G1 r153.2.1),(17,OW 1015 9 Gr.av s174),(85,G1 v147),(86,Ek i148),(100,E2 s148.1),(101,Ek s148.1.length),(102,Ek i174)]) (fun i174 s174=>[(1017,MP 64 (fun n:Int=>Value.int .i64 n) G1 r153.2.2),(1015,.spare 68 9 s174.length s174.length),(1010,.box 42 [LS 1 (E0) ([]:List (List G7)),LS 1 (E1) ([]:List (List Int))])]) (fun i174=>s148.1.length - i174) 0 [] h ⟨(by repeat' constructor),⟨⟨_,rfl,.map⟩,⟨_,rfl,.same⟩,⟨_,rfl,.boxL rfl ⟨.same rfl,.same rfl,G⟩⟩,G⟩,rfl⟩ ?_
    clear h
    intro i174 s174 hi174 K174 e174
    refine G5 fun K175 hK175=>G3 (JLh (BL (decide ((i174:Int) < (s148.1.length:Int)))) (J2 O O O) O (G8 (hK175 _ _ (G5 (fun K176 hK176=>Gn O (fun hb=>?_) (fun hb=>?_))))))
    ·
     have hk174:=Jd hb
     obtain⟨y174,nx174,hy174,hn174,h⟩:=Hr hi174 hk174
     replace h:=Rq hb174 h
     refine Gp (hK176 _ _ ?_)
     obtain⟨kj177,hkj177,h⟩:=Q7 h
     refine Jm (fun j177:(List Gr)=>kj177 j177=some r) (fun j177=>[(2,G1 calls),(4,Ee s),(9,.ptr 1010 0),(11,.mp 1017),(16,G1 r153.2.1),(17,OW 1015 9 Gr.av j177),(85,G1 v147),(86,Ek i148),(100,E2 s148.1),(101,Ek s148.1.length),(102,Ek i174)]) (fun j177=>[(1017,MP 64 (fun n:Int=>Value.int .i64 n) G1 r153.2.2),(1015,.spare 68 9 j177.length j177.length),(1010,.box 42 [LS 1 (E0) ([]:List (List G7)),LS 1 (E1) ([]:List (List Int))])]) (fun Kj177 ej177=>?_) ?_
     ·
      refine Gi (G5 fun K178 hK178=>G3 (JLh (Eh y174) (Gz (f:=Gr.av) (xs:=s148.1) (y:=y174) O O O Jg hy174 O) O (JLh (.agg (Gr.cs y174)) (Gh Z1 O O O) O (JLh (.ptr 1016 0) (Hh 1016 9 Rg O O) O (Hg (u:=.junk) (H5 (u:=.agg (Gr.cs y174)) (ds:=(Gr.cs y174)) Z4 O O O O O O O O) (G8 (hK178 _ _ ?_)))))))
      refine Gq [(2,G1 calls),(4,Ee s),(9,.ptr 1010 0),(11,.mp 1017),(16,G1 r153.2.1),(17,OW 1015 9 Gr.av s174),(19,Eh y174),(85,G1 v147),(86,Ek i148),(100,E2 s148.1),(101,Ek s148.1.length),(102,Ek i174)] [(1017,MP 64 (fun n:Int=>Value.int .i64 n) G1 r153.2.2),(1015,.spare 68 9 s174.length s174.length),(1010,.box 42 [LS 1 (E0) ([]:List (List G7)),LS 1 (E1) ([]:List (List Int))])] 1016 rfl rfl rfl ⟨⟨_,rfl,.map⟩,⟨_,rfl,.same⟩,⟨_,rfl,.boxEq rfl rfl⟩,G⟩ rfl (by repeat' (first | exact .ptr | constructor)) ?_
      refine G5 fun K179 hK179=>G3 (JLh (Eh y174) (Gd Qg O O O) O (JLh (G1 y174.ID) (Gk Gc O O O) O (JLh (G1 r153.2.1) (G6 O O) O (JLh (BL (decide (y174.ID≠r153.2.1))) (H78 O O O) O (G8 (hK179 _ _ (Gn O (fun hb=>?_) (fun hb=>?_))))))))
      ·
       replace h:=H1 hb h
       refine G3 (JLh (OW 1015 9 Gr.av s174) (G6 O O) O (JLh (.agg (Gr.cs y174)) (Gh Z1 O O O) O (JLh (E2 [y174]) (Hf (xs:=[.agg (Gr.cs y174)]) O ⟨O,O,G⟩ Jg Rg O O O O) O ?_)))
       obtain⟨ha180,h⟩:=Hz h
       refine JLh (OW 1015 9 Gr.av (s174++[y174])) (Q5 (f:=Gr.av) (xs:=s174) (ys:=[y174]) O O O O Jg J58 ha180 (fun _=>O) (.inl O) O) O (JLh (OW 1015 9 Gr.av (s174++[y174])) (Gb O O) O (G8 (ej177 _ _ (s174++[y174]) h ⟨(by repeat' constructor),⟨⟨_,rfl,.map⟩,⟨_,rfl,.same⟩,⟨_,rfl,.boxL rfl ⟨.same rfl,.same rfl,G⟩⟩,G⟩,rfl⟩)))
      ·
       replace h:=Hv hb h
       refine Gp (ej177 _ _ s174 h ⟨(by repeat' constructor),⟨⟨_,rfl,.map⟩,⟨_,rfl,.same⟩,⟨_,rfl,.boxL rfl ⟨.same rfl,.same rfl,G⟩⟩,G⟩,rfl⟩)
     ·intro j177 h
      replace h:=app1 hkj177 h
      refine G3 (JLh (G1 ((i174+1:Nat):Int)) (Ht (Hn hk174 hm101) O O O) O (JLh (G1 ((i174+1:Nat):Int)) (G6 O O) O (G8 (e174 _ _ (i174+1) j177 (app1 hn174 h) (by omega) ⟨(by repeat' constructor),⟨⟨_,rfl,.map⟩,⟨_,rfl,.same⟩,⟨_,rfl,.boxL rfl ⟨.same rfl,.same rfl,G⟩⟩,G⟩,rfl⟩))))
    ·
     have h:=app1 hkx174 (Hs hi174 (H9 hb))
     refine Hi (hK158 _ _ (G3 (JLh (OW 1015 9 Gr.av s174) (G6 O O) O (JLh (OW 1015 9 Gr.av s174) (Gb O O) O (G8 (hK151 _ _ (G3 (JLh (G1 ((i148+1:Nat):Int)) (Ht (Hn hk148 (G92 hx148)) O O O) O (JLh (G1 ((i148+1:Nat):Int)) (G6 O O) O (G8 (e148 _ _ (i148+1) (s174,r153.2.2) (app1 hn148 h) (by omega) ⟨⟨.same rfl,.same rfl,.same rfl,.list rfl,.same rfl,.same rfl,.same rfl,G⟩,⟨⟨_,rfl,.map⟩,⟨_,rfl,.boxL rfl ⟨.same rfl,.same rfl,G⟩⟩,G⟩,rfl⟩)))))))))))
  ·
   have h:=app1 hkx148 (Gd4 hi148 (G24 hb))
   refine Hi (hK145 _ _ (G5 (fun K181 hK181=>Re (l':=[(2,G1 calls),(9,.ptr 1010 0)]) (L':=[(1017,MP 64 (fun n:Int=>Value.int .i64 n) G1 s148.2),(1010,.box 42 [LS 1 (E0) ([]:List (List G7)),LS 1 (E1) ([]:List (List Int))])]) ⟨⟨.same O,.same O,G⟩,⟨⟨_,O,.map⟩,⟨_,O,.boxL O ⟨.same O,.same O,G⟩⟩,G⟩,O⟩ ?_)))
   obtain⟨m182,hm182,h⟩:=Gf h
   obtain⟨ha183,h⟩:=Hz h
   refine Qt [4] [0,0,0,0,0] [0,0,0,0,0] [[(1017,MP 64 (fun n:Int=>Value.int .i64 n) G1 s148.2),(1010,.box 42 [LS 1 (E0) ([]:List (List G7)),LS 1 (E1) ([]:List (List Int))])],((1010,.box 42 [LS 1 (E0) (List.replicate m182 ([]:List G7)),LS 1 (E1) ([]:List (List Int))])::[(1017,MP 64 (fun n:Int=>Value.int .i64 n) G1 s148.2),(1010,.box 42 [LS 1 (E0) ([]:List (List G7)),LS 1 (E1) ([]:List (List Int))])])] Jr (by kernel_rfl) rfl rfl ?_
   refine Gm (u:=G1 calls) O O ⟨Gs (G6 O O) O,G⟩ (Gm (u:=LS 1 (E0) (List.replicate m182 ([]:List G7))) O O ⟨Gs (Jda (f:=(E0)) (n:=m182) [] [.slice none 0 0] O O O Qa J1a Jcb (Q9 hm182) (Q9 hm182) ha183 ⟨.inr ⟨_,O,O⟩,G⟩ O) O,G⟩ (Gm (u:=.agg [LS 1 (E0) (List.replicate m182 ([]:List G7)),LS 1 (E1) ([]:List (List Int))]) O O ⟨Gs (Ji (cs:=[LS 1 (E0) (List.replicate m182 ([]:List G7)),LS 1 (E1) ([]:List (List Int))]) [(0,1),(1,1)] [LS 1 (E0) ([]:List (List G7)),LS 1 (E1) ([]:List (List Int))] [.slice none 0 0,.slice none 0 0] Hcb Gd5 ⟨.inr ⟨_,O,O⟩,.inr ⟨_,O,O⟩,G⟩ O O) O,G⟩ (Gm (u:=E2 ([]:List Gr)) O O ⟨Gs (Q4 9 O O) O,G⟩ (J3e (u:=.junk) O O O O (Gs (H5 (u:=.agg [LS 1 (E0) (List.replicate m182 ([]:List G7)),LS 1 (E1) ([]:List (List Int))]) (ds:=[LS 1 (E0) (List.replicate m182 ([]:List G7)),LS 1 (E1) ([]:List (List Int))]) G93 O O O O O O O O) O) (Zu ?_)))))
   refine hK181 _ _ (Gx (⟨[E2 ([]:List Gr),.agg [LS 1 (E0) (List.replicate m182 ([]:List G7)),LS 1 (E1) ([]:List (List Int))]],[],G,O,⟨⟨_,O,.conv (.same O)⟩,⟨_,⟨_,_,_,_,O,O,O,.inl ⟨G36,O⟩⟩,.conv (.same O)⟩,G⟩,O,congrArg (fun r:(List Gr)×G6a=>(.tup [E2 r.1,.agg [LS 1 (E0) r.2.States,LS 1 (E1) r.2.Water]]:AV)) (Option.some.inj h)⟩))

def Ga6 (c:G9) (p1:Int) (p2:Int) (p3:Bool):Option Bool:=
 some (((decide (c.Bay=p1))&&(decide (c.Row=p2)))&&(c.Deck==p3))
theorem J38 (c:G9) (p1:Int) (p2:Int) (p3:Bool) (r:Bool) (h:Ga6 c p1 p2 p3=some r):Pure Tryz.prog 30 [.agg (G9.cs c),.dptr [G1 p1],.dptr [G1 p2],.dptr [BL p3]] (·=BL r):=by
 unfold Ga6 at h
 refine H4 [.tmp 5] Tryz.func30 O O (G5 fun K1 hK1=>G3 (JLh (.ptr 1090 0) (Jw (u:=.agg (G9.cs c)) (cs:=(G9.cs c)) 1090 O O O O O) O (JLh (BL false) (Gb O O) O (G8 (hK1 _ _ (Gq [(1,.dptr [G1 p1]),(2,.dptr [G1 p2]),(3,.dptr [BL p3]),(4,Ej c)] [] 1090 rfl rfl rfl G rfl (by repeat' (first | exact .ptr | constructor)) ?_))))))
 refine G5 fun K2 hK2=>G3 (JLh (Ej c) (Gd G35 O O O) O (JLh (G1 c.Bay) (Gk Gc O O O) O (JLh (G1 p1) (Gk Gc O O O) O (JLh (BL (decide (c.Bay=p1))) (Qh O O O) O (JLh (BL (decide (c.Bay=p1))) (G6 O O) O (Gg (u:=.dptr [G1 c.Row,BL c.Deck,G1 c.Tiers,G1 c.Height,G1 c.Kilos20,G1 c.Kilos40,G1 c.Lash,E1 c.Plugs,G1 c.X,G1 c.Y,G1 c.Z]) [] O O O .sct G (fun hc=>Gd G34 O O O) ?_))))))
 refine Gg (u:=G1 c.Row) [(11,.dptr [G1 c.Row,BL c.Deck,G1 c.Tiers,G1 c.Height,G1 c.Kilos20,G1 c.Kilos40,G1 c.Lash,E1 c.Plugs,G1 c.X,G1 c.Y,G1 c.Z])] O O O .sct ⟨.all id,G⟩ (fun hc=>Gk Gc O O O) ?_
 refine Gg (u:=G1 p2) [] O O O .sct G (fun hc=>Gk Gc O O O) ?_
 refine Gg (u:=BL (decide (c.Row=p2))) [(12,G1 c.Row),(13,G1 p2)] O O O .sct ⟨.all id,.all id,G⟩ (fun hc=>Qh O O O) ?_
 refine JLh (BL ((decide (c.Bay=p1))&&(decide (c.Row=p2)))) (Qc O O O O) O (JLh (BL ((decide (c.Bay=p1))&&(decide (c.Row=p2)))) (G6 O O) O (Gg (u:=.dptr [BL c.Deck,G1 c.Tiers,G1 c.Height,G1 c.Kilos20,G1 c.Kilos40,G1 c.Lash,E1 c.Plugs,G1 c.X,G1 c.Y,G1 c.Z]) [] O O O .sct G (fun hc=>Gd G33 O O O) ?_))
 refine Gg (u:=BL c.Deck) [(17,.dptr [BL c.Deck,G1 c.Tiers,G1 c.Height,G1 c.Kilos20,G1 c.Kilos40,G1 c.Lash,E1 c.Plugs,G1 c.X,G1 c.Y,G1 c.Z])] O O O .sct ⟨.all id,G⟩ (fun hc=>Gk Ru O O O) ?_
 refine Gg (u:=BL p3) [] O O O .sct G (fun hc=>Gk Ru O O O) ?_
 refine Gg (u:=BL (c.Deck==p3)) [(18,BL c.Deck),(19,BL p3)] O O O .sct ⟨.all id,.all id,G⟩ (fun hc=>A_eqBool Hf4 O O O) ?_
 refine JLh (BL (((decide (c.Bay=p1))&&(decide (c.Row=p2)))&&(c.Deck==p3))) (Qc O O O O) O (JLh (BL (((decide (c.Bay=p1))&&(decide (c.Row=p2)))&&(c.Deck==p3))) (Gb O O) O (G8 (hK2 _ _ (Gx (⟨[BL (((decide (c.Bay=p1))&&(decide (c.Row=p2)))&&(c.Deck==p3))],[],G,O,⟨⟨_,O,.conv (.same O)⟩,G⟩,O,congrArg (fun r:Bool=>(BL r:AV)) (Option.some.inj h)⟩)))))

def Y0 (l:List G9) (wanted:G9→Option Bool):Option (List Int):=
 each (fun y21 i21 (s21:(List Int)) nx21=>
  jp (fun kj24=>
   bnd (wanted y21) fun r27=>
   bif r27 then
   (need (decide ((s21.length+[(i21:Int)].length)*8≤140737488355328∧s21.length+[(i21:Int)].length≤maxLen)) <|
    kj24 (s21++[(i21:Int)]))
   else
   (kj24 s21)) fun(j24:(List Int))=>
  nx21 j24)
 (fun(s21:(List Int))=>
  some s21) l 0 []
theorem Gf2 (l:List G9) (wanted:G9→Option Bool) (wanted_f:FuncId) (wanted_c:List AV) (wanted_B:Ho Tryz.prog wanted_f=true) (wanted_d:Rs (fun _=>false) wanted_c=true) (wanted_w:∀ a0 q,wanted a0=some q→Pure Tryz.prog wanted_f ([.agg (G9.cs a0)]++wanted_c) (·=BL q)) (r:(List Int)) (h:Y0 l wanted=some r):Pure Tryz.prog 29 [E5 l,.fn wanted_f wanted_c] (·=E1 r):=by
 unfold Y0 at h
 refine H4 [.tmp 4] Tryz.func29 O O (G5 fun K1 hK1=>G3 (JLh (E1 ([]:List Int)) (Q4 1 O O) O (G8 (hK1 _ _ (G5 fun K2 hK2=>G3 (JLh (OW 1088 1 G1 ([]:List Int)) (Zv 1088 3 1 O O O) O (G8 (hK2 _ _ (G5 (fun K3 hK3=>G5 fun K4 hK4=>G3 (JLh (E5 l) (G6 O O) O (Hp (f:=G9.av) (xs:=l) J3 O O (fun hm9=>?_) O O O))))))))))))
 refine JLh (G1 0) (G6 O O) O (G8 (hK4 _ _ (Gi ?_)))
 obtain⟨b21,kx21,hb21,hkx21,h⟩:=Hy h
 refine Ha (fun i21 (s21:(List Int))=>each b21 kx21 (List.drop i21 l) i21 s21=some r) (fun i21 s21=>[(1,.fn wanted_f wanted_c),(5,OW 1088 1 G1 s21),(8,E5 l),(9,Ek l.length),(10,Ek i21)]) (fun i21 s21=>[(1088,.spare 3 1 s21.length s21.length)]) (fun i21=>l.length - i21) 0 [] h ⟨⟨.same (Hx _ _ wanted_d),.same O,.same O,.same O,.same O,G⟩,⟨⟨_,O,.same⟩,G⟩,O⟩ ?_
 clear h
 intro i21 s21 hi21 K21 e21
 refine G5 fun K22 hK22=>G3 (JLh (BL (decide ((i21:Int) < (l.length:Int)))) (J2 O O O) O (G8 (hK22 _ _ (G5 (fun K23 hK23=>Gn O (fun hb=>?_) (fun hb=>?_))))))
 ·
  have hk21:=Jd hb
  obtain⟨y21,nx21,hy21,hn21,h⟩:=Hr hi21 hk21
  replace h:=Rq hb21 h
  refine Gp (hK23 _ _ ?_)
  obtain⟨kj24,hkj24,h⟩:=Q7 h
  refine Jm (fun j24:(List Int)=>kj24 j24=some r) (fun j24=>[(1,.fn wanted_f wanted_c),(5,OW 1088 1 G1 j24),(8,E5 l),(9,Ek l.length),(10,Ek i21)]) (fun j24=>[(1088,.spare 3 1 j24.length j24.length)]) (fun Kj24 ej24=>?_) ?_
  ·
   refine Gi (G5 fun K25 hK25=>G3 (JLh (Ek i21) (G6 O O) O (JLh (Ej y21) (Gz (f:=G9.av) (xs:=l) (y:=y21) O O O J3 hy21 O) O (JLh (.agg (G9.cs y21)) (Gh G6f O O O) O (JLh (.ptr 1089 0) (Hh 1089 12 G21 O O) O (JLh (Ek i21) (Gb O O) O (Hg (u:=.junk) (H5 (u:=.agg (G9.cs y21)) (ds:=(G9.cs y21)) Gd6 O O O O O O O O) (G8 (hK25 _ _ ?_)))))))))
   refine Gq [(1,.fn wanted_f wanted_c),(5,OW 1088 1 G1 s21),(6,Ek i21),(7,Ej y21),(8,E5 l),(9,Ek l.length),(10,Ek i21)] [(1088,.spare 3 1 s21.length s21.length)] 1089 rfl rfl rfl ⟨⟨_,rfl,.same⟩,G⟩ rfl (by exact⟨.conv (.same (Hx _ _ wanted_d)),.conv (.same rfl),.conv (.same rfl),.ptr,.conv (.same rfl),.conv (.same rfl),.conv (.same rfl),G⟩) (G5 fun K26 hK26=>G3 (JLh (.fn wanted_f wanted_c) (G6 O O) O (JLh (.agg (G9.cs y21)) (Gh G6f O O O) O ?_)))
   obtain⟨r27,hr27,h⟩:=Gf h
   refine JLh (BL r27) (Yy (args:=[.agg (G9.cs y21)]) (caps:=wanted_c) O O (wanted_w y21 _ hr27) wanted_B ⟨O,O,G⟩ wanted_d) O (G8 (hK26 _ _ (Gn O (fun hb=>?_) (fun hb=>?_))))
   ·
    replace h:=H1 hb h
    refine G3 (JLh (OW 1088 1 G1 s21) (G6 O O) O (JLh (Ek i21) (G6 O O) O (JLh (E1 [(i21:Int)]) (Hf (xs:=[Ek i21]) O ⟨O,O,G⟩ Gt Yn O O O O) O ?_)))
    obtain⟨ha28,h⟩:=Hz h
    refine JLh (OW 1088 1 G1 (s21++[(i21:Int)])) (Q5 (f:=G1) (xs:=s21) (ys:=[(i21:Int)]) O O O O Gt Yh ha28 (fun _=>O) (.inl O) O) O (JLh (OW 1088 1 G1 (s21++[(i21:Int)])) (Gb O O) O (G8 (ej24 _ _ (s21++[(i21:Int)]) h ⟨⟨.same (Hx _ _ wanted_d),.same O,.same O,.same O,.same O,G⟩,⟨⟨_,O,.same⟩,G⟩,O⟩)))
   ·
    replace h:=Hv hb h
    refine Gp (ej24 _ _ s21 h ⟨⟨.same (Hx _ _ wanted_d),.same O,.same O,.same O,.same O,G⟩,⟨⟨_,O,.same⟩,G⟩,O⟩)
  ·intro j24 h
   replace h:=app1 hkj24 h
   refine G3 (JLh (G1 ((i21+1:Nat):Int)) (Ht (Hn hk21 hm9) O O O) O (JLh (G1 ((i21+1:Nat):Int)) (G6 O O) O (G8 (e21 _ _ (i21+1) j24 (app1 hn21 h) (by omega) ⟨⟨.same (Hx _ _ wanted_d),.same rfl,.same rfl,.same rfl,.same rfl,G⟩,⟨⟨_,rfl,.same⟩,G⟩,rfl⟩))))
 ·
  have h:=app1 hkx21 (Hs hi21 (H9 hb))
  refine Hi (hK3 _ _ (G5 fun K29 hK29=>G3 (JLh (OW 1088 1 G1 s21) (G6 O O) O (JLh (OW 1088 1 G1 s21) (Gb O O) O (G8 (hK29 _ _ (Gx (⟨[E1 s21],[],G,O,⟨⟨_,O,.conv (.list O)⟩,G⟩,O,congrArg (fun r:(List Int)=>(E1 r:AV)) (Option.some.inj h)⟩))))))))

def Gb3 (s:Hc) (bay:Int) (row:Int) (deck:Bool):Option (Int×Bool):=
 bnd (Y0 s.Columns (fun z0=>Ga6 z0 bay row deck)) fun r3=>
 bif decide ((r3.length:Int)=0) then
 (some (0,false))
 else
 (Rm r3 0 fun y8=>
  some (y8,true))
theorem M_ship_Find_w (s:Hc) (bay:Int) (row:Int) (deck:Bool) (r:Int×Bool) (h:Gb3 s bay row deck=some r):Pure Tryz.prog 11 [.agg (Hc.cs s),G1 bay,G1 row,BL deck] (·=.tup [G1 r.1,BL r.2]):=by
 unfold Gb3 at h
 refine H4 [.tmp 8,.tmp 9] Tryz.func11 O O ?_
 refine G5 fun K1 hK1=>G3 (JLh (.ptr 1035 0) (Jw (u:=.agg (Hc.cs s)) (cs:=(Hc.cs s)) 1035 O O O O O) O (JLh (.ptr 1036 0) (Jw (u:=G1 bay) (cs:=[G1 bay]) 1036 O O O O O) O (JLh (.ptr 1037 0) (Jw (u:=G1 row) (cs:=[G1 row]) 1037 O O O O O) O (JLh (.ptr 1038 0) (Jw (u:=BL deck) (cs:=[BL deck]) 1038 O O O O O) O (JLh (G1 0) (Gb O O) O (JLh (BL false) (Gb O O) O (G8 (hK1 _ _ ?_))))))))
 refine Gq [(4,Ee s),(5,.ptr 1036 0),(6,.ptr 1037 0),(7,.ptr 1038 0)] [(1036,.box 3 [G1 bay]),(1037,.box 3 [G1 row]),(1038,.box 4 [BL deck])] 1035 rfl rfl rfl ⟨⟨_,rfl,.boxEq rfl rfl⟩,⟨_,rfl,.boxEq rfl rfl⟩,⟨_,rfl,.boxEq rfl rfl⟩,G⟩ rfl (by repeat' (first | exact .ptr | constructor)) ?_
 refine Gq [(4,Ee s),(5,.dptr [G1 bay]),(6,.ptr 1037 0),(7,.ptr 1038 0)] [(1037,.box 3 [G1 row]),(1038,.box 4 [BL deck])] 1036 rfl rfl rfl ⟨⟨_,rfl,.boxEq rfl rfl⟩,⟨_,rfl,.boxEq rfl rfl⟩,G⟩ rfl (by repeat' (first | exact .ptr | constructor)) ?_
 refine Gq [(4,Ee s),(5,.dptr [G1 bay]),(6,.dptr [G1 row]),(7,.ptr 1038 0)] [(1038,.box 4 [BL deck])] 1037 rfl rfl rfl ⟨⟨_,rfl,.boxEq rfl rfl⟩,G⟩ rfl (by repeat' (first | exact .ptr | constructor)) ?_
 refine Gq [(4,Ee s),(5,.dptr [G1 bay]),(6,.dptr [G1 row]),(7,.dptr [BL deck])] [] 1038 rfl rfl rfl G rfl (by repeat' (first | exact .ptr | constructor)) ?_
 refine G5 fun K2 hK2=>G3 (JLh (Ee s) (Gd J0 O O O) O (JLh (E5 s.Columns) (Gk J8 O O O) O (JLh (.fn 30 [.dptr [G1 bay],.dptr [G1 row],.dptr [BL deck]]) (R9 (cs:=[.dptr [G1 bay],.dptr [G1 row],.dptr [BL deck]]) O O) O ?_)))
 obtain⟨r3,hr3,h⟩:=Gf h
 refine JLh (E1 r3) (Gy (args:=[E5 s.Columns,.fn 30 [.dptr [G1 bay],.dptr [G1 row],.dptr [BL deck]]]) O (Gf2 s.Columns (fun z0=>Ga6 z0 bay row deck) 30 [.dptr [G1 bay],.dptr [G1 row],.dptr [BL deck]] Q0e O (fun z0 q hq=>J38 z0 bay row deck q hq) r3 hr3) Q0f ⟨O,O,O,O,G⟩) O (JLh (E1 r3) (Gb O O) O (G8 (hK2 _ _ (G5 (fun K4 hK4=>G5 fun K5 hK5=>G3 (JLh (E1 r3) (G6 O O) O (Hp (f:=G1) (xs:=r3) Gt O O (fun hm16=>?_) O O O)))))))
 refine JLh (BL (decide ((r3.length:Int)=0))) (Qh O O O) O (G8 (hK5 _ _ (Gn O (fun hb=>?_) (fun hb=>?_))))
 ·
  replace h:=H1 hb h
  refine G5 fun K6 hK6=>G3 (JLh (G1 0) (Gb O O) O (JLh (BL false) (Gb O O) O (G8 (hK6 _ _ (Gx (⟨[G1 0,BL false],[],G,O,⟨⟨_,O,.conv (.same O)⟩,⟨_,O,.conv (.same O)⟩,G⟩,O,congrArg (fun r:Int×Bool=>(.tup [G1 r.1,BL r.2]:AV)) (Option.some.inj h)⟩))))))
 ·
  replace h:=Hv hb h
  refine Gp (hK4 _ _ (G5 fun K7 hK7=>G3 (JLh (E1 r3) (G6 O O) O ?_)))
  obtain⟨m9,y8,hm9,hy8,h⟩:=Qk h
  refine JLh (.dptr [G1 y8]) (Gz (f:=G1) (xs:=r3) (y:=y8) O O O Gt hy8 hm9) O (JLh (G1 y8) (Gk Gc O O O) O (JLh (G1 y8) (Gb O O) O (JLh (BL true) (Gb O O) O (G8 (hK7 _ _ (Gx (⟨[G1 y8,BL true],[],G,O,⟨⟨_,O,.conv (.same O)⟩,⟨_,O,.conv (.same O)⟩,G⟩,O,congrArg (fun r:Int×Bool=>(.tup [G1 r.1,BL r.2]:AV)) (Option.some.inj h)⟩)))))))

def Yc (l:List Hm) (covers:Int):Option Hc:=
 bnd (Ga8 (min (l.length:Int) 12) l.length) fun m5=>
 each (fun y106 i106 (s106:(List G9)×(List Ge)×Int×Int×Int×Int×(List Row)×(List Frame)×(List Gv)×Int×Int×Int×Int) nx106=>
  jp (fun kj109=>
   Rn (y106.Bay) fun v112=>
   bnd (Gfd v112 5) fun v113=>
   Rn (y106.Row) fun v114=>
   bnd (Gfd v114 5) fun v115=>
   Rn (y106.Tiers) fun v116=>
   bnd (Gfd v116 4) fun v117=>
   Rn (2+v117) fun v118=>
   Rn (13000*v113) fun v120=>
   Rn (v120 - 26000) fun v121=>
   Rn (2500*v115) fun v122=>
   Rn (v122 - 5000) fun v123=>
   jp (fun kj124=>
    bif y106.Deck then
    (kj124 20000)
    else
    (kj124 2000)) fun(j124:Int)=>
   bnd (Gb3 (Hc.mk s106.1 s106.2.1 (Light.mk s106.2.2.1 s106.2.2.2.1 s106.2.2.2.2.1 s106.2.2.2.2.2.1) s106.2.2.2.2.2.2.1 s106.2.2.2.2.2.2.2.1 s106.2.2.2.2.2.2.2.2.1 (G4.mk s106.2.2.2.2.2.2.2.2.2.1 s106.2.2.2.2.2.2.2.2.2.2.1 s106.2.2.2.2.2.2.2.2.2.2.2.1 s106.2.2.2.2.2.2.2.2.2.2.2.2)) v113 v115 y106.Deck) fun r127=>
   bif (!r127.2) then
   (need (decide ((s106.1.length+[(G9.mk v113 v115 y106.Deck v118 0 500000000 500000000 0 [] v121 v123 j124)].length)*112≤140737488355328∧s106.1.length+[(G9.mk v113 v115 y106.Deck v118 0 500000000 500000000 0 [] v121 v123 j124)].length≤maxLen)) <|
    kj109 (s106.1++[(G9.mk v113 v115 y106.Deck v118 0 500000000 500000000 0 [] v121 v123 j124)]))
   else
   (kj109 s106.1)) fun(j109:(List G9))=>
  nx106 (j109,s106.2.1,s106.2.2.1,s106.2.2.2.1,s106.2.2.2.2.1,s106.2.2.2.2.2.1,s106.2.2.2.2.2.2.1,s106.2.2.2.2.2.2.2.1,s106.2.2.2.2.2.2.2.2.1,s106.2.2.2.2.2.2.2.2.2.1,s106.2.2.2.2.2.2.2.2.2.2.1,s106.2.2.2.2.2.2.2.2.2.2.2.1,s106.2.2.2.2.2.2.2.2.2.2.2.2))
 (fun(s106:(List G9)×(List Ge)×Int×Int×Int×Int×(List Row)×(List Frame)×(List Gv)×Int×Int×Int×Int)=>
  jp (fun kj130=>
   bif decide ((s106.1.length:Int)=0) then
   (kj130 ([(G9.mk 0 0 false 3 0 500000000 500000000 0 [] 0 0 2000)]))
   else
   (kj130 s106.1)) fun(j130:(List G9))=>
  need (decide (5≤9223372036854775807)) <|
  upto (fun i200 (s200:(List G9)×(List Ge)×Int×Int×Int×Int×(List Row)×(List Frame)×(List Gv)×Int×Int×Int×Int) nx200=>
   jp (fun kj203=>
    jp (fun kj204=>
     Rn (2*(i200:Int)) fun v206=>
     bnd (Ga8 v206 4294967295) fun m207=>
     bif decide ((Jh .u32 (Js .u32 covers m207) 1)=1) then
     (need (decide ((s200.2.1.length+[(Ge.mk (i200:Int) [0,1])].length)*32≤140737488355328∧s200.2.1.length+[(Ge.mk (i200:Int) [0,1])].length≤maxLen)) <|
      kj204 (s200.2.1++[(Ge.mk (i200:Int) [0,1])]))
     else
     (kj204 s200.2.1)) fun(j204:(List Ge))=>
    Rn (2*(i200:Int)) fun v210=>
    Rn (v210+1) fun v211=>
    bnd (Ga8 v211 4294967295) fun m212=>
    bif decide ((Jh .u32 (Js .u32 covers m212) 1)=1) then
    (need (decide ((j204.length+[(Ge.mk (i200:Int) [2,3,4])].length)*32≤140737488355328∧j204.length+[(Ge.mk (i200:Int) [2,3,4])].length≤maxLen)) <|
     kj203 (j204++[(Ge.mk (i200:Int) [2,3,4])]))
    else
    (kj203 j204)) fun(j203:(List Ge))=>
   nx200 (s200.1,j203,s200.2.2.1,s200.2.2.2.1,s200.2.2.2.2.1,s200.2.2.2.2.2.1,s200.2.2.2.2.2.2.1,s200.2.2.2.2.2.2.2.1,s200.2.2.2.2.2.2.2.2.1,s200.2.2.2.2.2.2.2.2.2.1,s200.2.2.2.2.2.2.2.2.2.2.1,s200.2.2.2.2.2.2.2.2.2.2.2.1,s200.2.2.2.2.2.2.2.2.2.2.2.2))
  (fun(s200:(List G9)×(List Ge)×Int×Int×Int×Int×(List Row)×(List Frame)×(List Gv)×Int×Int×Int×Int)=>
   some (Hc.mk s200.1 s200.2.1 (Light.mk s200.2.2.1 s200.2.2.2.1 s200.2.2.2.2.1 s200.2.2.2.2.2.1) s200.2.2.2.2.2.2.1 s200.2.2.2.2.2.2.2.1 s200.2.2.2.2.2.2.2.2.1 (G4.mk s200.2.2.2.2.2.2.2.2.2.1 s200.2.2.2.2.2.2.2.2.2.2.1 s200.2.2.2.2.2.2.2.2.2.2.2.1 s200.2.2.2.2.2.2.2.2.2.2.2.2))) (5:Int).toNat 0 (j130,s106.2.1,s106.2.2.1,s106.2.2.2.1,s106.2.2.2.2.1,s106.2.2.2.2.2.1,s106.2.2.2.2.2.2.1,s106.2.2.2.2.2.2.2.1,s106.2.2.2.2.2.2.2.2.1,s106.2.2.2.2.2.2.2.2.2.1,s106.2.2.2.2.2.2.2.2.2.2.1,s106.2.2.2.2.2.2.2.2.2.2.2.1,s106.2.2.2.2.2.2.2.2.2.2.2.2)) (l.take m5) 0 ([],[],0,0,0,0,[],[],[],0,0,0,0)
theorem H15 (l:List Hm) (covers:Int) (r:Hc) (h:Yc l covers=some r):Pure Tryz.prog 4 [Ed l,.sc (.int .u32 covers)] (·=.agg (Hc.cs r)):=by
 unfold Yc at h
 refine H4 [.cell 4 36] Tryz.func4 O O (G5 fun K1 hK1=>G3 (JLh (.ptr 1003 0) (G0b 1003 [E5 ([]:List G9),Ea ([]:List Ge),G1 0,G1 0,G1 0,G1 0,E7 ([]:List Row),E8 ([]:List Frame),E9 ([]:List Gv),G1 0,G1 0,G1 0,G1 0] [.slice none 0 0,.slice none 0 0,.int .i64 0,.int .i64 0,.int .i64 0,.int .i64 0,.slice none 0 0,.slice none 0 0,.slice none 0 0,.int .i64 0,.int .i64 0,.int .i64 0,.int .i64 0] H30 ⟨.inr ⟨_,O,O⟩,.inr ⟨_,O,O⟩,.inl O,.inl O,.inl O,.inl O,.inr ⟨_,O,O⟩,.inr ⟨_,O,O⟩,.inr ⟨_,O,O⟩,.inl O,.inl O,.inl O,.inl O,G⟩ O O) O (G8 (hK1 _ _ ?_))))
 refine G5 fun K2 hK2=>G3 (JLh (.ptr 1004 0) (G0b 1004 [.sc (.slice none 0 0),.sc (.slice none 0 0),G1 0,G1 0,G1 0,G1 0,E7 ([]:List Row),E8 ([]:List Frame),E9 ([]:List Gv),G1 0,G1 0,G1 0,G1 0] [.slice none 0 0,.slice none 0 0,.int .i64 0,.int .i64 0,.int .i64 0,.int .i64 0,.slice none 0 0,.slice none 0 0,.slice none 0 0,.int .i64 0,.int .i64 0,.int .i64 0,.int .i64 0] H30 ⟨.inl O,.inl O,.inl O,.inl O,.inl O,.inl O,.inr ⟨_,O,O⟩,.inr ⟨_,O,O⟩,.inr ⟨_,O,O⟩,.inl O,.inl O,.inl O,.inl O,G⟩ O O) O ?_)
 refine G6d 1004 0 1007 59 12 O O O (cs':=[OW 1007 12 G9.av ([]:List G9),.sc (.slice none 0 0),G1 0,G1 0,G1 0,G1 0,E7 ([]:List Row),E8 ([]:List Frame),E9 ([]:List Gv),G1 0,G1 0,G1 0,G1 0]) O (G6d 1004 1 1008 63 2 O O O (cs':=[OW 1007 12 G9.av ([]:List G9),OW 1008 2 Ge.av ([]:List Ge),G1 0,G1 0,G1 0,G1 0,E7 ([]:List Row),E8 ([]:List Frame),E9 ([]:List Gv),G1 0,G1 0,G1 0,G1 0]) O (G8 (hK2 _ _ (G5 (fun K3 hK3=>G5 fun K4 hK4=>G3 (JLh (Ed l) (G6 O O) O (JLh (Ed l) (G6 O O) O (Hp (f:=Hm.av) (xs:=l) G6e O O (fun hm14=>?_) O O O))))))))
 refine JLh (G1 (min (l.length:Int) 12)) (Ja5 O O O) O ?_
 obtain⟨m5,hm5,h⟩:=Gf h
 refine JLh (Ed (l.take m5)) (H4c (f:=Hm.av) (xs:=l) O O O G6e (Yo hm5)) O (Hp (f:=Hm.av) (xs:=(l.take m5)) G6e O O (fun hm17=>?_) O O O)
 refine JLh (G1 0) (G6 O O) O (G8 (hK4 _ _ (Gi ?_)))
 obtain⟨b106,kx106,hb106,hkx106,h⟩:=Hy h
 refine Ha (fun i106 (s106:(List G9)×(List Ge)×Int×Int×Int×Int×(List Row)×(List Frame)×(List Gv)×Int×Int×Int×Int)=>each b106 kx106 (List.drop i106 (l.take m5)) i106 s106=some r) (fun i106 s106=>[(1,.sc (.int .u32 covers)),(4,.ptr 1003 0),(5,.ptr 1004 0),(16,Ed (l.take m5)),(17,G1 ((l.take m5).length:Int)),(18,Ek i106)]) (fun i106 s106=>[(1007,.spare 59 12 s106.1.length s106.1.length),(1008,.spare 63 2 s106.2.1.length s106.2.1.length),(1003,.box 36 [E5 ([]:List G9),Ea ([]:List Ge),G1 0,G1 0,G1 0,G1 0,E7 ([]:List Row),E8 ([]:List Frame),E9 ([]:List Gv),G1 0,G1 0,G1 0,G1 0]),(1004,.box 36 [OW 1007 12 G9.av s106.1,OW 1008 2 Ge.av s106.2.1,G1 s106.2.2.1,G1 s106.2.2.2.1,G1 s106.2.2.2.2.1,G1 s106.2.2.2.2.2.1,E7 s106.2.2.2.2.2.2.1,E8 s106.2.2.2.2.2.2.2.1,E9 s106.2.2.2.2.2.2.2.2.1,G1 s106.2.2.2.2.2.2.2.2.2.1,G1 s106.2.2.2.2.2.2.2.2.2.2.1,G1 s106.2.2.2.2.2.2.2.2.2.2.2.1,G1 s106.2.2.2.2.2.2.2.2.2.2.2.2])]) (fun i106=>(l.take m5).length - i106) 0 ([],[],0,0,0,0,[],[],[],0,0,0,0) h ⟨(by repeat' constructor),⟨⟨_,rfl,.same⟩,⟨_,rfl,.same⟩,⟨_,rfl,.boxL rfl (by repeat' constructor)⟩,⟨_,rfl,.boxL rfl (by repeat' constructor)⟩,G⟩,rfl⟩ ?_
 clear h
 intro i106 s106 hi106 K106 e106
 refine G5 fun K107 hK107=>G3 (JLh (BL (decide ((i106:Int) < ((l.take m5).length:Int)))) (J2 O O O) O (G8 (hK107 _ _ (G5 (fun K108 hK108=>Gn O (fun hb=>?_) (fun hb=>?_))))))
 ·
  have hk106:=Jd hb
  obtain⟨y106,nx106,hy106,hn106,h⟩:=Hr hi106 hk106
  replace h:=Rq hb106 h
  refine Gp (hK108 _ _ ?_)
  obtain⟨kj109,hkj109,h⟩:=Q7 h
  refine Jm (fun j109:(List G9)=>kj109 j109=some r) (fun j109=>[(1,.sc (.int .u32 covers)),(4,.ptr 1003 0),(5,.ptr 1004 0),(16,Ed (l.take m5)),(17,G1 ((l.take m5).length:Int)),(18,Ek i106)]) (fun j109=>[(1007,.spare 59 12 j109.length j109.length),(1008,.spare 63 2 s106.2.1.length s106.2.1.length),(1003,.box 36 [E5 ([]:List G9),Ea ([]:List Ge),G1 0,G1 0,G1 0,G1 0,E7 ([]:List Row),E8 ([]:List Frame),E9 ([]:List Gv),G1 0,G1 0,G1 0,G1 0]),(1004,.box 36 [OW 1007 12 G9.av j109,OW 1008 2 Ge.av s106.2.1,G1 s106.2.2.1,G1 s106.2.2.2.1,G1 s106.2.2.2.2.1,G1 s106.2.2.2.2.2.1,E7 s106.2.2.2.2.2.2.1,E8 s106.2.2.2.2.2.2.2.1,E9 s106.2.2.2.2.2.2.2.2.1,G1 s106.2.2.2.2.2.2.2.2.2.1,G1 s106.2.2.2.2.2.2.2.2.2.2.1,G1 s106.2.2.2.2.2.2.2.2.2.2.2.1,G1 s106.2.2.2.2.2.2.2.2.2.2.2.2])]) (fun Kj109 ej109=>?_) ?_
  ·
   refine Gi (G5 fun K110 hK110=>G3 (JLh (.dptr (Hm.cs y106)) (Gz (f:=Hm.av) (xs:=(l.take m5)) (y:=y106) O O O G6e hy106 O) O (JLh (.agg (Hm.cs y106)) (Gh tf_agg_56 O O O) O (JLh (.ptr 1005 0) (Hh 1005 4 Jc7 O O) O (Hg (u:=.junk) (H5 (u:=.agg (Hm.cs y106)) (ds:=[U8 y106.Bay,U8 y106.Row,U8 y106.Tiers,BL y106.Deck]) Je1 O O O O O O O O) (G8 (hK110 _ _ ?_)))))))
   refine Gq [(1,.sc (.int .u32 covers)),(4,.ptr 1003 0),(5,.ptr 1004 0),(7,.dptr (Hm.cs y106)),(16,Ed (l.take m5)),(17,G1 ((l.take m5).length:Int)),(18,Ek i106)] [(1007,.spare 59 12 s106.1.length s106.1.length),(1008,.spare 63 2 s106.2.1.length s106.2.1.length),(1003,.box 36 [E5 ([]:List G9),Ea ([]:List Ge),G1 0,G1 0,G1 0,G1 0,E7 ([]:List Row),E8 ([]:List Frame),E9 ([]:List Gv),G1 0,G1 0,G1 0,G1 0]),(1004,.box 36 [OW 1007 12 G9.av s106.1,OW 1008 2 Ge.av s106.2.1,G1 s106.2.2.1,G1 s106.2.2.2.1,G1 s106.2.2.2.2.1,G1 s106.2.2.2.2.2.1,E7 s106.2.2.2.2.2.2.1,E8 s106.2.2.2.2.2.2.2.1,E9 s106.2.2.2.2.2.2.2.2.1,G1 s106.2.2.2.2.2.2.2.2.2.1,G1 s106.2.2.2.2.2.2.2.2.2.2.1,G1 s106.2.2.2.2.2.2.2.2.2.2.2.1,G1 s106.2.2.2.2.2.2.2.2.2.2.2.2])] 1005 rfl rfl rfl ⟨⟨_,rfl,.same⟩,⟨_,rfl,.same⟩,⟨_,rfl,.boxEq rfl rfl⟩,⟨_,rfl,.boxEq rfl rfl⟩,G⟩ rfl (by repeat' (first | exact .ptr | constructor)) ?_
   refine G5 fun K111 hK111=>G3 (JLh (.dptr (Hm.cs y106)) (Gd Jb7 O O O) O (JLh (U8 y106.Bay) (Gk J7 O O O) O ?_))
   obtain⟨v112,hv112,h⟩:=Hb h
   refine JLh (G1 v112) (G15 Yu G3b hv112 O O) O ?_
   obtain⟨v113,hv113,h⟩:=Gf h
   refine JLh (G1 v113) (H77 (Qo hv113).1 (Qo hv113).2 O O O) O (JLh (.dptr ((Hm.cs y106).drop 1)) (Gd Jb6 O O O) O (JLh (U8 y106.Row) (Gk J7 O O O) O ?_))
   obtain⟨v114,hv114,h⟩:=Hb h
   refine JLh (G1 v114) (G15 Yu G3b hv114 O O) O ?_
   obtain⟨v115,hv115,h⟩:=Gf h
   refine JLh (G1 v115) (H77 (Qo hv115).1 (Qo hv115).2 O O O) O (JLh (.dptr [BL y106.Deck]) (Gd Jb4 O O O) O (JLh (BL y106.Deck) (Gk Ru O O O) O (JLh (.dptr [U8 y106.Tiers,BL y106.Deck]) (Gd Jb5 O O O) O (JLh (U8 y106.Tiers) (Gk J7 O O O) O ?_))))
   obtain⟨v116,hv116,h⟩:=Hb h
   refine JLh (G1 v116) (G15 Yu G3b hv116 O O) O ?_
   obtain⟨v117,hv117,h⟩:=Gf h
   refine JLh (G1 v117) (H77 (Qo hv117).1 (Qo hv117).2 O O O) O ?_
   obtain⟨v118,hv118,h⟩:=Hb h
   refine JLh (G1 v118) (Ht hv118 O O O) O (JLh (.agg [G1 v113,G1 v115,BL y106.Deck,G1 v118,G1 0,G1 500000000,G1 500000000,G1 0,E1 ([]:List Int),G1 0,G1 0,G1 0]) (Ji (cs:=[G1 v113,G1 v115,BL y106.Deck,G1 v118,G1 0,G1 500000000,G1 500000000,G1 0,E1 ([]:List Int),G1 0,G1 0,G1 0]) [(0,1),(1,1),(2,1),(3,1),(4,1),(5,1),(6,1),(7,1),(8,1),(9,1),(10,1),(11,1)] [G1 0,G1 0,BL false,G1 0,G1 0,G1 0,G1 0,G1 0,E1 ([]:List Int),G1 0,G1 0,G1 0] [.int .i64 0,.int .i64 0,.bool false,.int .i64 0,.int .i64 0,.int .i64 0,.int .i64 0,.int .i64 0,.slice none 0 0,.int .i64 0,.int .i64 0,.int .i64 0] H31 Ha4 ⟨.inl O,.inl O,.inl O,.inl O,.inl O,.inl O,.inl O,.inl O,.inr ⟨_,O,O⟩,.inl O,.inl O,.inl O,G⟩ O O) O (JLh (.ptr 1006 0) (Hh 1006 12 G21 O O) O (Hg (u:=.junk) (H5 (u:=.agg [G1 v113,G1 v115,BL y106.Deck,G1 v118,G1 0,G1 500000000,G1 500000000,G1 0,E1 ([]:List Int),G1 0,G1 0,G1 0]) (ds:=[G1 v113,G1 v115,BL y106.Deck,G1 v118,G1 0,G1 500000000,G1 500000000,G1 0,E1 ([]:List Int),G1 0,G1 0,G1 0]) Gd6 O O O O O O O O) (G8 (hK111 _ _ ?_)))))
   refine G5 fun K119 hK119=>G3 (JLh (.ptr 1006 0) (Jf G35 O O) O (JLh (G1 v113) (Jv Gc O O O O) O ?_))
   obtain⟨v120,hv120,h⟩:=Hb h
   refine JLh (G1 v120) (G31 hv120 O O O) O ?_
   obtain⟨v121,hv121,h⟩:=Hb h
   refine JLh (G1 v121) (G18 hv121 O O O) O (JLh (.ptr 1006 1) (Jf G34 O O) O (JLh (G1 v115) (Jv Gc O O O O) O ?_))
   obtain⟨v122,hv122,h⟩:=Hb h
   refine JLh (G1 v122) (G31 hv122 O O O) O ?_
   obtain⟨v123,hv123,h⟩:=Hb h
   refine JLh (G1 v123) (G18 hv123 O O O) O (JLh (.ptr 1006 9) (Jf H9e O O) O (Hg (u:=.junk) (H5 (u:=G1 v121) (ds:=[G1 v113,G1 v115,BL y106.Deck,G1 v118,G1 0,G1 500000000,G1 500000000,G1 0,E1 ([]:List Int),G1 v121,G1 0,G1 0]) Qv O O O O O O O O) (JLh (.ptr 1006 10) (Jf H56 O O) O (Hg (u:=.junk) (H5 (u:=G1 v123) (ds:=[G1 v113,G1 v115,BL y106.Deck,G1 v118,G1 0,G1 500000000,G1 500000000,G1 0,E1 ([]:List Int),G1 v121,G1 v123,G1 0]) Qv O O O O O O O O) (JLh (.ptr 1006 11) (Jf Gd7 O O) O (Hg (u:=.junk) (H5 (u:=G1 2000) (ds:=[G1 v113,G1 v115,BL y106.Deck,G1 v118,G1 0,G1 500000000,G1 500000000,G1 0,E1 ([]:List Int),G1 v121,G1 v123,G1 2000]) Qv O O O O O O O O) (G8 (hK119 _ _ ?_))))))))
   obtain⟨kj124,hkj124,h⟩:=Q7 h
   refine Jm (fun j124:Int=>kj124 j124=some r) (fun j124=>[(1,.sc (.int .u32 covers)),(4,.ptr 1003 0),(5,.ptr 1004 0),(8,.ptr 1006 0),(16,Ed (l.take m5)),(17,G1 ((l.take m5).length:Int)),(18,Ek i106)]) (fun j124=>[(1007,.spare 59 12 s106.1.length s106.1.length),(1008,.spare 63 2 s106.2.1.length s106.2.1.length),(1003,.box 36 [E5 ([]:List G9),Ea ([]:List Ge),G1 0,G1 0,G1 0,G1 0,E7 ([]:List Row),E8 ([]:List Frame),E9 ([]:List Gv),G1 0,G1 0,G1 0,G1 0]),(1004,.box 36 [OW 1007 12 G9.av s106.1,OW 1008 2 Ge.av s106.2.1,G1 s106.2.2.1,G1 s106.2.2.2.1,G1 s106.2.2.2.2.1,G1 s106.2.2.2.2.2.1,E7 s106.2.2.2.2.2.2.1,E8 s106.2.2.2.2.2.2.2.1,E9 s106.2.2.2.2.2.2.2.2.1,G1 s106.2.2.2.2.2.2.2.2.2.1,G1 s106.2.2.2.2.2.2.2.2.2.2.1,G1 s106.2.2.2.2.2.2.2.2.2.2.2.1,G1 s106.2.2.2.2.2.2.2.2.2.2.2.2]),(1006,.box 59 [G1 v113,G1 v115,BL y106.Deck,G1 v118,G1 0,G1 500000000,G1 500000000,G1 0,E1 ([]:List Int),G1 v121,G1 v123,G1 j124])]) (fun Kj124 ej124=>?_) ?_
   ·
    refine G5 fun K125 hK125=>G3 (JLh (.ptr 1006 2) (Jf G33 O O) O (JLh (BL y106.Deck) (Jv Ru O O O O) O (G8 (hK125 _ _ (Gn O (fun hb=>?_) (fun hb=>?_))))))
    ·
     replace h:=H1 hb h
     refine G3 (JLh (.ptr 1006 11) (Jf Gd7 O O) O (Hg (u:=.junk) (H5 (u:=G1 20000) (ds:=[G1 v113,G1 v115,BL y106.Deck,G1 v118,G1 0,G1 500000000,G1 500000000,G1 0,E1 ([]:List Int),G1 v121,G1 v123,G1 20000]) Qv O O O O O O O O) (G8 (ej124 _ _ 20000 h ⟨(by repeat' constructor),⟨⟨_,rfl,.same⟩,⟨_,rfl,.same⟩,⟨_,rfl,.boxL rfl (by repeat' constructor)⟩,⟨_,rfl,.boxL rfl (by repeat' constructor)⟩,⟨_,rfl,.boxL rfl (by repeat' constructor)⟩,G⟩,rfl⟩))))
    ·
     replace h:=Hv hb h
     refine Gp (ej124 _ _ 2000 h ⟨(by repeat' constructor),⟨⟨_,rfl,.same⟩,⟨_,rfl,.same⟩,⟨_,rfl,.boxL rfl (by repeat' constructor)⟩,⟨_,rfl,.boxL rfl (by repeat' constructor)⟩,⟨_,rfl,.boxL rfl (by repeat' constructor)⟩,G⟩,rfl⟩)
   ·intro j124 h
    replace h:=app1 hkj124 h
    refine G5 fun K126 hK126=>G3 (JLh (.agg [OW 1007 12 G9.av s106.1,OW 1008 2 Ge.av s106.2.1,G1 s106.2.2.1,G1 s106.2.2.2.1,G1 s106.2.2.2.2.1,G1 s106.2.2.2.2.2.1,E7 s106.2.2.2.2.2.2.1,E8 s106.2.2.2.2.2.2.2.1,E9 s106.2.2.2.2.2.2.2.2.1,G1 s106.2.2.2.2.2.2.2.2.2.1,G1 s106.2.2.2.2.2.2.2.2.2.2.1,G1 s106.2.2.2.2.2.2.2.2.2.2.2.1,G1 s106.2.2.2.2.2.2.2.2.2.2.2.2]) (G9e J5 O O O O) O (JLh (.ptr 1006 0) (Jf G35 O O) O (JLh (G1 v113) (Jv Gc O O O O) O (JLh (.ptr 1006 1) (Jf G34 O O) O (JLh (G1 v115) (Jv Gc O O O O) O (JLh (.ptr 1006 2) (Jf G33 O O) O (JLh (BL y106.Deck) (Jv Ru O O O O) O ?_)))))))
    obtain⟨r127,hr127,h⟩:=Gf h
    refine JLh (.tup [G1 r127.1,BL r127.2]) (Gy (args:=[.agg [E5 s106.1,Ea s106.2.1,G1 s106.2.2.1,G1 s106.2.2.2.1,G1 s106.2.2.2.2.1,G1 s106.2.2.2.2.2.1,E7 s106.2.2.2.2.2.2.1,E8 s106.2.2.2.2.2.2.2.1,E9 s106.2.2.2.2.2.2.2.2.1,G1 s106.2.2.2.2.2.2.2.2.2.1,G1 s106.2.2.2.2.2.2.2.2.2.2.1,G1 s106.2.2.2.2.2.2.2.2.2.2.2.1,G1 s106.2.2.2.2.2.2.2.2.2.2.2.2],G1 v113,G1 v115,BL y106.Deck]) O (M_ship_Find_w (Hc.mk s106.1 s106.2.1 (Light.mk s106.2.2.1 s106.2.2.2.1 s106.2.2.2.2.1 s106.2.2.2.2.2.1) s106.2.2.2.2.2.2.1 s106.2.2.2.2.2.2.2.1 s106.2.2.2.2.2.2.2.2.1 (G4.mk s106.2.2.2.2.2.2.2.2.2.1 s106.2.2.2.2.2.2.2.2.2.2.1 s106.2.2.2.2.2.2.2.2.2.2.2.1 s106.2.2.2.2.2.2.2.2.2.2.2.2)) v113 v115 y106.Deck r127 hr127) Q1a ⟨O,O,O,O,O,O,O,O,G⟩) O (JLh (.tup [G1 r127.1,BL r127.2]) (G6 O O) O (JLh (G1 r127.1) (H0 O O O) O (JLh (BL r127.2) (H0 O O O) O (JLh (G1 r127.1) (Gb O O) O (JLh (BL r127.2) (Gb O O) O (G8 (hK126 _ _ ?_)))))))
    refine Gq [(1,.sc (.int .u32 covers)),(4,.ptr 1003 0),(5,.ptr 1004 0),(8,.dptr [G1 v113,G1 v115,BL y106.Deck,G1 v118,G1 0,G1 500000000,G1 500000000,G1 0,E1 ([]:List Int),G1 v121,G1 v123,G1 j124]),(10,BL r127.2),(16,Ed (l.take m5)),(17,G1 ((l.take m5).length:Int)),(18,Ek i106)] [(1007,.spare 59 12 s106.1.length s106.1.length),(1008,.spare 63 2 s106.2.1.length s106.2.1.length),(1003,.box 36 [E5 ([]:List G9),Ea ([]:List Ge),G1 0,G1 0,G1 0,G1 0,E7 ([]:List Row),E8 ([]:List Frame),E9 ([]:List Gv),G1 0,G1 0,G1 0,G1 0]),(1004,.box 36 [OW 1007 12 G9.av s106.1,OW 1008 2 Ge.av s106.2.1,G1 s106.2.2.1,G1 s106.2.2.2.1,G1 s106.2.2.2.2.1,G1 s106.2.2.2.2.2.1,E7 s106.2.2.2.2.2.2.1,E8 s106.2.2.2.2.2.2.2.1,E9 s106.2.2.2.2.2.2.2.2.1,G1 s106.2.2.2.2.2.2.2.2.2.1,G1 s106.2.2.2.2.2.2.2.2.2.2.1,G1 s106.2.2.2.2.2.2.2.2.2.2.2.1,G1 s106.2.2.2.2.2.2.2.2.2.2.2.2])] 1006 rfl rfl rfl ⟨⟨_,rfl,.same⟩,⟨_,rfl,.same⟩,⟨_,rfl,.boxEq rfl rfl⟩,⟨_,rfl,.boxEq rfl rfl⟩,G⟩ rfl (by repeat' (first | exact .ptr | constructor)) ?_
    refine G5 fun K128 hK128=>G3 (JLh (BL r127.2) (G6 O O) O (JLh (BL (!r127.2)) (Zy (b:=r127.2) O O) O (G8 (hK128 _ _ (Gn O (fun hb=>?_) (fun hb=>?_))))))
    ·
     replace h:=H1 hb h
     refine G3 (JLh (.ptr 1004 0) (Jf J0 O O) O (JLh (OW 1007 12 G9.av s106.1) (Jv J8 O O O O) O (JLh (.agg [G1 v113,G1 v115,BL y106.Deck,G1 v118,G1 0,G1 500000000,G1 500000000,G1 0,E1 ([]:List Int),G1 v121,G1 v123,G1 j124]) (Gh G6f O O O) O (JLh (E5 ([(G9.mk v113 v115 y106.Deck v118 0 500000000 500000000 0 [] v121 v123 j124)])) (Hf (xs:=[.agg [G1 v113,G1 v115,BL y106.Deck,G1 v118,G1 0,G1 500000000,G1 500000000,G1 0,E1 ([]:List Int),G1 v121,G1 v123,G1 j124]]) O ⟨O,O,G⟩ J3 G21 O O O O) O ?_))))
     obtain⟨ha129,h⟩:=Hz h
     refine JLh (OW 1007 12 G9.av (s106.1++[(G9.mk v113 v115 y106.Deck v118 0 500000000 500000000 0 [] v121 v123 j124)])) (Q5 (f:=G9.av) (xs:=s106.1) (ys:=[(G9.mk v113 v115 y106.Deck v118 0 500000000 500000000 0 [] v121 v123 j124)]) O O O O J3 J5a ha129 (fun _=>O) (.inl O) O) O (JLh (.ptr 1004 0) (Jf J0 O O) O (Hg (u:=.junk) (H5 (u:=OW 1007 12 G9.av (s106.1++[(G9.mk v113 v115 y106.Deck v118 0 500000000 500000000 0 [] v121 v123 j124)])) (ds:=[OW 1007 12 G9.av (s106.1++[(G9.mk v113 v115 y106.Deck v118 0 500000000 500000000 0 [] v121 v123 j124)]),OW 1008 2 Ge.av s106.2.1,G1 s106.2.2.1,G1 s106.2.2.2.1,G1 s106.2.2.2.2.1,G1 s106.2.2.2.2.2.1,E7 s106.2.2.2.2.2.2.1,E8 s106.2.2.2.2.2.2.2.1,E9 s106.2.2.2.2.2.2.2.2.1,G1 s106.2.2.2.2.2.2.2.2.2.1,G1 s106.2.2.2.2.2.2.2.2.2.2.1,G1 s106.2.2.2.2.2.2.2.2.2.2.2.1,G1 s106.2.2.2.2.2.2.2.2.2.2.2.2]) Ha8 O O O O O O O O) (G8 ?_)))
     exact ej109 _ _ (s106.1++[(G9.mk v113 v115 y106.Deck v118 0 500000000 500000000 0 [] v121 v123 j124)]) h ⟨(by repeat' constructor),⟨⟨_,rfl,.same⟩,⟨_,rfl,.same⟩,⟨_,rfl,.boxL rfl (by repeat' constructor)⟩,⟨_,rfl,.boxL rfl (by repeat' constructor)⟩,G⟩,rfl⟩
    ·
     replace h:=Hv hb h
     refine Gp (ej109 _ _ s106.1 h ⟨(by repeat' constructor),⟨⟨_,rfl,.same⟩,⟨_,rfl,.same⟩,⟨_,rfl,.boxL rfl (by repeat' constructor)⟩,⟨_,rfl,.boxL rfl (by repeat' constructor)⟩,G⟩,rfl⟩)
  ·intro j109 h
   replace h:=app1 hkj109 h
   refine G3 (JLh (G1 ((i106+1:Nat):Int)) (Ht (Hn hk106 hm17) O O O) O (JLh (G1 ((i106+1:Nat):Int)) (G6 O O) O (G8 (e106 _ _ (i106+1) (j109,s106.2.1,s106.2.2.1,s106.2.2.2.1,s106.2.2.2.2.1,s106.2.2.2.2.2.1,s106.2.2.2.2.2.2.1,s106.2.2.2.2.2.2.2.1,s106.2.2.2.2.2.2.2.2.1,s106.2.2.2.2.2.2.2.2.2.1,s106.2.2.2.2.2.2.2.2.2.2.1,s106.2.2.2.2.2.2.2.2.2.2.2.1,s106.2.2.2.2.2.2.2.2.2.2.2.2) (app1 hn106 h) (by omega) ⟨(by repeat' constructor),⟨⟨_,rfl,.same⟩,⟨_,rfl,.same⟩,⟨_,rfl,.boxL rfl (by repeat' constructor)⟩,⟨_,rfl,.boxL rfl (by repeat' constructor)⟩,G⟩,rfl⟩))))
 ·
  have h:=app1 hkx106 (Hs hi106 (H9 hb))
  refine Hi (hK3 _ _ ?_)
  obtain⟨kj130,hkj130,h⟩:=Q7 h
  refine Jm (fun j130:(List G9)=>kj130 j130=some r) (fun j130=>[(1,.sc (.int .u32 covers)),(4,.ptr 1003 0),(5,.ptr 1004 0)]) (fun j130=>[(1008,.spare 63 2 s106.2.1.length s106.2.1.length),(1003,.box 36 [E5 ([]:List G9),Ea ([]:List Ge),G1 0,G1 0,G1 0,G1 0,E7 ([]:List Row),E8 ([]:List Frame),E9 ([]:List Gv),G1 0,G1 0,G1 0,G1 0]),(1004,.box 36 [E5 j130,OW 1008 2 Ge.av s106.2.1,G1 s106.2.2.1,G1 s106.2.2.2.1,G1 s106.2.2.2.2.1,G1 s106.2.2.2.2.2.1,E7 s106.2.2.2.2.2.2.1,E8 s106.2.2.2.2.2.2.2.1,E9 s106.2.2.2.2.2.2.2.2.1,G1 s106.2.2.2.2.2.2.2.2.2.1,G1 s106.2.2.2.2.2.2.2.2.2.2.1,G1 s106.2.2.2.2.2.2.2.2.2.2.2.1,G1 s106.2.2.2.2.2.2.2.2.2.2.2.2])]) (fun Kj130 ej130=>?_) ?_
  ·
   refine G5 fun K131 hK131=>G3 (JLh (.ptr 1004 0) (Jf J0 O O) O (JLh (OW 1007 12 G9.av s106.1) (Jv J8 O O O O) O (Hp (f:=G9.av) (xs:=s106.1) J3 O O (fun hm74=>?_) O O O)))
   refine JLh (BL (decide ((s106.1.length:Int)=0))) (Qh O O O) O (G8 (hK131 _ _ (Gn O (fun hb=>?_) (fun hb=>?_))))
   ·
    replace h:=H1 hb h
    refine G3 ?_
    refine JLh (.agg [G1 0,G1 0,BL false,G1 3,G1 0,G1 500000000,G1 500000000,G1 0,E1 ([]:List Int),G1 0,G1 0,G1 2000]) (Ji (cs:=[G1 0,G1 0,BL false,G1 3,G1 0,G1 500000000,G1 500000000,G1 0,E1 ([]:List Int),G1 0,G1 0,G1 2000]) [(0,1),(1,1),(2,1),(3,1),(4,1),(5,1),(6,1),(7,1),(8,1),(9,1),(10,1),(11,1)] [G1 0,G1 0,BL false,G1 0,G1 0,G1 0,G1 0,G1 0,E1 ([]:List Int),G1 0,G1 0,G1 0] [.int .i64 0,.int .i64 0,.bool false,.int .i64 0,.int .i64 0,.int .i64 0,.int .i64 0,.int .i64 0,.slice none 0 0,.int .i64 0,.int .i64 0,.int .i64 0] H31 Ha4 ⟨.inl O,.inl O,.inl O,.inl O,.inl O,.inl O,.inl O,.inl O,.inr ⟨_,O,O⟩,.inl O,.inl O,.inl O,G⟩ O O) O (JLh (E5 ([(G9.mk 0 0 false 3 0 500000000 500000000 0 [] 0 0 2000)])) (Hf (xs:=[.agg [G1 0,G1 0,BL false,G1 3,G1 0,G1 500000000,G1 500000000,G1 0,E1 ([]:List Int),G1 0,G1 0,G1 2000]]) O ⟨O,O,G⟩ J3 G21 O O O O) O (JLh (.ptr 1004 0) (Jf J0 O O) O (Hg (u:=.junk) (H5 (u:=E5 ([(G9.mk 0 0 false 3 0 500000000 500000000 0 [] 0 0 2000)])) (ds:=[E5 ([(G9.mk 0 0 false 3 0 500000000 500000000 0 [] 0 0 2000)]),OW 1008 2 Ge.av s106.2.1,G1 s106.2.2.1,G1 s106.2.2.2.1,G1 s106.2.2.2.2.1,G1 s106.2.2.2.2.2.1,E7 s106.2.2.2.2.2.2.1,E8 s106.2.2.2.2.2.2.2.1,E9 s106.2.2.2.2.2.2.2.2.1,G1 s106.2.2.2.2.2.2.2.2.2.1,G1 s106.2.2.2.2.2.2.2.2.2.2.1,G1 s106.2.2.2.2.2.2.2.2.2.2.2.1,G1 s106.2.2.2.2.2.2.2.2.2.2.2.2]) Ha8 O O O O O O O O) (G8 ?_))))
    exact ej130 _ _ ([(G9.mk 0 0 false 3 0 500000000 500000000 0 [] 0 0 2000)]) h ⟨⟨.same rfl,.same rfl,.same rfl,G⟩,⟨⟨_,rfl,.same⟩,⟨_,rfl,.boxL rfl (by repeat' constructor)⟩,⟨_,rfl,.boxL rfl (by repeat' constructor)⟩,G⟩,rfl⟩
   ·
    replace h:=Hv hb h
    refine Gp (ej130 _ _ s106.1 h ⟨⟨.same rfl,.same rfl,.same rfl,G⟩,⟨⟨_,rfl,.same⟩,⟨_,rfl,.boxL rfl (by repeat' constructor)⟩,⟨_,rfl,.boxL rfl ⟨.list rfl,.same rfl,.same rfl,.same rfl,.same rfl,.same rfl,.same rfl,.same rfl,.same rfl,.same rfl,.same rfl,.same rfl,.same rfl,G⟩⟩,G⟩,rfl⟩)
  ·intro j130 h
   replace h:=app1 hkj130 h
   refine G5 (fun K132 hK132=>G5 fun K133 hK133=>G3 (JLh (G1 0) (Gb O O) O (G8 (hK133 _ _ (Gi ?_)))))
   obtain⟨hx200,h⟩:=Hz h
   obtain⟨b200,kx200,hb200,hkx200,h⟩:=H2d h
   refine Ha (fun i200 (s200:(List G9)×(List Ge)×Int×Int×Int×Int×(List Row)×(List Frame)×(List Gv)×Int×Int×Int×Int)=>upto b200 kx200 ((5:Int).toNat - i200) i200 s200=some r) (fun i200 s200=>[(1,.sc (.int .u32 covers)),(4,.ptr 1003 0),(5,.ptr 1004 0),(11,Ek i200)]) (fun i200 s200=>[(1008,.spare 63 2 s200.2.1.length s200.2.1.length),(1003,.box 36 [E5 ([]:List G9),Ea ([]:List Ge),G1 0,G1 0,G1 0,G1 0,E7 ([]:List Row),E8 ([]:List Frame),E9 ([]:List Gv),G1 0,G1 0,G1 0,G1 0]),(1004,.box 36 [E5 s200.1,OW 1008 2 Ge.av s200.2.1,G1 s200.2.2.1,G1 s200.2.2.2.1,G1 s200.2.2.2.2.1,G1 s200.2.2.2.2.2.1,E7 s200.2.2.2.2.2.2.1,E8 s200.2.2.2.2.2.2.2.1,E9 s200.2.2.2.2.2.2.2.2.1,G1 s200.2.2.2.2.2.2.2.2.2.1,G1 s200.2.2.2.2.2.2.2.2.2.2.1,G1 s200.2.2.2.2.2.2.2.2.2.2.2.1,G1 s200.2.2.2.2.2.2.2.2.2.2.2.2])]) (fun i200=>(5:Int).toNat - i200) 0 (j130,s106.2.1,s106.2.2.1,s106.2.2.2.1,s106.2.2.2.2.1,s106.2.2.2.2.2.1,s106.2.2.2.2.2.2.1,s106.2.2.2.2.2.2.2.1,s106.2.2.2.2.2.2.2.2.1,s106.2.2.2.2.2.2.2.2.2.1,s106.2.2.2.2.2.2.2.2.2.2.1,s106.2.2.2.2.2.2.2.2.2.2.2.1,s106.2.2.2.2.2.2.2.2.2.2.2.2) h ⟨(by repeat' constructor),⟨⟨_,rfl,.same⟩,⟨_,rfl,.boxL rfl (by repeat' constructor)⟩,⟨_,rfl,.boxL rfl (by repeat' constructor)⟩,G⟩,rfl⟩ ?_
   clear h
   intro i200 s200 hi200 K200 e200
   refine G5 (fun K201 hK201=>G5 fun K202 hK202=>G3 (JLh (Ek i200) (G6 O O) O (JLh (BL (decide ((i200:Int) < 5))) (J2 O O O) O (G8 (hK202 _ _ (Gn O (fun hb=>?_) (fun hb=>?_)))))))
   ·
    have hk200:=Ge0 hb
    obtain⟨nx200,hn200,h⟩:=Gd3 hi200 hk200
    replace h:=J8a hb200 h
    refine Gp (hK201 _ _ ?_)
    obtain⟨kj203,hkj203,h⟩:=Q7 h
    refine Jm (fun j203:(List Ge)=>kj203 j203=some r) (fun j203=>[(1,.sc (.int .u32 covers)),(4,.ptr 1003 0),(5,.ptr 1004 0),(11,Ek i200)]) (fun j203=>[(1008,.spare 63 2 j203.length j203.length),(1003,.box 36 [E5 ([]:List G9),Ea ([]:List Ge),G1 0,G1 0,G1 0,G1 0,E7 ([]:List Row),E8 ([]:List Frame),E9 ([]:List Gv),G1 0,G1 0,G1 0,G1 0]),(1004,.box 36 [E5 s200.1,OW 1008 2 Ge.av j203,G1 s200.2.2.1,G1 s200.2.2.2.1,G1 s200.2.2.2.2.1,G1 s200.2.2.2.2.2.1,E7 s200.2.2.2.2.2.2.1,E8 s200.2.2.2.2.2.2.2.1,E9 s200.2.2.2.2.2.2.2.2.1,G1 s200.2.2.2.2.2.2.2.2.2.1,G1 s200.2.2.2.2.2.2.2.2.2.2.1,G1 s200.2.2.2.2.2.2.2.2.2.2.2.1,G1 s200.2.2.2.2.2.2.2.2.2.2.2.2])]) (fun Kj203 ej203=>?_) ?_
    ·
     refine Gi ?_
     obtain⟨kj204,hkj204,h⟩:=Q7 h
     refine Jm (fun j204:(List Ge)=>kj204 j204=some r) (fun j204=>[(1,.sc (.int .u32 covers)),(4,.ptr 1003 0),(5,.ptr 1004 0),(11,Ek i200)]) (fun j204=>[(1008,.spare 63 2 j204.length j204.length),(1003,.box 36 [E5 ([]:List G9),Ea ([]:List Ge),G1 0,G1 0,G1 0,G1 0,E7 ([]:List Row),E8 ([]:List Frame),E9 ([]:List Gv),G1 0,G1 0,G1 0,G1 0]),(1004,.box 36 [E5 s200.1,OW 1008 2 Ge.av j204,G1 s200.2.2.1,G1 s200.2.2.2.1,G1 s200.2.2.2.2.1,G1 s200.2.2.2.2.2.1,E7 s200.2.2.2.2.2.2.1,E8 s200.2.2.2.2.2.2.2.1,E9 s200.2.2.2.2.2.2.2.2.1,G1 s200.2.2.2.2.2.2.2.2.2.1,G1 s200.2.2.2.2.2.2.2.2.2.2.1,G1 s200.2.2.2.2.2.2.2.2.2.2.2.1,G1 s200.2.2.2.2.2.2.2.2.2.2.2.2])]) (fun Kj204 ej204=>?_) ?_
     ·
      refine G5 fun K205 hK205=>G3 (JLh (.sc (.int .u32 covers)) (G6 O O) O (JLh (Ek i200) (G6 O O) O ?_))
      obtain⟨v206,hv206,h⟩:=Hb h
      refine JLh (G1 v206) (G31 hv206 O O O) O ?_
      obtain⟨m207,hm207,h⟩:=Gf h
      refine JLh (.sc (.int .u32 (Js .u32 covers m207))) (H76 (s:=m207) (Yo hm207).1 O O O) O (JLh (.sc (.int .u32 (Jh .u32 (Js .u32 covers m207) 1))) (Jab O O O) O (JLh (BL (decide ((Jh .u32 (Js .u32 covers m207) 1)=1))) (Qh O O O) O (G8 (hK205 _ _ (Gn O (fun hb=>?_) (fun hb=>?_))))))
      ·
       replace h:=H1 hb h
       refine G3 (JLh (.ptr 1004 1) (Jf G0e O O) O (JLh (OW 1008 2 Ge.av s200.2.1) (Jv G7a O O O O) O (JLh (Ek i200) (G6 O O) O (JLh (E1 [0,1]) (Hf (xs:=[G1 0,G1 1]) O ⟨O,O,O,O,G⟩ Gt Yn O O O O) O (JLh (.agg [Ek i200,E1 [0,1]]) (Ji (cs:=[Ek i200,E1 [0,1]]) [(0,1),(1,1)] [G1 0,E1 ([]:List Int)] [.int .i64 0,.slice none 0 0] Hca J4d ⟨.inl O,.inr ⟨_,O,O⟩,G⟩ O O) O (JLh (Ea ([(Ge.mk (i200:Int) [0,1])])) (Hf (xs:=[.agg [Ek i200,E1 [0,1]]]) O ⟨O,O,G⟩ G03 Gf5 O O O O) O ?_))))))
       obtain⟨ha208,h⟩:=Hz h
       refine JLh (OW 1008 2 Ge.av (s200.2.1++[(Ge.mk (i200:Int) [0,1])])) (Q5 (f:=Ge.av) (xs:=s200.2.1) (ys:=[(Ge.mk (i200:Int) [0,1])]) O O O O G03 J59 ha208 (fun _=>O) (.inl O) O) O (JLh (.ptr 1004 1) (Jf G0e O O) O (Hg (u:=.junk) (H5 (u:=OW 1008 2 Ge.av (s200.2.1++[(Ge.mk (i200:Int) [0,1])])) (ds:=[E5 s200.1,OW 1008 2 Ge.av (s200.2.1++[(Ge.mk (i200:Int) [0,1])]),G1 s200.2.2.1,G1 s200.2.2.2.1,G1 s200.2.2.2.2.1,G1 s200.2.2.2.2.2.1,E7 s200.2.2.2.2.2.2.1,E8 s200.2.2.2.2.2.2.2.1,E9 s200.2.2.2.2.2.2.2.2.1,G1 s200.2.2.2.2.2.2.2.2.2.1,G1 s200.2.2.2.2.2.2.2.2.2.2.1,G1 s200.2.2.2.2.2.2.2.2.2.2.2.1,G1 s200.2.2.2.2.2.2.2.2.2.2.2.2]) J51 O O O O O O O O) (G8 ?_)))
       exact ej204 _ _ (s200.2.1++[(Ge.mk (i200:Int) [0,1])]) h ⟨(by repeat' constructor),⟨⟨_,rfl,.same⟩,⟨_,rfl,.boxL rfl (by repeat' constructor)⟩,⟨_,rfl,.boxL rfl (by repeat' constructor)⟩,G⟩,rfl⟩
      ·
       replace h:=Hv hb h
       refine Gp (ej204 _ _ s200.2.1 h ⟨(by repeat' constructor),⟨⟨_,rfl,.same⟩,⟨_,rfl,.boxL rfl (by repeat' constructor)⟩,⟨_,rfl,.boxL rfl (by repeat' constructor)⟩,G⟩,rfl⟩)
     ·intro j204 h
      replace h:=app1 hkj204 h
      refine G5 fun K209 hK209=>G3 (JLh (.sc (.int .u32 covers)) (G6 O O) O (JLh (Ek i200) (G6 O O) O ?_))
      obtain⟨v210,hv210,h⟩:=Hb h
      refine JLh (G1 v210) (G31 hv210 O O O) O ?_
      obtain⟨v211,hv211,h⟩:=Hb h
      refine JLh (G1 v211) (Ht hv211 O O O) O ?_
      obtain⟨m212,hm212,h⟩:=Gf h
      refine JLh (.sc (.int .u32 (Js .u32 covers m212))) (H76 (s:=m212) (Yo hm212).1 O O O) O (JLh (.sc (.int .u32 (Jh .u32 (Js .u32 covers m212) 1))) (Jab O O O) O (JLh (BL (decide ((Jh .u32 (Js .u32 covers m212) 1)=1))) (Qh O O O) O (G8 (hK209 _ _ (Gn O (fun hb=>?_) (fun hb=>?_))))))
      ·
       replace h:=H1 hb h
       refine G3 (JLh (.ptr 1004 1) (Jf G0e O O) O (JLh (OW 1008 2 Ge.av j204) (Jv G7a O O O O) O (JLh (Ek i200) (G6 O O) O (JLh (E1 [2,3,4]) (Hf (xs:=[G1 2,G1 3,G1 4]) O ⟨O,O,O,O,O,O,G⟩ Gt Yn O O O O) O (JLh (.agg [Ek i200,E1 [2,3,4]]) (Ji (cs:=[Ek i200,E1 [2,3,4]]) [(0,1),(1,1)] [G1 0,E1 ([]:List Int)] [.int .i64 0,.slice none 0 0] Hca J4d ⟨.inl O,.inr ⟨_,O,O⟩,G⟩ O O) O (JLh (Ea ([(Ge.mk (i200:Int) [2,3,4])])) (Hf (xs:=[.agg [Ek i200,E1 [2,3,4]]]) O ⟨O,O,G⟩ G03 Gf5 O O O O) O ?_))))))
       obtain⟨ha213,h⟩:=Hz h
       refine JLh (OW 1008 2 Ge.av (j204++[(Ge.mk (i200:Int) [2,3,4])])) (Q5 (f:=Ge.av) (xs:=j204) (ys:=[(Ge.mk (i200:Int) [2,3,4])]) O O O O G03 J59 ha213 (fun _=>O) (.inl O) O) O (JLh (.ptr 1004 1) (Jf G0e O O) O (Hg (u:=.junk) (H5 (u:=OW 1008 2 Ge.av (j204++[(Ge.mk (i200:Int) [2,3,4])])) (ds:=[E5 s200.1,OW 1008 2 Ge.av (j204++[(Ge.mk (i200:Int) [2,3,4])]),G1 s200.2.2.1,G1 s200.2.2.2.1,G1 s200.2.2.2.2.1,G1 s200.2.2.2.2.2.1,E7 s200.2.2.2.2.2.2.1,E8 s200.2.2.2.2.2.2.2.1,E9 s200.2.2.2.2.2.2.2.2.1,G1 s200.2.2.2.2.2.2.2.2.2.1,G1 s200.2.2.2.2.2.2.2.2.2.2.1,G1 s200.2.2.2.2.2.2.2.2.2.2.2.1,G1 s200.2.2.2.2.2.2.2.2.2.2.2.2]) J51 O O O O O O O O) (G8 ?_)))
       exact ej203 _ _ (j204++[(Ge.mk (i200:Int) [2,3,4])]) h ⟨(by repeat' constructor),⟨⟨_,rfl,.same⟩,⟨_,rfl,.boxL rfl (by repeat' constructor)⟩,⟨_,rfl,.boxL rfl (by repeat' constructor)⟩,G⟩,rfl⟩
      ·
       replace h:=Hv hb h
       refine Gp (ej203 _ _ j204 h ⟨(by repeat' constructor),⟨⟨_,rfl,.same⟩,⟨_,rfl,.boxL rfl (by repeat' constructor)⟩,⟨_,rfl,.boxL rfl (by repeat' constructor)⟩,G⟩,rfl⟩)
    ·intro j203 h
     replace h:=app1 hkj203 h
     refine G3 (JLh (Ek i200) (G6 O O) O (JLh (G1 ((i200+1:Nat):Int)) (Ht (Hn hk200 (G92 hx200)) O O O) O (JLh (G1 ((i200+1:Nat):Int)) (Gb O O) O (G8 (e200 _ _ (i200+1) (s200.1,j203,s200.2.2.1,s200.2.2.2.1,s200.2.2.2.2.1,s200.2.2.2.2.2.1,s200.2.2.2.2.2.2.1,s200.2.2.2.2.2.2.2.1,s200.2.2.2.2.2.2.2.2.1,s200.2.2.2.2.2.2.2.2.2.1,s200.2.2.2.2.2.2.2.2.2.2.1,s200.2.2.2.2.2.2.2.2.2.2.2.1,s200.2.2.2.2.2.2.2.2.2.2.2.2) (app1 hn200 h) (by omega) ⟨(by repeat' constructor),⟨⟨_,rfl,.same⟩,⟨_,rfl,.boxL rfl (by repeat' constructor)⟩,⟨_,rfl,.boxL rfl (by repeat' constructor)⟩,G⟩,rfl⟩)))))
   ·
    have h:=app1 hkx200 (Gd4 hi200 (G24 hb))
    refine Hi (hK132 _ _ ?_)
    refine G5 fun K214 hK214=>G3 (JLh (.agg [E5 s200.1,OW 1008 2 Ge.av s200.2.1,G1 s200.2.2.1,G1 s200.2.2.2.1,G1 s200.2.2.2.2.1,G1 s200.2.2.2.2.2.1,E7 s200.2.2.2.2.2.2.1,E8 s200.2.2.2.2.2.2.2.1,E9 s200.2.2.2.2.2.2.2.2.1,G1 s200.2.2.2.2.2.2.2.2.2.1,G1 s200.2.2.2.2.2.2.2.2.2.2.1,G1 s200.2.2.2.2.2.2.2.2.2.2.2.1,G1 s200.2.2.2.2.2.2.2.2.2.2.2.2]) (G9e J5 O O O O) O (Hg (u:=.junk) (H5 (u:=.agg [E5 s200.1,OW 1008 2 Ge.av s200.2.1,G1 s200.2.2.1,G1 s200.2.2.2.1,G1 s200.2.2.2.2.1,G1 s200.2.2.2.2.2.1,E7 s200.2.2.2.2.2.2.1,E8 s200.2.2.2.2.2.2.2.1,E9 s200.2.2.2.2.2.2.2.2.1,G1 s200.2.2.2.2.2.2.2.2.2.1,G1 s200.2.2.2.2.2.2.2.2.2.2.1,G1 s200.2.2.2.2.2.2.2.2.2.2.2.1,G1 s200.2.2.2.2.2.2.2.2.2.2.2.2]) (ds:=[E5 s200.1,OW 1008 2 Ge.av s200.2.1,G1 s200.2.2.1,G1 s200.2.2.2.1,G1 s200.2.2.2.2.1,G1 s200.2.2.2.2.2.1,E7 s200.2.2.2.2.2.2.1,E8 s200.2.2.2.2.2.2.2.1,E9 s200.2.2.2.2.2.2.2.2.1,G1 s200.2.2.2.2.2.2.2.2.2.1,G1 s200.2.2.2.2.2.2.2.2.2.2.1,G1 s200.2.2.2.2.2.2.2.2.2.2.2.1,G1 s200.2.2.2.2.2.2.2.2.2.2.2.2]) Ha7 O O O O O O O O) (G8 (hK214 _ _ ?_))))
    refine Gx (⟨[.agg [E5 s200.1,Ea s200.2.1,G1 s200.2.2.1,G1 s200.2.2.2.1,G1 s200.2.2.2.2.1,G1 s200.2.2.2.2.2.1,E7 s200.2.2.2.2.2.2.1,E8 s200.2.2.2.2.2.2.2.1,E9 s200.2.2.2.2.2.2.2.2.1,G1 s200.2.2.2.2.2.2.2.2.2.1,G1 s200.2.2.2.2.2.2.2.2.2.2.1,G1 s200.2.2.2.2.2.2.2.2.2.2.2.1,G1 s200.2.2.2.2.2.2.2.2.2.2.2.2]],[],G,O,⟨⟨_,⟨_,_,_,_,O,O,O,.inl ⟨J5,O⟩⟩,.agg ⟨.same O,.list O,.same O,.same O,.same O,.same O,.same O,.same O,.same O,.same O,.same O,.same O,.same O,G⟩⟩,G⟩,O,congrArg (fun r:Hc=>(.agg (Hc.cs r):AV)) (Option.some.inj h)⟩)

def G45 (boxes:List Gr) (calls:Int):Option Bool:=
 bif (((decide (calls < 1))||(decide (20 < calls)))||(decide (2000 < (boxes.length:Int)))) then
 (some false)
 else
 (each (fun y28 i28 (s28:Int) nx28=>
   bif ((((((decide (y28.ID≤s28))||(decide (999999 < y28.ID)))||((decide (y28.Size≠40))&&((decide (y28.Size≠20))||y28.High)))||(decide (y28.Load < 0)))||(decide (y28.Discharge≤y28.Load)))||(decide (calls≤y28.Discharge))) then
   (some false)
   else
   (nx28 y28.ID))
  (fun(s28:Int)=>
   some true) boxes 0 0)
theorem H70 (boxes:List Gr) (calls:Int) (r:Bool) (h:G45 boxes calls=some r):Pure Tryz.prog 42 [E2 boxes,G1 calls] (·=BL r):=by
 unfold G45 at h
 refine H4 [.tmp 4] Tryz.func42 O O (G5 fun K1 hK1=>G3 (JLh (BL false) (Gb O O) O (G8 (hK1 _ _ (G5 (fun K2 hK2=>G5 fun K3 hK3=>G3 (JLh (G1 calls) (G6 O O) O (JLh (BL (decide (calls < 1))) (J2 O O O) O (JLh (BL (decide (calls < 1))) (G6 O O) O (Gg (u:=G1 calls) [] O O O .scf G (fun hc=>G6 O O) ?_))))))))))
 refine Gg (u:=BL (decide (20 < calls))) [(11,G1 calls)] O O O .scf ⟨.all id,G⟩ (fun hc=>Zj O O O) ?_
 refine JLh (BL ((decide (calls < 1))||(decide (20 < calls)))) (G2a O O O O) O (JLh (BL ((decide (calls < 1))||(decide (20 < calls)))) (G6 O O) O (Gg (u:=E2 boxes) [] O O O .scf G (fun hc=>G6 O O) ?_))
 refine Gg (u:=Ek boxes.length) [(15,E2 boxes)] O O O .scf ⟨.all id,G⟩ (fun hc=>Zd (f:=Gr.av) (xs:=boxes) Jg O O) ?_
 refine Gg (u:=BL (decide (2000 < (boxes.length:Int)))) [(16,Ek boxes.length)] O O O .scf ⟨.all id,G⟩ (fun hc=>Zj O O O) ?_
 refine JLh (BL (((decide (calls < 1))||(decide (20 < calls)))||(decide (2000 < (boxes.length:Int))))) (G2a O O O O) O (G8 (hK3 _ _ (Gn O (fun hb=>?_) (fun hb=>?_))))
 ·
  replace h:=H1 hb h
  refine G5 fun K4 hK4=>G3 (JLh (BL false) (Gb O O) O (G8 (hK4 _ _ (Gx (⟨[BL false],[],G,O,⟨⟨_,O,.conv (.same O)⟩,G⟩,O,congrArg (fun r:Bool=>(BL r:AV)) (Option.some.inj h)⟩)))))
 ·
  replace h:=Hv hb h
  refine Gp (hK2 _ _ (G5 fun K5 hK5=>G3 (JLh (G1 0) (Gb O O) O (G8 (hK5 _ _ (G5 (fun K6 hK6=>G5 fun K7 hK7=>G3 (JLh (E2 boxes) (G6 O O) O (Hp (f:=Gr.av) (xs:=boxes) Jg O O (fun hm20=>?_) O O O)))))))))
  refine JLh (G1 0) (G6 O O) O (G8 (hK7 _ _ (Gi ?_)))
  obtain⟨b28,kx28,hb28,hkx28,h⟩:=Hy h
  refine Ha (fun i28 (s28:Int)=>each b28 kx28 (List.drop i28 boxes) i28 s28=some r) (fun i28 s28=>[(1,G1 calls),(5,G1 s28),(19,E2 boxes),(20,Ek boxes.length),(21,Ek i28)]) (fun i28 s28=>[]) (fun i28=>boxes.length - i28) 0 0 h ⟨(by repeat' constructor),G,rfl⟩ ?_
  clear h
  intro i28 s28 hi28 K28 e28
  refine G5 fun K29 hK29=>G3 (JLh (BL (decide ((i28:Int) < (boxes.length:Int)))) (J2 O O O) O (G8 (hK29 _ _ (G5 (fun K30 hK30=>Gn O (fun hb=>?_) (fun hb=>?_))))))
  ·
   have hk28:=Jd hb
   obtain⟨y28,nx28,hy28,hn28,h⟩:=Hr hi28 hk28
   replace h:=Rq hb28 h
   refine Gp (hK30 _ _ (G5 (fun K31 hK31=>Gi (G5 fun K32 hK32=>G3 (JLh (Eh y28) (Gz (f:=Gr.av) (xs:=boxes) (y:=y28) O O O Jg hy28 O) O (JLh (.agg (Gr.cs y28)) (Gh Z1 O O O) O (JLh (.ptr 1128 0) (Hh 1128 9 Rg O O) O (Hg (u:=.junk) (H5 (u:=.agg (Gr.cs y28)) (ds:=(Gr.cs y28)) Z4 O O O O O O O O) (G8 (hK32 _ _ (Gq [(1,G1 calls),(5,G1 s28),(7,Eh y28),(19,E2 boxes),(20,Ek boxes.length),(21,Ek i28)] [] 1128 rfl rfl rfl G rfl (by repeat' (first | exact .ptr | constructor)) (G5 (fun K33 hK33=>?_)))))))))))))
   refine G5 fun K34 hK34=>G3 (JLh (Eh y28) (Gd Qg O O O) O (JLh (G1 y28.ID) (Gk Gc O O O) O (JLh (G1 s28) (G6 O O) O (JLh (BL (decide (y28.ID≤s28))) (Gc4 O O O) O (JLh (BL (decide (y28.ID≤s28))) (G6 O O) O (Gg (u:=Eh y28) [] O O O .scf G (fun hc=>Gd Qg O O O) ?_))))))
   refine Gg (u:=G1 y28.ID) [(30,Eh y28)] O O O .scf ⟨.all id,G⟩ (fun hc=>Gk Gc O O O) ?_
   refine Gg (u:=BL (decide (999999 < y28.ID))) [(31,G1 y28.ID)] O O O .scf ⟨.all id,G⟩ (fun hc=>Zj O O O) ?_
   refine JLh (BL ((decide (y28.ID≤s28))||(decide (999999 < y28.ID)))) (G2a O O O O) O (JLh (BL ((decide (y28.ID≤s28))||(decide (999999 < y28.ID)))) (G6 O O) O (Gg (u:=.dptr ((Gr.cs y28).drop 2)) [] O O O .scf G (fun hc=>Gd G0d O O O) ?_))
   refine Gg (u:=U8 y28.Size) [(35,.dptr ((Gr.cs y28).drop 2))] O O O .scf ⟨.all id,G⟩ (fun hc=>Gk J7 O O O) ?_
   refine Gg (u:=BL (decide (y28.Size≠40))) [(36,U8 y28.Size)] O O O .scf ⟨.all id,G⟩ (fun hc=>H78 O O O) ?_
   refine Gg (u:=BL (decide (y28.Size≠40))) [(37,BL (decide (y28.Size≠40)))] O O O .scf ⟨.all id,G⟩ (fun hc=>G6 O O) ?_
   refine Gg (u:=.dptr ((Gr.cs y28).drop 2)) [] O O O .optt G (fun hc=>Gd G0d O O O) ?_
   refine Gg (u:=U8 y28.Size) [(39,.dptr ((Gr.cs y28).drop 2))] O O O .optt ⟨.all id,G⟩ (fun hc=>Gk J7 O O O) ?_
   refine Gg (u:=BL (decide (y28.Size≠20))) [(40,U8 y28.Size)] O O O .optt ⟨.all id,G⟩ (fun hc=>H78 O O O) ?_
   refine Gg (u:=BL (decide (y28.Size≠20))) [(41,BL (decide (y28.Size≠20)))] O O O .optt ⟨.all id,G⟩ (fun hc=>G6 O O) ?_
   refine Gg (u:=.dptr ((Gr.cs y28).drop 3)) [] O O O .optf G (fun hc=>Gd H11 O O O) ?_
   refine Gg (u:=BL y28.High) [(43,.dptr ((Gr.cs y28).drop 3))] O O O .optf ⟨.all id,G⟩ (fun hc=>Gk Ru O O O) ?_
   refine Gg (u:=BL ((decide (y28.Size≠20))||y28.High)) [(42,BL (decide (y28.Size≠20))),(44,_)] O O O .optt ⟨.all id,.part,G⟩ (fun hc=>G2a O O O O) ?_
   refine Gg (u:=BL ((decide (y28.Size≠40))&&((decide (y28.Size≠20))||y28.High))) [(38,BL (decide (y28.Size≠40))),(45,_)] O O O .scf ⟨.all id,.part,G⟩ (fun hc=>Qc O O O O) ?_
   refine JLh (BL (((decide (y28.ID≤s28))||(decide (999999 < y28.ID)))||((decide (y28.Size≠40))&&((decide (y28.Size≠20))||y28.High)))) (G2a O O O O) O (JLh (BL (((decide (y28.ID≤s28))||(decide (999999 < y28.ID)))||((decide (y28.Size≠40))&&((decide (y28.Size≠20))||y28.High)))) (G6 O O) O (Gg (u:=.dptr ((Gr.cs y28).drop 5)) [] O O O .scf G (fun hc=>Gd Yq O O O) ?_))
   refine Gg (u:=G1 y28.Load) [(49,.dptr ((Gr.cs y28).drop 5))] O O O .scf ⟨.all id,G⟩ (fun hc=>Gk Gc O O O) ?_
   refine Gg (u:=BL (decide (y28.Load < 0))) [(50,G1 y28.Load)] O O O .scf ⟨.all id,G⟩ (fun hc=>J2 O O O) ?_
   refine JLh (BL ((((decide (y28.ID≤s28))||(decide (999999 < y28.ID)))||((decide (y28.Size≠40))&&((decide (y28.Size≠20))||y28.High)))||(decide (y28.Load < 0)))) (G2a O O O O) O (JLh (BL ((((decide (y28.ID≤s28))||(decide (999999 < y28.ID)))||((decide (y28.Size≠40))&&((decide (y28.Size≠20))||y28.High)))||(decide (y28.Load < 0)))) (G6 O O) O (Gg (u:=.dptr ((Gr.cs y28).drop 5)) [] O O O .scf G (fun hc=>Gd Yq O O O) ?_))
   refine Gg (u:=G1 y28.Load) [(54,.dptr ((Gr.cs y28).drop 5))] O O O .scf ⟨.all id,G⟩ (fun hc=>Gk Gc O O O) ?_
   refine Gg (u:=.dptr ((Gr.cs y28).drop 6)) [] O O O .scf G (fun hc=>Gd Zg O O O) ?_
   refine Gg (u:=G1 y28.Discharge) [(56,.dptr ((Gr.cs y28).drop 6))] O O O .scf ⟨.all id,G⟩ (fun hc=>Gk Gc O O O) ?_
   refine Gg (u:=BL (decide (y28.Discharge≤y28.Load))) [(55,G1 y28.Load),(57,G1 y28.Discharge)] O O O .scf ⟨.all id,.all id,G⟩ (fun hc=>G4b O O O) ?_
   refine JLh (BL (((((decide (y28.ID≤s28))||(decide (999999 < y28.ID)))||((decide (y28.Size≠40))&&((decide (y28.Size≠20))||y28.High)))||(decide (y28.Load < 0)))||(decide (y28.Discharge≤y28.Load)))) (G2a O O O O) O (JLh (BL (((((decide (y28.ID≤s28))||(decide (999999 < y28.ID)))||((decide (y28.Size≠40))&&((decide (y28.Size≠20))||y28.High)))||(decide (y28.Load < 0)))||(decide (y28.Discharge≤y28.Load)))) (G6 O O) O (Gg (u:=.dptr ((Gr.cs y28).drop 6)) [] O O O .scf G (fun hc=>Gd Zg O O O) ?_))
   refine Gg (u:=G1 y28.Discharge) [(61,.dptr ((Gr.cs y28).drop 6))] O O O .scf ⟨.all id,G⟩ (fun hc=>Gk Gc O O O) ?_
   refine Gg (u:=G1 calls) [] O O O .scf G (fun hc=>G6 O O) ?_
   refine Gg (u:=BL (decide (calls≤y28.Discharge))) [(62,G1 y28.Discharge),(63,G1 calls)] O O O .scf ⟨.all id,.all id,G⟩ (fun hc=>G4b O O O) ?_
   refine JLh (BL ((((((decide (y28.ID≤s28))||(decide (999999 < y28.ID)))||((decide (y28.Size≠40))&&((decide (y28.Size≠20))||y28.High)))||(decide (y28.Load < 0)))||(decide (y28.Discharge≤y28.Load)))||(decide (calls≤y28.Discharge)))) (G2a O O O O) O (G8 (hK34 _ _ (Gn O (fun hb=>?_) (fun hb=>?_))))
   ·
    replace h:=H1 hb h
    refine G5 fun K35 hK35=>G3 (JLh (BL false) (Gb O O) O (G8 (hK35 _ _ (Gx (⟨[BL false],[],G,O,⟨⟨_,O,.conv (.same O)⟩,G⟩,O,congrArg (fun r:Bool=>(BL r:AV)) (Option.some.inj h)⟩)))))
   ·
    replace h:=Hv hb h
    refine Gp (hK33 _ _ (G3 (JLh (Eh y28) (Gd Qg O O O) O (JLh (G1 y28.ID) (Gk Gc O O O) O (JLh (G1 y28.ID) (Gb O O) O (G8 (hK31 _ _ (G3 (JLh (G1 ((i28+1:Nat):Int)) (Ht (Hn hk28 hm20) O O O) O (JLh (G1 ((i28+1:Nat):Int)) (G6 O O) O (G8 (e28 _ _ (i28+1) y28.ID (app1 hn28 h) (by omega) ⟨(by repeat' constructor),G,rfl⟩))))))))))))
  ·
   have h:=app1 hkx28 (Hs hi28 (H9 hb))
   refine Hi (hK6 _ _ (G5 fun K36 hK36=>G3 (JLh (BL true) (Gb O O) O (G8 (hK36 _ _ (Gx (⟨[BL true],[],G,O,⟨⟨_,O,.conv (.same O)⟩,G⟩,O,congrArg (fun r:Bool=>(BL r:AV)) (Option.some.inj h)⟩)))))))

def G5a (boxes:List Gr) (call:Int):Option (List Int):=
 each (fun y19 i19 (s19:(List Int)) nx19=>
  jp (fun kj22=>
   bif ((decide (y19.Load≤call))&&(decide (call < y19.Discharge))) then
   (need (decide ((s19.length+[y19.ID].length)*8≤140737488355328∧s19.length+[y19.ID].length≤maxLen)) <|
    kj22 (s19++[y19.ID]))
   else
   (kj22 s19)) fun(j22:(List Int))=>
  nx19 j22)
 (fun(s19:(List Int))=>
  some s19) boxes 0 []
theorem J3b (boxes:List Gr) (call:Int) (r:(List Int)) (h:G5a boxes call=some r):Pure Tryz.prog 65 [E2 boxes,G1 call] (·=E1 r):=by
 unfold G5a at h
 refine H4 [.tmp 4] Tryz.func65 O O (G5 fun K1 hK1=>G3 (JLh (E1 ([]:List Int)) (Q4 1 O O) O (G8 (hK1 _ _ (G5 fun K2 hK2=>G3 (JLh (OW 1157 1 G1 ([]:List Int)) (Zv 1157 3 1 O O O) O (G8 (hK2 _ _ (G5 (fun K3 hK3=>G5 fun K4 hK4=>G3 (JLh (E2 boxes) (G6 O O) O (Hp (f:=Gr.av) (xs:=boxes) Jg O O (fun hm9=>?_) O O O))))))))))))
 refine JLh (G1 0) (G6 O O) O (G8 (hK4 _ _ (Gi ?_)))
 obtain⟨b19,kx19,hb19,hkx19,h⟩:=Hy h
 refine Ha (fun i19 (s19:(List Int))=>each b19 kx19 (List.drop i19 boxes) i19 s19=some r) (fun i19 s19=>[(1,G1 call),(5,OW 1157 1 G1 s19),(8,E2 boxes),(9,Ek boxes.length),(10,Ek i19)]) (fun i19 s19=>[(1157,.spare 3 1 s19.length s19.length)]) (fun i19=>boxes.length - i19) 0 [] h ⟨(by repeat' constructor),⟨⟨_,rfl,.same⟩,G⟩,rfl⟩ ?_
 clear h
 intro i19 s19 hi19 K19 e19
 refine G5 fun K20 hK20=>G3 (JLh (BL (decide ((i19:Int) < (boxes.length:Int)))) (J2 O O O) O (G8 (hK20 _ _ (G5 (fun K21 hK21=>Gn O (fun hb=>?_) (fun hb=>?_))))))
 ·
  have hk19:=Jd hb
  obtain⟨y19,nx19,hy19,hn19,h⟩:=Hr hi19 hk19
  replace h:=Rq hb19 h
  refine Gp (hK21 _ _ ?_)
  obtain⟨kj22,hkj22,h⟩:=Q7 h
  refine Jm (fun j22:(List Int)=>kj22 j22=some r) (fun j22=>[(1,G1 call),(5,OW 1157 1 G1 j22),(8,E2 boxes),(9,Ek boxes.length),(10,Ek i19)]) (fun j22=>[(1157,.spare 3 1 j22.length j22.length)]) (fun Kj22 ej22=>?_) ?_
  ·
   refine Gi (G5 fun K23 hK23=>G3 (JLh (Eh y19) (Gz (f:=Gr.av) (xs:=boxes) (y:=y19) O O O Jg hy19 O) O (JLh (.agg (Gr.cs y19)) (Gh Z1 O O O) O (JLh (.ptr 1158 0) (Hh 1158 9 Rg O O) O (Hg (u:=.junk) (H5 (u:=.agg (Gr.cs y19)) (ds:=(Gr.cs y19)) Z4 O O O O O O O O) (G8 (hK23 _ _ (Gq [(1,G1 call),(5,OW 1157 1 G1 s19),(7,Eh y19),(8,E2 boxes),(9,Ek boxes.length),(10,Ek i19)] [(1157,.spare 3 1 s19.length s19.length)] 1158 rfl rfl rfl ⟨⟨_,rfl,.same⟩,G⟩ rfl (by repeat' (first | exact .ptr | constructor)) ?_))))))))
   refine G5 fun K24 hK24=>G3 (JLh (.dptr ((Gr.cs y19).drop 5)) (Gd Yq O O O) O (JLh (G1 y19.Load) (Gk Gc O O O) O (JLh (G1 call) (G6 O O) O (JLh (BL (decide (y19.Load≤call))) (Gc4 O O O) O (JLh (BL (decide (y19.Load≤call))) (G6 O O) O (Gg (u:=G1 call) [] O O O .sct G (fun hc=>G6 O O) ?_))))))
   refine Gg (u:=.dptr ((Gr.cs y19).drop 6)) [] O O O .sct G (fun hc=>Gd Zg O O O) ?_
   refine Gg (u:=G1 y19.Discharge) [(20,.dptr ((Gr.cs y19).drop 6))] O O O .sct ⟨.all id,G⟩ (fun hc=>Gk Gc O O O) ?_
   refine Gg (u:=BL (decide (call < y19.Discharge))) [(19,G1 call),(21,G1 y19.Discharge)] O O O .sct ⟨.all id,.all id,G⟩ (fun hc=>J2 O O O) ?_
   refine JLh (BL ((decide (y19.Load≤call))&&(decide (call < y19.Discharge)))) (Qc O O O O) O (G8 (hK24 _ _ (Gn O (fun hb=>?_) (fun hb=>?_))))
   ·
    replace h:=H1 hb h
    refine G3 (JLh (OW 1157 1 G1 s19) (G6 O O) O (JLh (Eh y19) (Gd Qg O O O) O (JLh (G1 y19.ID) (Gk Gc O O O) O (JLh (E1 [y19.ID]) (Hf (xs:=[G1 y19.ID]) O ⟨O,O,G⟩ Gt Yn O O O O) O ?_))))
    obtain⟨ha25,h⟩:=Hz h
    refine JLh (OW 1157 1 G1 (s19++[y19.ID])) (Q5 (f:=G1) (xs:=s19) (ys:=[y19.ID]) O O O O Gt Yh ha25 (fun _=>O) (.inl O) O) O (JLh (OW 1157 1 G1 (s19++[y19.ID])) (Gb O O) O (G8 (ej22 _ _ (s19++[y19.ID]) h ⟨(by repeat' constructor),⟨⟨_,rfl,.same⟩,G⟩,rfl⟩)))
   ·
    replace h:=Hv hb h
    refine Gp (ej22 _ _ s19 h ⟨(by repeat' constructor),⟨⟨_,rfl,.same⟩,G⟩,rfl⟩)
  ·intro j22 h
   replace h:=app1 hkj22 h
   refine G3 (JLh (G1 ((i19+1:Nat):Int)) (Ht (Hn hk19 hm9) O O O) O (JLh (G1 ((i19+1:Nat):Int)) (G6 O O) O (G8 (e19 _ _ (i19+1) j22 (app1 hn19 h) (by omega) ⟨(by repeat' constructor),⟨⟨_,rfl,.same⟩,G⟩,rfl⟩))))
 ·
  have h:=app1 hkx19 (Hs hi19 (H9 hb))
  refine Hi (hK3 _ _ (G5 fun K26 hK26=>G3 (JLh (OW 1157 1 G1 s19) (G6 O O) O (JLh (OW 1157 1 G1 s19) (Gb O O) O (G8 (hK26 _ _ (Gx (⟨[E1 s19],[],G,O,⟨⟨_,O,.conv (.list O)⟩,G⟩,O,congrArg (fun r:(List Int)=>(E1 r:AV)) (Option.some.inj h)⟩))))))))
end
end Go.Proofs.YteoeccjboahfgaaGreat
