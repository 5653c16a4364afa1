/-
 Models of functions of the program,and that they return what the models say.
-/
import Derived.Test.YtkfhfoljfbjknaaGreatProg
import Derived.Test.YtkfhfoljfbjknaaGreatSortM
import Derived.Test.YtkfhfoljfbjknaaGreatSortLay
import Derived.Test.YtkfhfoljfbjknaaGreatRel
import Derived.Test.YtkfhfoljfbjknaaGreatLit0
import Derived.Test.YtkfhfoljfbjknaaGreatXA
import Derived.Test.YtkfhfoljfbjknaaGreatSpecA
import Derived.Test.YtkfhfoljfbjknaaGreatSpecI
import Derived.Test.YtkfhfoljfbjknaaGreatSpecJ
import Derived.Test.YtkfhfoljfbjknaaGreatXVa
set_option maxRecDepth 100000
set_option linter.unusedVariables false
set_option linter.unusedSimpArgs false
namespace Go.Proofs.YtkfhfoljfbjknaaGreat
open Go.RowKit
noncomputable section
open XAF
open XVF

def M_twistlocklaw23_voyage (F:Nat) (s:Gz) (boxes:List Gp) (home:Gr Int Int) (calls:Int):Option (Plan×Int×(Gr Int Int)):=
 need (decide (calls≤9223372036854775807)) <|
 upto (fun i6 (s6:(List (List G2))×(List (List Int))×(Gr Int Slot)) nx6=>
  need (decide (10≤9223372036854775807)) <|
  upto (fun i13 (s13:(List G2)) nx13=>
   each (fun y42 i42 (s42:(List G2)) nx42=>
    jp (fun kj45=>
     bnd (some (Gr.get s6.2.2 y42.ID (Slot.mk 0 0 0))) fun v48=>
     bif ((((Gr.has s6.2.2 y42.ID)&&(decide (v48.Tier=(i13:Int))))&&(decide (y42.Load < (i6:Int))))&&(decide ((i6:Int) < y42.Discharge))) then
     (bnd (M_twistlocklaw23_with s42 (G2.mk y42.ID v48)) fun r51=>
      bnd (M_stow_Right s boxes r51) fun r53=>
      bif r53 then
      (kj45 r51)
      else
      (kj45 s42))
     else
     (kj45 s42)) fun(j45:(List G2))=>
    nx42 j45)
   (fun(s42:(List G2))=>
    nx13 s42) boxes 0 s13)
  (fun(s13:(List G2))=>
   each (fun y56 i56 (s56:(List G2)) nx56=>
    jp (fun kj59=>
     bnd (bif (!((decide ((i6:Int) < y56.Load))||(decide (y56.Discharge≤(i6:Int))))) then M_twistlocklaw23_holds s56 y56.ID else some default) fun r63=>
     bif (((decide ((i6:Int) < y56.Load))||(decide (y56.Discharge≤(i6:Int))))||r63) then
     (kj59 s56)
     else
     (loop (fun nx67 (s67:(List G2)×Bool×Int)=>
       bif ((decide (s67.2.2 < (s.Columns.length:Int)))&&(!s67.2.1)) then
       (jp (fun kj70=>
         bnd (M_slot_All s y56.Size) fun r72=>
         each (fun y99 i99 (s99:(List G2)×Bool) nx99=>
          bnd (M_twistlocklaw23_with s99.1 (G2.mk y56.ID y99)) fun r105=>
          bnd (some (Gr.get home y56.ID 0)) fun v107=>
          chk (v107+s67.2.2) fun v108=>
          bnd (rem64 v108 (s.Columns.length:Int)) fun v109=>
          bnd (bif decide (y99.G5=v109) then M_stow_Right s boxes r105 else some default) fun r110=>
          bif ((decide (y99.G5=v109))&&r110) then
          (kj70 (r105,true))
          else
          (nx99 (s99.1,s99.2)))
         (fun(s99:(List G2)×Bool)=>
          kj70 (s99.1,s99.2)) r72 0 (s67.1,s67.2.1)) fun(j70:(List G2)×Bool)=>
        chk (s67.2.2+1) fun v112=>
        nx67 (j70.1,j70.2,v112))
       else
       (bif (!s67.2.1) then
        (some ((Plan.mk [] []),y56.ID,home))
        else
        (kj59 s67.1))) F (s56,false,0))) fun(j59:(List G2))=>
    nx56 j59)
   (fun(s56:(List G2))=>
    each (fun y138 i138 (s138:(Gr Int Slot)) nx138=>
     nx138 (Gr.put s138 y138.Gp y138.Slot))
    (fun(s138:(Gr Int Slot))=>
     need (decide ((s6.1.length+[s56].length)*24≤140737488355328∧s6.1.length+[s56].length≤maxLen)) <|
     nx6 ((s6.1++[s56]),s6.2.1,s138)) s56 0 (Gr.empty:Gr Int Slot)) boxes 0 s13) (10:Int).toNat 0 [])
 (fun(s6:(List (List G2))×(List (List Int))×(Gr Int Slot))=>
  some ((Plan.mk s6.1 s6.2.1),0,home)) calls.toNat 0 ([],[],(Gr.empty:Gr Int Slot))
theorem M_twistlocklaw23_voyage_m60000020 (F:Nat) (s:Gz) (boxes:List Gp) (home:Gr Int Int) (calls:Int) (r:Plan×Int×(Gr Int Int)) (h:M_twistlocklaw23_voyage F s boxes home calls=some r):Jr Tryz.prog 14 [.agg (Gz.cs s),E2 boxes,.mp 1023,G0 calls] [(1023,MP 55 (fun n:Int=>Value.int .i64 n) G0 home)] (fun av L'=>av=.tup [.agg [LS 1 (E0) r.1.States,LS 1 (E1) r.1.Water],G0 r.2.1]∧L'=[(1023,MP 55 (fun n:Int=>Value.int .i64 n) G0 r.2.2)]):=by
 unfold M_twistlocklaw23_voyage at h
 refine Ju [1023] [.cell 8 41,.tmp 9] Tryz.func14 O O (inAll O) ?_
 refine G6 fun K1 hK1=>G3 ?_
 refine JLg (.ptr 1043 0) (Q1 (u:=.agg (Gz.cs s)) (cs:=(Gz.cs s)) 1043 O O O O O) ?_
 refine JLg (.ptr 1044 0) (Y1 1044 [LS 1 (E0) ([]:List (List G2)),LS 1 (E1) ([]:List (List Int))] [.slice none 0 0,.slice none 0 0] tf_zero_41 ⟨.inr ⟨_,O,O⟩,.inr ⟨_,O,O⟩,G⟩ O O) ?_
 refine JLg (G0 0) (G9 O O) ?_
 refine G8 (hK1 _ _ ?_)
 refine Gk [(1,E2 boxes),(2,.mp 1023),(3,G0 calls),(4,Ee s),(8,.ptr 1044 0)] [(1023,MP 55 (fun n:Int=>Value.int .i64 n) G0 home),(1044,.box 41 [LS 1 (E0) ([]:List (List G2)),LS 1 (E1) ([]:List (List Int))])] 1043 rfl rfl rfl ⟨⟨_,rfl,.map⟩,⟨_,rfl,.boxEq rfl rfl⟩,G⟩ rfl (by repeat' (first | exact .ptr | constructor)) ?_
 refine G6 fun K2 hK2=>G3 ?_
 refine JLg (.ptr 1045 0) (Y1 1045 [.sc (.slice none 0 0),LS 1 (E1) ([]:List (List Int))] [.slice none 0 0,.slice none 0 0] tf_zero_41 ⟨.inl O,.inr ⟨_,O,O⟩,G⟩ O O) ?_
 refine JL_ownCell 1045 0 1053 50 1 O O O (cs':=[OW 1053 1 (E0) ([]:List (List G2)),LS 1 (E1) ([]:List (List Int))]) O ?_
 refine G8 (hK2 _ _ ?_)
 refine G6 fun K3 hK3=>G3 ?_
 refine JLg (.mp 1051) (Rt 1051 (fun n:Int=>Value.int .i64 n) Slot.av O O) ?_
 refine JLg (.mp 1051) (G9 O O) ?_
 refine G8 (hK3 _ _ ?_)
 refine G6 (fun K4 hK4=>?_)
 refine G6 fun K5 hK5=>G3 ?_
 refine JLg (G0 0) (G9 O O) ?_
 refine G8 (hK5 _ _ ?_)
 refine Gg ?_
 obtain⟨hx6,h⟩:=Je h
 obtain⟨b6,kx6,hb6,hkx6,h⟩:=upto_in h
 refine H7 (fun i6 (s6:(List (List G2))×(List (List Int))×(Gr Int Slot))=>upto b6 kx6 (calls.toNat - i6) i6 s6=some r) (fun i6 s6=>[(1,E2 boxes),(2,.mp 1023),(3,G0 calls),(4,Ee s),(8,.ptr 1044 0),(10,.ptr 1045 0),(11,.mp 1051),(12,Em i6)]) (fun i6 s6=>[(1023,MP 55 (fun n:Int=>Value.int .i64 n) G0 home),(1053,.spare 50 1 s6.1.length s6.1.length),(1051,MP 97 (fun n:Int=>Value.int .i64 n) Slot.av s6.2.2),(1044,.box 41 [LS 1 (E0) ([]:List (List G2)),LS 1 (E1) ([]:List (List Int))]),(1045,.box 41 [OW 1053 1 (E0) s6.1,LS 1 (E1) s6.2.1])]) (fun i6=>calls.toNat - i6) 0 ([],[],(Gr.empty:Gr Int Slot)) h ⟨(by repeat' constructor),⟨⟨_,rfl,.map⟩,⟨_,rfl,.same⟩,⟨_,rfl,.map⟩,⟨_,rfl,.boxL rfl ⟨.same rfl,.same rfl,G⟩⟩,⟨_,rfl,.boxL rfl ⟨.same rfl,.same rfl,G⟩⟩,G⟩,rfl⟩ ?_
 clear h
 intro i6 s6 hi6 K6 e6
 refine G6 (fun K7 hK7=>?_)
 refine G6 fun K8 hK8=>G3 ?_
 refine JLg (Em i6) (G7 O O) ?_
 refine JLg (G0 calls) (G7 O O) ?_
 refine JLg (BL (decide ((i6:Int) < calls))) (Hy O O O) ?_
 refine G8 (hK8 _ _ ?_)
 refine Gh O (fun hb=>?_) (fun hb=>?_)
 ·
  have hk6:=lt_toNat hb
  obtain⟨nx6,hn6,h⟩:=upto_out hi6 hk6
  replace h:=app3 hb6 h
  refine Gj ?_
  refine hK7 _ _ ?_
  refine G6 (fun K9 hK9=>?_)
  refine Gg ?_
  refine G6 fun K10 hK10=>G3 ?_
  refine JLg (E0 ([]:List G2)) (Jj 4 O O) ?_
  refine G8 (hK10 _ _ ?_)
  refine G6 (fun K11 hK11=>?_)
  refine G6 fun K12 hK12=>G3 ?_
  refine JLg (G0 0) (G9 O O) ?_
  refine G8 (hK12 _ _ ?_)
  refine Gg ?_
  obtain⟨hx13,h⟩:=Je h
  obtain⟨b13,kx13,hb13,hkx13,h⟩:=upto_in h
  refine H7 (fun i13 (s13:(List G2))=>upto b13 kx13 ((10:Int).toNat - i13) i13 s13=some r) (fun i13 s13=>[(1,E2 boxes),(2,.mp 1023),(3,G0 calls),(4,Ee s),(8,.ptr 1044 0),(10,.ptr 1045 0),(11,.mp 1051),(12,Em i6),(13,E0 s13),(14,Em i13)]) (fun i13 s13=>[(1023,MP 55 (fun n:Int=>Value.int .i64 n) G0 home),(1053,.spare 50 1 s6.1.length s6.1.length),(1051,MP 97 (fun n:Int=>Value.int .i64 n) Slot.av s6.2.2),(1044,.box 41 [LS 1 (E0) ([]:List (List G2)),LS 1 (E1) ([]:List (List Int))]),(1045,.box 41 [OW 1053 1 (E0) s6.1,LS 1 (E1) s6.2.1])]) (fun i13=>(10:Int).toNat - i13) 0 [] h ⟨(by repeat' constructor),⟨⟨_,rfl,.map⟩,⟨_,rfl,.same⟩,⟨_,rfl,.map⟩,⟨_,rfl,.boxL rfl ⟨.same rfl,.same rfl,G⟩⟩,⟨_,rfl,.boxL rfl ⟨.same rfl,.same rfl,G⟩⟩,G⟩,rfl⟩ ?_
  clear h
  intro i13 s13 hi13 K13 e13
  refine G6 (fun K14 hK14=>?_)
  refine G6 fun K15 hK15=>G3 ?_
  refine JLg (Em i13) (G7 O O) ?_
  refine JLg (BL (decide ((i13:Int) < 10))) (Hy O O O) ?_
  refine G8 (hK15 _ _ ?_)
  refine Gh O (fun hb=>?_) (fun hb=>?_)
  ·
   have hk13:=lt_toNat hb
   obtain⟨nx13,hn13,h⟩:=upto_out hi13 hk13
   replace h:=app3 hb13 h
   refine Gj ?_
   refine hK14 _ _ ?_
   refine G6 (fun K16 hK16=>?_)
   refine Gg ?_
   refine G6 fun K17 hK17=>G3 ?_
   refine JLg (E2 boxes) (G7 O O) ?_
   refine Hs (f:=Gp.av) (xs:=boxes) Jm O O (fun hm40=>?_) O O O
   refine JLg (G0 0) (G7 O O) ?_
   refine G8 (hK17 _ _ ?_)
   refine Gg ?_
   obtain⟨b42,kx42,hb42,hkx42,h⟩:=Hu h
   refine H7 (fun i42 (s42:(List G2))=>each b42 kx42 (List.drop i42 boxes) i42 s42=some r) (fun i42 s42=>[(1,E2 boxes),(2,.mp 1023),(3,G0 calls),(4,Ee s),(8,.ptr 1044 0),(10,.ptr 1045 0),(11,.mp 1051),(12,Em i6),(13,E0 s42),(14,Em i13),(39,E2 boxes),(40,Em boxes.length),(41,Em i42)]) (fun i42 s42=>[(1023,MP 55 (fun n:Int=>Value.int .i64 n) G0 home),(1053,.spare 50 1 s6.1.length s6.1.length),(1051,MP 97 (fun n:Int=>Value.int .i64 n) Slot.av s6.2.2),(1044,.box 41 [LS 1 (E0) ([]:List (List G2)),LS 1 (E1) ([]:List (List Int))]),(1045,.box 41 [OW 1053 1 (E0) s6.1,LS 1 (E1) s6.2.1])]) (fun i42=>boxes.length - i42) 0 s13 h ⟨(by repeat' constructor),⟨⟨_,rfl,.map⟩,⟨_,rfl,.same⟩,⟨_,rfl,.map⟩,⟨_,rfl,.boxL rfl ⟨.same rfl,.same rfl,G⟩⟩,⟨_,rfl,.boxL rfl ⟨.same rfl,.same rfl,G⟩⟩,G⟩,rfl⟩ ?_
   clear h
   intro i42 s42 hi42 K42 e42
   refine G6 fun K43 hK43=>G3 ?_
   refine JLg (BL (decide ((i42:Int) < (boxes.length:Int)))) (Hy O O O) ?_
   refine G8 (hK43 _ _ ?_)
   refine G6 (fun K44 hK44=>?_)
   refine Gh O (fun hb=>?_) (fun hb=>?_)
   ·
    have hk42:=J9 hb
    obtain⟨y42,nx42,hy42,hn42,h⟩:=Hn hi42 hk42
    replace h:=app4 hb42 h
    refine Gj ?_
    refine hK44 _ _ ?_
    obtain⟨kj45,hkj45,h⟩:=Qd h
    refine Jq (fun j45:(List G2)=>kj45 j45=some r) (fun j45=>[(1,E2 boxes),(2,.mp 1023),(3,G0 calls),(4,Ee s),(8,.ptr 1044 0),(10,.ptr 1045 0),(11,.mp 1051),(12,Em i6),(13,E0 j45),(14,Em i13),(39,E2 boxes),(40,Em boxes.length),(41,Em i42)]) (fun j45=>[(1023,MP 55 (fun n:Int=>Value.int .i64 n) G0 home),(1053,.spare 50 1 s6.1.length s6.1.length),(1051,MP 97 (fun n:Int=>Value.int .i64 n) Slot.av s6.2.2),(1044,.box 41 [LS 1 (E0) ([]:List (List G2)),LS 1 (E1) ([]:List (List Int))]),(1045,.box 41 [OW 1053 1 (E0) s6.1,LS 1 (E1) s6.2.1])]) (fun Kj45 ej45=>?_) ?_
    ·
     refine Gg ?_
     refine G6 fun K46 hK46=>G3 ?_
     refine JLg (Eh y42) (H0 (f:=Gp.av) (xs:=boxes) (y:=y42) O O O Jm hy42 O) ?_
     refine JLg (.agg (Gp.cs y42)) (Gi Rq O O O) ?_
     refine JLg (.ptr 1046 0) (Hi 1046 9 R6 O O) ?_
     refine Hj (u:=.junk) (H2 (u:=.agg (Gp.cs y42)) (ds:=(Gp.cs y42)) Rr O O O O O O O O) ?_
     refine G8 (hK46 _ _ ?_)
     refine Gk [(1,E2 boxes),(2,.mp 1023),(3,G0 calls),(4,Ee s),(8,.ptr 1044 0),(10,.ptr 1045 0),(11,.mp 1051),(12,Em i6),(13,E0 s42),(14,Em i13),(16,Eh y42),(39,E2 boxes),(40,Em boxes.length),(41,Em i42)] [(1023,MP 55 (fun n:Int=>Value.int .i64 n) G0 home),(1053,.spare 50 1 s6.1.length s6.1.length),(1051,MP 97 (fun n:Int=>Value.int .i64 n) Slot.av s6.2.2),(1044,.box 41 [LS 1 (E0) ([]:List (List G2)),LS 1 (E1) ([]:List (List Int))]),(1045,.box 41 [OW 1053 1 (E0) s6.1,LS 1 (E1) s6.2.1])] 1046 rfl rfl rfl ⟨⟨_,rfl,.map⟩,⟨_,rfl,.same⟩,⟨_,rfl,.map⟩,⟨_,rfl,.boxEq rfl rfl⟩,⟨_,rfl,.boxEq rfl rfl⟩,G⟩ rfl (by repeat' (first | exact .ptr | constructor)) ?_
     refine G6 fun K47 hK47=>G3 ?_
     refine JLg (.mp 1051) (G7 O O) ?_
     refine JLg (Eh y42) (Gc Ji O O O) ?_
     refine JLg (G0 y42.ID) (Gf Gb O O O) ?_
     obtain⟨v48,hv48,h⟩:=Ge h
     refine JLg (.tup [.agg (Slot.cs v48),BL (Gr.has s6.2.2 y42.ID)]) (((Option.some.inj hv48) ▸ A_lookupM1 (av:=Slot.av) (m:=s6.2.2) (a:=y42.ID) (Slot.mk 0 0 0) (.agg #[.int .i64 0,.int .i64 0,.int .u8 0]) O O O O tk_3 tf_map_97 tf_zv_57 O)) ?_
     refine JLg (.tup [.agg (Slot.cs v48),BL (Gr.has s6.2.2 y42.ID)]) (G7 O O) ?_
     refine JLg (.agg (Slot.cs v48)) (Hq O O O) ?_
     refine JLg (BL (Gr.has s6.2.2 y42.ID)) (Hq O O O) ?_
     refine JLg (.ptr 1047 0) (Hi 1047 3 Qz O O) ?_
     refine Hj (u:=.junk) (H2 (u:=.agg (Slot.cs v48)) (ds:=[G0 v48.G5,G0 v48.Tier,U8 v48.Half]) R8 O O O O O O O O) ?_
     refine JLg (BL (Gr.has s6.2.2 y42.ID)) (G9 O O) ?_
     refine G8 (hK47 _ _ ?_)
     refine Gk [(1,E2 boxes),(2,.mp 1023),(3,G0 calls),(4,Ee s),(8,.ptr 1044 0),(10,.ptr 1045 0),(11,.mp 1051),(12,Em i6),(13,E0 s42),(14,Em i13),(16,Eh y42),(17,Eg v48),(18,BL (Gr.has s6.2.2 y42.ID)),(39,E2 boxes),(40,Em boxes.length),(41,Em i42)] [(1023,MP 55 (fun n:Int=>Value.int .i64 n) G0 home),(1053,.spare 50 1 s6.1.length s6.1.length),(1051,MP 97 (fun n:Int=>Value.int .i64 n) Slot.av s6.2.2),(1044,.box 41 [LS 1 (E0) ([]:List (List G2)),LS 1 (E1) ([]:List (List Int))]),(1045,.box 41 [OW 1053 1 (E0) s6.1,LS 1 (E1) s6.2.1])] 1047 rfl rfl rfl ⟨⟨_,rfl,.map⟩,⟨_,rfl,.same⟩,⟨_,rfl,.map⟩,⟨_,rfl,.boxEq rfl rfl⟩,⟨_,rfl,.boxEq rfl rfl⟩,G⟩ rfl (by repeat' (first | exact .ptr | constructor)) ?_
     refine G6 fun K49 hK49=>G3 ?_
     refine JLg (BL (Gr.has s6.2.2 y42.ID)) (G7 O O) ?_
     refine JLg (BL (Gr.has s6.2.2 y42.ID)) (G7 O O) ?_
     refine Gd (u:=.dptr [G0 v48.Tier,U8 v48.Half]) [] O O O .sct G (fun hc=>Gc Q7 O O O) ?_
     refine Gd (u:=G0 v48.Tier) [(54,.dptr [G0 v48.Tier,U8 v48.Half])] O O O .sct ⟨.all id,G⟩ (fun hc=>Gf Gb O O O) ?_
     refine Gd (u:=Em i13) [] O O O .sct G (fun hc=>G7 O O) ?_
     refine Gd (u:=BL (decide (v48.Tier=(i13:Int)))) [(55,G0 v48.Tier),(56,Em i13)] O O O .sct ⟨.all id,.all id,G⟩ (fun hc=>Qb O O O) ?_
     refine JLg (BL ((Gr.has s6.2.2 y42.ID)&&(decide (v48.Tier=(i13:Int))))) (Qr O O O O) ?_
     refine JLg (BL ((Gr.has s6.2.2 y42.ID)&&(decide (v48.Tier=(i13:Int))))) (G7 O O) ?_
     refine Gd (u:=.dptr ((Gp.cs y42).drop 5)) [] O O O .sct G (fun hc=>Gc Y3 O O O) ?_
     refine Gd (u:=G0 y42.Load) [(60,.dptr ((Gp.cs y42).drop 5))] O O O .sct ⟨.all id,G⟩ (fun hc=>Gf Gb O O O) ?_
     refine Gd (u:=Em i6) [] O O O .sct G (fun hc=>G7 O O) ?_
     refine Gd (u:=BL (decide (y42.Load < (i6:Int)))) [(61,G0 y42.Load),(62,Em i6)] O O O .sct ⟨.all id,.all id,G⟩ (fun hc=>Hy O O O) ?_
     refine JLg (BL (((Gr.has s6.2.2 y42.ID)&&(decide (v48.Tier=(i13:Int))))&&(decide (y42.Load < (i6:Int))))) (Qr O O O O) ?_
     refine JLg (BL (((Gr.has s6.2.2 y42.ID)&&(decide (v48.Tier=(i13:Int))))&&(decide (y42.Load < (i6:Int))))) (G7 O O) ?_
     refine Gd (u:=Em i6) [] O O O .sct G (fun hc=>G7 O O) ?_
     refine Gd (u:=.dptr ((Gp.cs y42).drop 6)) [] O O O .sct G (fun hc=>Gc Y9 O O O) ?_
     refine Gd (u:=G0 y42.Discharge) [(67,.dptr ((Gp.cs y42).drop 6))] O O O .sct ⟨.all id,G⟩ (fun hc=>Gf Gb O O O) ?_
     refine Gd (u:=BL (decide ((i6:Int) < y42.Discharge))) [(66,Em i6),(68,G0 y42.Discharge)] O O O .sct ⟨.all id,.all id,G⟩ (fun hc=>Hy O O O) ?_
     refine JLg (BL ((((Gr.has s6.2.2 y42.ID)&&(decide (v48.Tier=(i13:Int))))&&(decide (y42.Load < (i6:Int))))&&(decide ((i6:Int) < y42.Discharge)))) (Qr O O O O) ?_
     refine G8 (hK49 _ _ ?_)
     refine Gh O (fun hb=>?_) (fun hb=>?_)
     ·
      replace h:=Gv hb h
      refine G6 fun K50 hK50=>G3 ?_
      refine JLg (E0 s42) (G7 O O) ?_
      refine JLg (Eh y42) (Gc Ji O O O) ?_
      refine JLg (G0 y42.ID) (Gf Gb O O O) ?_
      refine JLg (.agg (Slot.cs v48)) (Gi Jp O O O) ?_
      refine JLg (.agg [G0 y42.ID,G0 v48.G5,G0 v48.Tier,U8 v48.Half]) (J4 (cs:=[G0 y42.ID,G0 v48.G5,G0 v48.Tier,U8 v48.Half]) [(0,1),(1,3)] [G0 0,G0 0,G0 0,U8 0] [.int .i64 0,.int .i64 0,.int .i64 0,.int .u8 0] tf_places_86 tf_zero_86 ⟨.inl O,.inl O,.inl O,.inl O,G⟩ O O) ?_
      obtain⟨r51,hr51,h⟩:=Ge h
      refine JLg (E0 r51) (H1 (args:=[E0 s42,.agg [G0 y42.ID,G0 v48.G5,G0 v48.Tier,U8 v48.Half]]) O (M_twistlocklaw23_with_w s42 (G2.mk y42.ID v48) r51 hr51) tf_call_26 ⟨O,O,O,O,G⟩) ?_
      refine JLg (E0 r51) (G9 O O) ?_
      refine G8 (hK50 _ _ ?_)
      refine G6 fun K52 hK52=>G3 ?_
      refine JLg (.agg (Gz.cs s)) (Gi J0 O O O) ?_
      refine JLg (E2 boxes) (G7 O O) ?_
      refine JLg (E0 r51) (G7 O O) ?_
      obtain⟨r53,hr53,h⟩:=Ge h
      refine JLg (BL r53) (H1 (args:=[.agg (Gz.cs s),E2 boxes,E0 r51]) O (M_stow_Right_w s boxes r51 r53 hr53) tf_call_18 ⟨O,O,O,O,O,O,G⟩) ?_
      refine G8 (hK52 _ _ ?_)
      refine Gh O (fun hb=>?_) (fun hb=>?_)
      ·
       replace h:=Gv hb h
       refine G3 ?_
       refine JLg (E0 r51) (G7 O O) ?_
       refine JLg (E0 r51) (G9 O O) ?_
       refine G8 ?_
       exact ej45 _ _ r51 h ⟨(by repeat' constructor),⟨⟨_,rfl,.map⟩,⟨_,rfl,.same⟩,⟨_,rfl,.map⟩,⟨_,rfl,.boxL rfl ⟨.same rfl,.same rfl,G⟩⟩,⟨_,rfl,.boxL rfl ⟨.same rfl,.same rfl,G⟩⟩,G⟩,rfl⟩
      ·
       replace h:=Hp hb h
       refine Gj ?_
       exact ej45 _ _ s42 h ⟨(by repeat' constructor),⟨⟨_,rfl,.map⟩,⟨_,rfl,.same⟩,⟨_,rfl,.map⟩,⟨_,rfl,.boxL rfl ⟨.same rfl,.same rfl,G⟩⟩,⟨_,rfl,.boxL rfl ⟨.same rfl,.same rfl,G⟩⟩,G⟩,rfl⟩
     ·
      replace h:=Hp hb h
      refine Gj ?_
      exact ej45 _ _ s42 h ⟨(by repeat' constructor),⟨⟨_,rfl,.map⟩,⟨_,rfl,.same⟩,⟨_,rfl,.map⟩,⟨_,rfl,.boxL rfl ⟨.same rfl,.same rfl,G⟩⟩,⟨_,rfl,.boxL rfl ⟨.same rfl,.same rfl,G⟩⟩,G⟩,rfl⟩
    ·intro j45 h
     replace h:=app1 hkj45 h
     refine G3 ?_
     refine JLg (G0 ((i42+1:Nat):Int)) (Ht (Hc hk42 hm40) O O O) ?_
     refine JLg (G0 ((i42+1:Nat):Int)) (G7 O O) ?_
     refine G8 ?_
     exact e42 _ _ (i42+1) j45 (app1 hn42 h) (by omega) ⟨(by repeat' constructor),⟨⟨_,rfl,.map⟩,⟨_,rfl,.same⟩,⟨_,rfl,.map⟩,⟨_,rfl,.boxL rfl ⟨.same rfl,.same rfl,G⟩⟩,⟨_,rfl,.boxL rfl ⟨.same rfl,.same rfl,G⟩⟩,G⟩,rfl⟩
   ·
    have h:=app1 hkx42 (Ho hi42 (H3 hb))
    refine Hk ?_
    refine hK16 _ _ ?_
    refine G3 ?_
    refine JLg (Em i13) (G7 O O) ?_
    refine JLg (G0 ((i13+1:Nat):Int)) (Ht (Hc hk13 (toNat_max hx13)) O O O) ?_
    refine JLg (G0 ((i13+1:Nat):Int)) (G9 O O) ?_
    refine G8 ?_
    exact e13 _ _ (i13+1) s42 (app1 hn13 h) (by omega) ⟨(by repeat' constructor),⟨⟨_,rfl,.map⟩,⟨_,rfl,.same⟩,⟨_,rfl,.map⟩,⟨_,rfl,.boxL rfl ⟨.same rfl,.same rfl,G⟩⟩,⟨_,rfl,.boxL rfl ⟨.same rfl,.same rfl,G⟩⟩,G⟩,rfl⟩
  ·
   have h:=app1 hkx13 (upto_nil hi13 (not_lt_toNat hb))
   refine Hk ?_
   refine hK11 _ _ ?_
   refine G6 (fun K54 hK54=>?_)
   refine G6 fun K55 hK55=>G3 ?_
   refine JLg (E2 boxes) (G7 O O) ?_
   refine Hs (f:=Gp.av) (xs:=boxes) Jm O O (fun hm84=>?_) O O O
   refine JLg (G0 0) (G7 O O) ?_
   refine G8 (hK55 _ _ ?_)
   refine Gg ?_
   obtain⟨b56,kx56,hb56,hkx56,h⟩:=Hu h
   refine H7 (fun i56 (s56:(List G2))=>each b56 kx56 (List.drop i56 boxes) i56 s56=some r) (fun i56 s56=>[(1,E2 boxes),(2,.mp 1023),(3,G0 calls),(4,Ee s),(8,.ptr 1044 0),(10,.ptr 1045 0),(12,Em i6),(13,E0 s56),(83,E2 boxes),(84,Em boxes.length),(85,Em i56)]) (fun i56 s56=>[(1023,MP 55 (fun n:Int=>Value.int .i64 n) G0 home),(1053,.spare 50 1 s6.1.length s6.1.length),(1051,MP 97 (fun n:Int=>Value.int .i64 n) Slot.av s6.2.2),(1044,.box 41 [LS 1 (E0) ([]:List (List G2)),LS 1 (E1) ([]:List (List Int))]),(1045,.box 41 [OW 1053 1 (E0) s6.1,LS 1 (E1) s6.2.1])]) (fun i56=>boxes.length - i56) 0 s13 h ⟨(by repeat' constructor),⟨⟨_,rfl,.map⟩,⟨_,rfl,.same⟩,⟨_,rfl,.map⟩,⟨_,rfl,.boxL rfl ⟨.same rfl,.same rfl,G⟩⟩,⟨_,rfl,.boxL rfl ⟨.same rfl,.same rfl,G⟩⟩,G⟩,rfl⟩ ?_
   clear h
   intro i56 s56 hi56 K56 e56
   refine G6 fun K57 hK57=>G3 ?_
   refine JLg (BL (decide ((i56:Int) < (boxes.length:Int)))) (Hy O O O) ?_
   refine G8 (hK57 _ _ ?_)
   refine G6 (fun K58 hK58=>?_)
   refine Gh O (fun hb=>?_) (fun hb=>?_)
   ·
    have hk56:=J9 hb
    obtain⟨y56,nx56,hy56,hn56,h⟩:=Hn hi56 hk56
    replace h:=app4 hb56 h
    refine Gj ?_
    refine hK58 _ _ ?_
    obtain⟨kj59,hkj59,h⟩:=Qd h
    refine Jq (fun j59:(List G2)=>kj59 j59=some r) (fun j59=>[(1,E2 boxes),(2,.mp 1023),(3,G0 calls),(4,Ee s),(8,.ptr 1044 0),(10,.ptr 1045 0),(12,Em i6),(13,E0 j59),(83,E2 boxes),(84,Em boxes.length),(85,Em i56)]) (fun j59=>[(1023,MP 55 (fun n:Int=>Value.int .i64 n) G0 home),(1053,.spare 50 1 s6.1.length s6.1.length),(1051,MP 97 (fun n:Int=>Value.int .i64 n) Slot.av s6.2.2),(1044,.box 41 [LS 1 (E0) ([]:List (List G2)),LS 1 (E1) ([]:List (List Int))]),(1045,.box 41 [OW 1053 1 (E0) s6.1,LS 1 (E1) s6.2.1])]) (fun Kj59 ej59=>?_) ?_
    ·
     refine Gg ?_
     refine G6 fun K60 hK60=>G3 ?_
     refine JLg (Eh y56) (H0 (f:=Gp.av) (xs:=boxes) (y:=y56) O O O Jm hy56 O) ?_
     refine JLg (.agg (Gp.cs y56)) (Gi Rq O O O) ?_
     refine JLg (.ptr 1048 0) (Hi 1048 9 R6 O O) ?_
     refine Hj (u:=.junk) (H2 (u:=.agg (Gp.cs y56)) (ds:=(Gp.cs y56)) Rr O O O O O O O O) ?_
     refine G8 (hK60 _ _ ?_)
     refine Gk [(1,E2 boxes),(2,.mp 1023),(3,G0 calls),(4,Ee s),(8,.ptr 1044 0),(10,.ptr 1045 0),(12,Em i6),(13,E0 s56),(21,Eh y56),(83,E2 boxes),(84,Em boxes.length),(85,Em i56)] [(1023,MP 55 (fun n:Int=>Value.int .i64 n) G0 home),(1053,.spare 50 1 s6.1.length s6.1.length),(1051,MP 97 (fun n:Int=>Value.int .i64 n) Slot.av s6.2.2),(1044,.box 41 [LS 1 (E0) ([]:List (List G2)),LS 1 (E1) ([]:List (List Int))]),(1045,.box 41 [OW 1053 1 (E0) s6.1,LS 1 (E1) s6.2.1])] 1048 rfl rfl rfl ⟨⟨_,rfl,.map⟩,⟨_,rfl,.same⟩,⟨_,rfl,.map⟩,⟨_,rfl,.boxEq rfl rfl⟩,⟨_,rfl,.boxEq rfl rfl⟩,G⟩ rfl (by repeat' (first | exact .ptr | constructor)) ?_
     refine G6 (fun K61 hK61=>?_)
     refine G6 fun K62 hK62=>G3 ?_
     refine JLg (.dptr ((Gp.cs y56).drop 5)) (Gc Y3 O O O) ?_
     refine JLg (G0 y56.Load) (Gf Gb O O O) ?_
     refine JLg (Em i6) (G7 O O) ?_
     refine JLg (BL (decide ((i6:Int) < y56.Load))) (Yd O O O) ?_
     refine JLg (BL (decide ((i6:Int) < y56.Load))) (G7 O O) ?_
     refine Gd (u:=Em i6) [] O O O .scf G (fun hc=>G7 O O) ?_
     refine Gd (u:=.dptr ((Gp.cs y56).drop 6)) [] O O O .scf G (fun hc=>Gc Y9 O O O) ?_
     refine Gd (u:=G0 y56.Discharge) [(95,.dptr ((Gp.cs y56).drop 6))] O O O .scf ⟨.all id,G⟩ (fun hc=>Gf Gb O O O) ?_
     refine Gd (u:=BL (decide (y56.Discharge≤(i6:Int)))) [(94,Em i6),(96,G0 y56.Discharge)] O O O .scf ⟨.all id,.all id,G⟩ (fun hc=>Yu O O O) ?_
     refine JLg (BL ((decide ((i6:Int) < y56.Load))||(decide (y56.Discharge≤(i6:Int))))) (Y4 O O O O) ?_
     refine JLg (BL ((decide ((i6:Int) < y56.Load))||(decide (y56.Discharge≤(i6:Int))))) (G7 O O) ?_
     refine Gd (u:=E0 s56) [] O O O .scf G (fun hc=>G7 O O) ?_
     refine Gd (u:=Eh y56) [] O O O .scf G (fun hc=>Gc Ji O O O) ?_
     refine Gd (u:=G0 y56.ID) [(101,Eh y56)] O O O .scf ⟨.all id,G⟩ (fun hc=>Gf Gb O O O) ?_
     obtain⟨r63,hr63,h⟩:=Ge h
     refine Gd (u:=BL r63) [(100,E0 s56),(102,G0 y56.ID)] O O O .scf ⟨.all id,.all id,G⟩ (fun hc=>H1 (args:=[E0 s56,G0 y56.ID]) O (M_twistlocklaw23_holds_w s56 y56.ID r63 (Gv hc hr63)) tf_call_27 ⟨O,O,O,O,G⟩) ?_
     refine JLg (BL (((decide ((i6:Int) < y56.Load))||(decide (y56.Discharge≤(i6:Int))))||r63)) (Y4 O O O O) ?_
     refine G8 (hK62 _ _ ?_)
     refine Gh O (fun hb=>?_) (fun hb=>?_)
     ·
      replace h:=Gv hb h
      refine Hk ?_
      exact ej59 _ _ s56 h ⟨(by repeat' constructor),⟨⟨_,rfl,.map⟩,⟨_,rfl,.same⟩,⟨_,rfl,.map⟩,⟨_,rfl,.boxL rfl ⟨.same rfl,.same rfl,G⟩⟩,⟨_,rfl,.boxL rfl ⟨.same rfl,.same rfl,G⟩⟩,G⟩,rfl⟩
     ·
      replace h:=Hp hb h
      refine Gj ?_
      refine hK61 _ _ ?_
      refine G6 fun K64 hK64=>G3 ?_
      refine JLg (BL false) (G9 O O) ?_
      refine G8 (hK64 _ _ ?_)
      refine G6 (fun K65 hK65=>?_)
      refine G6 fun K66 hK66=>G3 ?_
      refine JLg (G0 0) (G9 O O) ?_
      refine G8 (hK66 _ _ ?_)
      refine Gg ?_
      obtain⟨b67,hb67,h⟩:=loop_in h
      refine H7 (fun i67 (s67:(List G2)×Bool×Int)=>loop b67 i67 s67=some r) (fun i67 s67=>[(1,E2 boxes),(2,.mp 1023),(3,G0 calls),(4,Ee s),(8,.ptr 1044 0),(10,.ptr 1045 0),(12,Em i6),(13,E0 s67.1),(21,Eh y56),(22,BL s67.2.1),(23,G0 s67.2.2),(83,E2 boxes),(84,Em boxes.length),(85,Em i56)]) (fun i67 s67=>[(1023,MP 55 (fun n:Int=>Value.int .i64 n) G0 home),(1053,.spare 50 1 s6.1.length s6.1.length),(1051,MP 97 (fun n:Int=>Value.int .i64 n) Slot.av s6.2.2),(1044,.box 41 [LS 1 (E0) ([]:List (List G2)),LS 1 (E1) ([]:List (List Int))]),(1045,.box 41 [OW 1053 1 (E0) s6.1,LS 1 (E1) s6.2.1])]) (fun i67=>i67) F (s56,false,0) h ⟨(by repeat' constructor),⟨⟨_,rfl,.map⟩,⟨_,rfl,.same⟩,⟨_,rfl,.map⟩,⟨_,rfl,.boxL rfl ⟨.same rfl,.same rfl,G⟩⟩,⟨_,rfl,.boxL rfl ⟨.same rfl,.same rfl,G⟩⟩,G⟩,rfl⟩ ?_
      clear h
      intro i67 s67 hi67 K67 e67
      obtain⟨m67,nx67,hm_67,hn67,h⟩:=loop_out hi67
      replace h:=app2 hb67 h
      refine G6 (fun K68 hK68=>?_)
      refine G6 fun K69 hK69=>G3 ?_
      refine JLg (G0 s67.2.2) (G7 O O) ?_
      refine JLg (Ee s) (Gc J6 O O O) ?_
      refine JLg (E4 s.Columns) (Gf Jd O O O) ?_
      refine Hs (f:=G5.av) (xs:=s.Columns) J7 O O (fun hm108=>?_) O O O
      refine JLg (BL (decide (s67.2.2 < (s.Columns.length:Int)))) (Hy O O O) ?_
      refine JLg (BL (decide (s67.2.2 < (s.Columns.length:Int)))) (G7 O O) ?_
      refine Gd (u:=BL s67.2.1) [] O O O .sct G (fun hc=>G7 O O) ?_
      refine Gd (u:=BL (!s67.2.1)) [(111,BL s67.2.1)] O O O .sct ⟨.all id,G⟩ (fun hc=>Rj (b:=s67.2.1) O O) ?_
      refine JLg (BL ((decide (s67.2.2 < (s.Columns.length:Int)))&&(!s67.2.1))) (Qr O O O O) ?_
      refine G8 (hK69 _ _ ?_)
      refine Gh O (fun hb=>?_) (fun hb=>?_)
      ·
       replace h:=Gv hb h
       refine Gj ?_
       refine hK68 _ _ ?_
       obtain⟨kj70,hkj70,h⟩:=Qd h
       refine Jq (fun j70:(List G2)×Bool=>kj70 j70=some r) (fun j70=>[(1,E2 boxes),(2,.mp 1023),(3,G0 calls),(4,Ee s),(8,.ptr 1044 0),(10,.ptr 1045 0),(12,Em i6),(13,E0 j70.1),(21,Eh y56),(22,BL j70.2),(23,G0 s67.2.2),(83,E2 boxes),(84,Em boxes.length),(85,Em i56)]) (fun j70=>[(1023,MP 55 (fun n:Int=>Value.int .i64 n) G0 home),(1053,.spare 50 1 s6.1.length s6.1.length),(1051,MP 97 (fun n:Int=>Value.int .i64 n) Slot.av s6.2.2),(1044,.box 41 [LS 1 (E0) ([]:List (List G2)),LS 1 (E1) ([]:List (List Int))]),(1045,.box 41 [OW 1053 1 (E0) s6.1,LS 1 (E1) s6.2.1])]) (fun Kj70 ej70=>?_) ?_
       ·
        refine Gg ?_
        refine G6 fun K71 hK71=>G3 ?_
        refine JLg (.agg (Gz.cs s)) (Gi J0 O O O) ?_
        refine JLg (.dptr ((Gp.cs y56).drop 2)) (Gc Yg O O O) ?_
        refine JLg (U8 y56.Size) (Gf Hx O O O) ?_
        obtain⟨r72,hr72,h⟩:=Ge h
        refine JLg (E5 r72) (H1 (args:=[.agg (Gz.cs s),U8 y56.Size]) O (M_slot_All_w s y56.Size r72 hr72) tf_call_28 ⟨O,O,O,O,G⟩) ?_
        refine Hs (f:=Slot.av) (xs:=r72) R2 O O (fun hm120=>?_) O O O
        refine JLg (G0 0) (G7 O O) ?_
        refine G8 (hK71 _ _ ?_)
        refine Gg ?_
        obtain⟨b99,kx99,hb99,hkx99,h⟩:=Hu h
        refine H7 (fun i99 (s99:(List G2)×Bool)=>each b99 kx99 (List.drop i99 r72) i99 s99=some r) (fun i99 s99=>[(1,E2 boxes),(2,.mp 1023),(3,G0 calls),(4,Ee s),(8,.ptr 1044 0),(10,.ptr 1045 0),(12,Em i6),(13,E0 s99.1),(21,Eh y56),(22,BL s99.2),(23,G0 s67.2.2),(83,E2 boxes),(84,Em boxes.length),(85,Em i56),(119,E5 r72),(120,Em r72.length),(121,Em i99)]) (fun i99 s99=>[(1023,MP 55 (fun n:Int=>Value.int .i64 n) G0 home),(1053,.spare 50 1 s6.1.length s6.1.length),(1051,MP 97 (fun n:Int=>Value.int .i64 n) Slot.av s6.2.2),(1044,.box 41 [LS 1 (E0) ([]:List (List G2)),LS 1 (E1) ([]:List (List Int))]),(1045,.box 41 [OW 1053 1 (E0) s6.1,LS 1 (E1) s6.2.1])]) (fun i99=>r72.length - i99) 0 (s67.1,s67.2.1) h ⟨(by repeat' constructor),⟨⟨_,rfl,.map⟩,⟨_,rfl,.same⟩,⟨_,rfl,.map⟩,⟨_,rfl,.boxL rfl ⟨.same rfl,.same rfl,G⟩⟩,⟨_,rfl,.boxL rfl ⟨.same rfl,.same rfl,G⟩⟩,G⟩,rfl⟩ ?_
        clear h
        intro i99 s99 hi99 K99 e99
        refine G6 fun K100 hK100=>G3 ?_
        refine JLg (BL (decide ((i99:Int) < (r72.length:Int)))) (Hy O O O) ?_
        refine G8 (hK100 _ _ ?_)
        refine G6 (fun K101 hK101=>?_)
        refine Gh O (fun hb=>?_) (fun hb=>?_)
        ·
         have hk99:=J9 hb
         obtain⟨y99,nx99,hy99,hn99,h⟩:=Hn hi99 hk99
         replace h:=app4 hb99 h
         refine Gj ?_
         refine hK101 _ _ ?_
         refine G6 (fun K102 hK102=>?_)
         refine Gg ?_
         refine G6 fun K103 hK103=>G3 ?_
         refine JLg (Eg y99) (H0 (f:=Slot.av) (xs:=r72) (y:=y99) O O O R2 hy99 O) ?_
         refine JLg (.agg (Slot.cs y99)) (Gi Jp O O O) ?_
         refine JLg (.ptr 1049 0) (Hi 1049 3 Qz O O) ?_
         refine Hj (u:=.junk) (H2 (u:=.agg (Slot.cs y99)) (ds:=[G0 y99.G5,G0 y99.Tier,U8 y99.Half]) R8 O O O O O O O O) ?_
         refine G8 (hK103 _ _ ?_)
         refine Gk [(1,E2 boxes),(2,.mp 1023),(3,G0 calls),(4,Ee s),(8,.ptr 1044 0),(10,.ptr 1045 0),(12,Em i6),(13,E0 s99.1),(21,Eh y56),(22,BL s99.2),(23,G0 s67.2.2),(25,Eg y99),(83,E2 boxes),(84,Em boxes.length),(85,Em i56),(119,E5 r72),(120,Em r72.length),(121,Em i99)] [(1023,MP 55 (fun n:Int=>Value.int .i64 n) G0 home),(1053,.spare 50 1 s6.1.length s6.1.length),(1051,MP 97 (fun n:Int=>Value.int .i64 n) Slot.av s6.2.2),(1044,.box 41 [LS 1 (E0) ([]:List (List G2)),LS 1 (E1) ([]:List (List Int))]),(1045,.box 41 [OW 1053 1 (E0) s6.1,LS 1 (E1) s6.2.1])] 1049 rfl rfl rfl ⟨⟨_,rfl,.map⟩,⟨_,rfl,.same⟩,⟨_,rfl,.map⟩,⟨_,rfl,.boxEq rfl rfl⟩,⟨_,rfl,.boxEq rfl rfl⟩,G⟩ rfl (by repeat' (first | exact .ptr | constructor)) ?_
         refine G6 fun K104 hK104=>G3 ?_
         refine JLg (E0 s99.1) (G7 O O) ?_
         refine JLg (Eh y56) (Gc Ji O O O) ?_
         refine JLg (G0 y56.ID) (Gf Gb O O O) ?_
         refine JLg (.agg (Slot.cs y99)) (Gi Jp O O O) ?_
         refine JLg (.agg [G0 y56.ID,G0 y99.G5,G0 y99.Tier,U8 y99.Half]) (J4 (cs:=[G0 y56.ID,G0 y99.G5,G0 y99.Tier,U8 y99.Half]) [(0,1),(1,3)] [G0 0,G0 0,G0 0,U8 0] [.int .i64 0,.int .i64 0,.int .i64 0,.int .u8 0] tf_places_86 tf_zero_86 ⟨.inl O,.inl O,.inl O,.inl O,G⟩ O O) ?_
         obtain⟨r105,hr105,h⟩:=Ge h
         refine JLg (E0 r105) (H1 (args:=[E0 s99.1,.agg [G0 y56.ID,G0 y99.G5,G0 y99.Tier,U8 y99.Half]]) O (M_twistlocklaw23_with_w s99.1 (G2.mk y56.ID y99) r105 hr105) tf_call_26 ⟨O,O,O,O,G⟩) ?_
         refine JLg (E0 r105) (G9 O O) ?_
         refine G8 (hK104 _ _ ?_)
         refine G6 (fun K106 hK106=>?_)
         refine R0 (l':=[(1,E2 boxes),(2,.mp 1023),(3,G0 calls),(4,Ee s),(8,.ptr 1044 0),(10,.ptr 1045 0),(12,Em i6),(13,E0 s99.1),(21,Eh y56),(22,BL s99.2),(23,G0 s67.2.2),(25,Eg y99),(26,E0 r105),(83,E2 boxes),(84,Em boxes.length),(85,Em i56),(119,E5 r72),(120,Em r72.length),(121,Em i99)]) (L':=[(1023,MP 55 (fun n:Int=>Value.int .i64 n) G0 home),(1053,.spare 50 1 s6.1.length s6.1.length),(1051,MP 97 (fun n:Int=>Value.int .i64 n) Slot.av s6.2.2),(1044,.box 41 [LS 1 (E0) ([]:List (List G2)),LS 1 (E1) ([]:List (List Int))]),(1045,.box 41 [OW 1053 1 (E0) s6.1,LS 1 (E1) s6.2.1])]) ⟨(by repeat' constructor),⟨⟨_,rfl,.map⟩,⟨_,rfl,.same⟩,⟨_,rfl,.map⟩,⟨_,rfl,.boxL rfl ⟨.same rfl,.same rfl,G⟩⟩,⟨_,rfl,.boxL rfl ⟨.same rfl,.same rfl,G⟩⟩,G⟩,rfl⟩ ?_
         obtain⟨v107,hv107,h⟩:=Ge h
         obtain⟨v108,hv108,h⟩:=Hm h
         obtain⟨v109,hv109,h⟩:=Ge h
         obtain⟨r110,hr110,h⟩:=Ge h
         refine Qp [] [0,0,0,0,0,0,0,0,0,0,0,0,0,0,0,0,0,0,0] [0,0,0,0,0,0,0,0,0,0,0,0,0,0,0,0,0,0,0] [[(1023,MP 55 (fun n:Int=>Value.int .i64 n) G0 home),(1053,.spare 50 1 s6.1.length s6.1.length),(1051,MP 97 (fun n:Int=>Value.int .i64 n) Slot.av s6.2.2),(1044,.box 41 [LS 1 (E0) ([]:List (List G2)),LS 1 (E1) ([]:List (List Int))]),(1045,.box 41 [OW 1053 1 (E0) s6.1,LS 1 (E1) s6.2.1])]] Q5 (by kernel_rfl) rfl rfl ?_
         refine Gn (u:=Eg y99) O O ⟨Gs (Gc J8 O O O) O,G⟩ ?_
         refine Gn (u:=G0 y99.G5) O O ⟨Gs (Gf Gb O O O) O,G⟩ ?_
         refine Gn (u:=.mp 1023) O O ⟨Gs (G7 O O) O,G⟩ ?_
         refine Gn (u:=Eh y56) O O ⟨Gs (Gc Ji O O O) O,G⟩ ?_
         refine Gn (u:=G0 y56.ID) O O ⟨Gs (Gf Gb O O O) O,G⟩ ?_
         refine Gn (u:=G0 v107) O O ⟨Gs (((Option.some.inj hv107) ▸ Qv (av:=G0) (m:=home) (a:=y56.ID) 0 (.int .i64 0) O O O O tk_3 R5 Rw O)) O,G⟩ ?_
         refine Gn (u:=G0 s67.2.2) O O ⟨Gs (G7 O O) O,G⟩ ?_
         refine Gn (u:=G0 v108) O O ⟨Gs (Ht hv108 O O O) O,G⟩ ?_
         refine Gn (u:=Ee s) O O ⟨Gs (Gc J6 O O O) O,G⟩ ?_
         refine Gn (u:=E4 s.Columns) O O ⟨Gs (Gf Jd O O O) O,G⟩ ?_
         refine Gn (u:=Em s.Columns.length) O O ⟨Gs (Yz (f:=G5.av) (xs:=s.Columns) J7 O O) O,G⟩ ?_
         refine Gn (u:=G0 v109) O O ⟨Gs (A_rem (rem64_out hv109).1 (rem64_out hv109).2 O O O) O,G⟩ ?_
         refine Gn (u:=BL (decide (y99.G5=v109))) O O ⟨Gs (Qb O O O) O,G⟩ ?_
         refine Gn (u:=BL (decide (y99.G5=v109))) O O ⟨Gs (G7 O O) O,G⟩ ?_
         refine Gn (u:=.opt (decide (y99.G5=v109)) (.agg (Gz.cs s))) O O ⟨Hf [] O O O .sct G (fun hc=>Gi J0 O O O) O,G⟩ ?_
         refine Gn (u:=.opt (decide (y99.G5=v109)) (E2 boxes)) O O ⟨Hf [] O O O .sct G (fun hc=>G7 O O) O,G⟩ ?_
         refine Gn (u:=.opt (decide (y99.G5=v109)) (E0 r105)) O O ⟨Hf [] O O O .sct G (fun hc=>G7 O O) O,G⟩ ?_
         refine Gn (u:=.opt (decide (y99.G5=v109)) (BL r110)) O O ⟨Hf [(145,.agg (Gz.cs s)),(146,E2 boxes),(147,E0 r105)] O O O .sct ⟨.all id,.all id,.all id,G⟩ (fun hc=>H1 (args:=[.agg (Gz.cs s),E2 boxes,E0 r105]) O (M_stow_Right_w s boxes r105 r110 (Gv hc hr110)) tf_call_18 ⟨O,O,O,O,O,O,G⟩) O,G⟩ ?_
         refine Gn (u:=BL ((decide (y99.G5=v109))&&r110)) O O ⟨Gs (Qr O O O O) O,G⟩ ?_
         refine Ry ?_
         refine hK106 _ _ ?_
         refine Gh O (fun hb=>?_) (fun hb=>?_)
         ·
          replace h:=Gv hb h
          refine G6 fun K111 hK111=>G3 ?_
          refine JLg (E0 r105) (G7 O O) ?_
          refine JLg (E0 r105) (G9 O O) ?_
          refine JLg (BL true) (G9 O O) ?_
          refine G8 (hK111 _ _ ?_)
          refine Hk ?_
          exact ej70 _ _ (r105,true) h ⟨(by repeat' constructor),⟨⟨_,rfl,.map⟩,⟨_,rfl,.same⟩,⟨_,rfl,.map⟩,⟨_,rfl,.boxL rfl ⟨.same rfl,.same rfl,G⟩⟩,⟨_,rfl,.boxL rfl ⟨.same rfl,.same rfl,G⟩⟩,G⟩,rfl⟩
         ·
          replace h:=Hp hb h
          refine Gj ?_
          refine hK102 _ _ ?_
          refine G3 ?_
          refine JLg (G0 ((i99+1:Nat):Int)) (Ht (Hc hk99 hm120) O O O) ?_
          refine JLg (G0 ((i99+1:Nat):Int)) (G7 O O) ?_
          refine G8 ?_
          exact e99 _ _ (i99+1) (s99.1,s99.2) (app1 hn99 h) (by omega) ⟨(by repeat' constructor),⟨⟨_,rfl,.map⟩,⟨_,rfl,.same⟩,⟨_,rfl,.map⟩,⟨_,rfl,.boxL rfl ⟨.same rfl,.same rfl,G⟩⟩,⟨_,rfl,.boxL rfl ⟨.same rfl,.same rfl,G⟩⟩,G⟩,rfl⟩
        ·
         have h:=app1 hkx99 (Ho hi99 (H3 hb))
         refine Hk ?_
         exact ej70 _ _ (s99.1,s99.2) h ⟨(by repeat' constructor),⟨⟨_,rfl,.map⟩,⟨_,rfl,.same⟩,⟨_,rfl,.map⟩,⟨_,rfl,.boxL rfl ⟨.same rfl,.same rfl,G⟩⟩,⟨_,rfl,.boxL rfl ⟨.same rfl,.same rfl,G⟩⟩,G⟩,rfl⟩
       ·intro j70 h
        replace h:=app1 hkj70 h
        refine G3 ?_
        refine JLg (G0 s67.2.2) (G7 O O) ?_
        obtain⟨v112,hv112,h⟩:=Hm h
        refine JLg (G0 v112) (Ht hv112 O O O) ?_
        refine JLg (G0 v112) (G9 O O) ?_
        refine G8 ?_
        exact e67 _ _ m67 (j70.1,j70.2,v112) (app1 hn67 h) (by omega) ⟨(by repeat' constructor),⟨⟨_,rfl,.map⟩,⟨_,rfl,.same⟩,⟨_,rfl,.map⟩,⟨_,rfl,.boxL rfl ⟨.same rfl,.same rfl,G⟩⟩,⟨_,rfl,.boxL rfl ⟨.same rfl,.same rfl,G⟩⟩,G⟩,rfl⟩
      ·
       replace h:=Hp hb h
       refine Hk ?_
       refine hK65 _ _ ?_
       refine G6 fun K113 hK113=>G3 ?_
       refine JLg (BL s67.2.1) (G7 O O) ?_
       refine JLg (BL (!s67.2.1)) (Rj (b:=s67.2.1) O O) ?_
       refine G8 (hK113 _ _ ?_)
       refine Gh O (fun hb=>?_) (fun hb=>?_)
       ·
        replace h:=Gv hb h
        refine G6 (fun K114 hK114=>?_)
        refine R0 (l':=[(8,.ptr 1044 0),(21,Eh y56)]) (L':=[(1023,MP 55 (fun n:Int=>Value.int .i64 n) G0 home),(1053,.spare 50 1 s6.1.length s6.1.length),(1051,MP 97 (fun n:Int=>Value.int .i64 n) Slot.av s6.2.2),(1044,.box 41 [LS 1 (E0) ([]:List (List G2)),LS 1 (E1) ([]:List (List Int))]),(1045,.box 41 [OW 1053 1 (E0) s6.1,LS 1 (E1) s6.2.1])]) ⟨⟨.same O,.same O,G⟩,⟨⟨_,O,.map⟩,⟨_,O,.same⟩,⟨_,O,.map⟩,⟨_,O,.boxL O ⟨.same O,.same O,G⟩⟩,⟨_,O,.boxL O ⟨.same O,.same O,G⟩⟩,G⟩,O⟩ ?_
        refine Qp [3] [0,0,0,0,1] [0,1,1,0,1] [[(1023,MP 55 (fun n:Int=>Value.int .i64 n) G0 home),(1053,.spare 50 1 s6.1.length s6.1.length),(1051,MP 97 (fun n:Int=>Value.int .i64 n) Slot.av s6.2.2),(1044,.box 41 [LS 1 (E0) ([]:List (List G2)),LS 1 (E1) ([]:List (List Int))]),(1045,.box 41 [OW 1053 1 (E0) s6.1,LS 1 (E1) s6.2.1])],((1044,.box 41 [LS 1 (E0) ([]:List (List G2)),LS 1 (E1) ([]:List (List Int))])::[(1023,MP 55 (fun n:Int=>Value.int .i64 n) G0 home),(1053,.spare 50 1 s6.1.length s6.1.length),(1051,MP 97 (fun n:Int=>Value.int .i64 n) Slot.av s6.2.2),(1044,.box 41 [LS 1 (E0) ([]:List (List G2)),LS 1 (E1) ([]:List (List Int))]),(1045,.box 41 [OW 1053 1 (E0) s6.1,LS 1 (E1) s6.2.1])])] Q5 (by kernel_rfl) rfl rfl ?_
        refine Gn (u:=.agg [LS 1 (E0) ([]:List (List G2)),LS 1 (E1) ([]:List (List Int))]) O O ⟨Gs (J4 (cs:=[LS 1 (E0) ([]:List (List G2)),LS 1 (E1) ([]:List (List Int))]) [(0,1),(1,1)] [LS 1 (E0) ([]:List (List G2)),LS 1 (E1) ([]:List (List Int))] [.slice none 0 0,.slice none 0 0] tf_places_41 tf_zero_41 ⟨.inr ⟨_,O,O⟩,.inr ⟨_,O,O⟩,G⟩ O O) O,G⟩ ?_
        refine Gn (u:=Eh y56) O O ⟨Gs (Gc Ji O O O) O,Gs (Gc Ji O O O) O,G⟩ ?_
        refine Gn (u:=G0 y56.ID) O O ⟨Gs (Gf Gb O O O) O,Gs (Gf Gb O O O) O,G⟩ ?_
        refine D_w0 (u:=.junk) O O O O (Gs (H2 (u:=.agg [LS 1 (E0) ([]:List (List G2)),LS 1 (E1) ([]:List (List Int))]) (ds:=[LS 1 (E0) ([]:List (List G2)),LS 1 (E1) ([]:List (List Int))]) tf_size_41 O O O O O O O O) O) ?_
        refine Gn (u:=G0 y56.ID) O O ⟨Gs (G9 O O) O,G⟩ ?_
        refine Ry ?_
        refine hK114 _ _ ?_
        refine R0 (l':=[(8,.ptr 1044 0),(9,G0 y56.ID)]) (L':=[(1023,MP 55 (fun n:Int=>Value.int .i64 n) G0 home),(1051,MP 97 (fun n:Int=>Value.int .i64 n) Slot.av s6.2.2),(1044,.box 41 [LS 1 (E0) ([]:List (List G2)),LS 1 (E1) ([]:List (List Int))]),(1045,.box 41 [LS 1 (E0) s6.1,LS 1 (E1) s6.2.1])]) ⟨⟨.same O,.same O,G⟩,⟨⟨_,O,.map⟩,⟨_,O,.map⟩,⟨_,O,.boxL O ⟨.same O,.same O,G⟩⟩,⟨_,O,.boxL O ⟨.list O,.same O,G⟩⟩,G⟩,O⟩ ?_
        refine Gk [(8,.ptr 1044 0),(9,G0 y56.ID)] [(1023,MP 55 (fun n:Int=>Value.int .i64 n) G0 home),(1051,MP 97 (fun n:Int=>Value.int .i64 n) Slot.av s6.2.2),(1044,.box 41 [LS 1 (E0) ([]:List (List G2)),LS 1 (E1) ([]:List (List Int))])] 1045 rfl rfl rfl ⟨⟨_,rfl,.map⟩,⟨_,rfl,.map⟩,⟨_,rfl,.boxEq rfl rfl⟩,G⟩ rfl (by exact⟨.conv (.same rfl),.conv (.same rfl),G⟩) ?_
        refine Gu ?_
        obtain rfl:=Option.some.inj h
        exact⟨[.agg [LS 1 (E0) ([]:List (List G2)),LS 1 (E1) ([]:List (List Int))],G0 y56.ID],[(1023,MP 55 (fun n:Int=>Value.int .i64 n) G0 home)],⟨⟨_,O,.map⟩,G⟩,O,⟨⟨_,⟨_,_,_,_,O,O,O,.inl ⟨Ru,O⟩⟩,.conv (.same O)⟩,⟨_,O,.conv (.same O)⟩,G⟩,O,O⟩
       ·
        replace h:=Hp hb h
        refine Gj ?_
        exact ej59 _ _ s67.1 h ⟨(by repeat' constructor),⟨⟨_,rfl,.map⟩,⟨_,rfl,.same⟩,⟨_,rfl,.map⟩,⟨_,rfl,.boxL rfl ⟨.same rfl,.same rfl,G⟩⟩,⟨_,rfl,.boxL rfl ⟨.same rfl,.same rfl,G⟩⟩,G⟩,rfl⟩
    ·intro j59 h
     replace h:=app1 hkj59 h
     refine G3 ?_
     refine JLg (G0 ((i56+1:Nat):Int)) (Ht (Hc hk56 hm84) O O O) ?_
     refine JLg (G0 ((i56+1:Nat):Int)) (G7 O O) ?_
     refine G8 ?_
     exact e56 _ _ (i56+1) j59 (app1 hn56 h) (by omega) ⟨(by repeat' constructor),⟨⟨_,rfl,.map⟩,⟨_,rfl,.same⟩,⟨_,rfl,.map⟩,⟨_,rfl,.boxL rfl ⟨.same rfl,.same rfl,G⟩⟩,⟨_,rfl,.boxL rfl ⟨.same rfl,.same rfl,G⟩⟩,G⟩,rfl⟩
   ·
    have h:=app1 hkx56 (Ho hi56 (H3 hb))
    refine Hk ?_
    refine hK54 _ _ ?_
    refine G6 fun K115 hK115=>G3 ?_
    refine JLg (.mp 1052) (Rt 1052 (fun n:Int=>Value.int .i64 n) Slot.av O O) ?_
    refine JLg (.mp 1052) (G9 O O) ?_
    refine JL_rename 1051 1052 (MP 97 (fun n:Int=>Value.int .i64 n) Slot.av (Gr.empty:Gr Int Slot)) [(1,E2 boxes),(2,.mp 1023),(3,G0 calls),(4,Ee s),(8,.ptr 1044 0),(10,.ptr 1045 0),(12,Em i6),(13,E0 s56),(83,E2 boxes),(84,Em boxes.length),(85,Em i56),(86,BL (decide ((i56:Int) < (boxes.length:Int)))),(158,.mp 1052),(11,.mp 1052)] [(1,E2 boxes),(2,.mp 1023),(3,G0 calls),(4,Ee s),(8,.ptr 1044 0),(10,.ptr 1045 0),(12,Em i6),(13,E0 s56),(83,E2 boxes),(84,Em boxes.length),(85,Em i56),(86,BL (decide ((i56:Int) < (boxes.length:Int)))),(158,.mp 1051),(11,.mp 1051)] [(1023,MP 55 (fun n:Int=>Value.int .i64 n) G0 home),(1053,.spare 50 1 s6.1.length s6.1.length),(1044,.box 41 [LS 1 (E0) ([]:List (List G2)),LS 1 (E1) ([]:List (List Int))]),(1045,.box 41 [OW 1053 1 (E0) s6.1,LS 1 (E1) s6.2.1])] ⟨_,_,rfl⟩ ⟨(by repeat' constructor),⟨⟨_,rfl,.map⟩,⟨_,rfl,.map⟩,⟨_,rfl,.same⟩,⟨_,rfl,.boxL rfl ⟨.same rfl,.same rfl,G⟩⟩,⟨_,rfl,.boxL rfl ⟨.same rfl,.same rfl,G⟩⟩,G⟩,rfl⟩ rfl rfl rfl rfl rfl ⟨⟨_,rfl,.map⟩,⟨_,rfl,.same⟩,⟨_,rfl,.boxEq rfl rfl⟩,⟨_,rfl,.boxEq rfl rfl⟩,G⟩ ⟨.inr ⟨rfl,rfl⟩,⟨.inr ⟨rfl,rfl⟩,⟨.inr ⟨rfl,rfl⟩,⟨.inr ⟨rfl,rfl⟩,⟨.inr ⟨rfl,rfl⟩,⟨.inr ⟨rfl,rfl⟩,⟨.inr ⟨rfl,rfl⟩,⟨.inr ⟨rfl,rfl⟩,⟨.inr ⟨rfl,rfl⟩,⟨.inr ⟨rfl,rfl⟩,⟨.inr ⟨rfl,rfl⟩,⟨.inr ⟨rfl,rfl⟩,⟨.inl ⟨rfl,rfl⟩,⟨.inl ⟨rfl,rfl⟩,G⟩⟩⟩⟩⟩⟩⟩⟩⟩⟩⟩⟩⟩⟩ ?_
    refine G8 (hK115 _ _ ?_)
    refine G6 (fun K116 hK116=>?_)
    refine G6 fun K117 hK117=>G3 ?_
    refine JLg (E0 s56) (G7 O O) ?_
    refine Hs (f:=G2.av) (xs:=s56) Gx O O (fun hm160=>?_) O O O
    refine JLg (G0 0) (G7 O O) ?_
    refine G8 (hK117 _ _ ?_)
    refine Gg ?_
    obtain⟨b138,kx138,hb138,hkx138,h⟩:=Hu h
    refine H7 (fun i138 (s138:(Gr Int Slot))=>each b138 kx138 (List.drop i138 s56) i138 s138=some r) (fun i138 s138=>[(1,E2 boxes),(2,.mp 1023),(3,G0 calls),(4,Ee s),(8,.ptr 1044 0),(10,.ptr 1045 0),(11,.mp 1051),(12,Em i6),(13,E0 s56),(159,E0 s56),(160,Em s56.length),(161,Em i138)]) (fun i138 s138=>[(1051,MP 97 (fun n:Int=>Value.int .i64 n) Slot.av s138),(1023,MP 55 (fun n:Int=>Value.int .i64 n) G0 home),(1053,.spare 50 1 s6.1.length s6.1.length),(1044,.box 41 [LS 1 (E0) ([]:List (List G2)),LS 1 (E1) ([]:List (List Int))]),(1045,.box 41 [OW 1053 1 (E0) s6.1,LS 1 (E1) s6.2.1])]) (fun i138=>s56.length - i138) 0 (Gr.empty:Gr Int Slot) h ⟨(by repeat' constructor),⟨⟨_,rfl,.map⟩,⟨_,rfl,.map⟩,⟨_,rfl,.same⟩,⟨_,rfl,.boxL rfl ⟨.same rfl,.same rfl,G⟩⟩,⟨_,rfl,.boxL rfl ⟨.same rfl,.same rfl,G⟩⟩,G⟩,rfl⟩ ?_
    clear h
    intro i138 s138 hi138 K138 e138
    refine G6 fun K139 hK139=>G3 ?_
    refine JLg (BL (decide ((i138:Int) < (s56.length:Int)))) (Hy O O O) ?_
    refine G8 (hK139 _ _ ?_)
    refine G6 (fun K140 hK140=>?_)
    refine Gh O (fun hb=>?_) (fun hb=>?_)
    ·
     have hk138:=J9 hb
     obtain⟨y138,nx138,hy138,hn138,h⟩:=Hn hi138 hk138
     replace h:=app4 hb138 h
     refine Gj ?_
     refine hK140 _ _ ?_
     refine G6 (fun K141 hK141=>?_)
     refine Gg ?_
     refine G6 fun K142 hK142=>G3 ?_
     refine JLg (Ef y138) (H0 (f:=G2.av) (xs:=s56) (y:=y138) O O O Gx hy138 O) ?_
     refine JLg (.agg (G2.cs y138)) (Gi Jf O O O) ?_
     refine JLg (.ptr 1050 0) (Hi 1050 4 Jb O O) ?_
     refine Hj (u:=.junk) (H2 (u:=.agg (G2.cs y138)) (ds:=[G0 y138.Gp,G0 y138.Slot.G5,G0 y138.Slot.Tier,U8 y138.Slot.Half]) Jz O O O O O O O O) ?_
     refine G8 (hK142 _ _ ?_)
     refine Gk [(1,E2 boxes),(2,.mp 1023),(3,G0 calls),(4,Ee s),(8,.ptr 1044 0),(10,.ptr 1045 0),(11,.mp 1051),(12,Em i6),(13,E0 s56),(28,Ef y138),(159,E0 s56),(160,Em s56.length),(161,Em i138)] [(1051,MP 97 (fun n:Int=>Value.int .i64 n) Slot.av s138),(1023,MP 55 (fun n:Int=>Value.int .i64 n) G0 home),(1053,.spare 50 1 s6.1.length s6.1.length),(1044,.box 41 [LS 1 (E0) ([]:List (List G2)),LS 1 (E1) ([]:List (List Int))]),(1045,.box 41 [OW 1053 1 (E0) s6.1,LS 1 (E1) s6.2.1])] 1050 rfl rfl rfl ⟨⟨_,rfl,.map⟩,⟨_,rfl,.map⟩,⟨_,rfl,.same⟩,⟨_,rfl,.boxEq rfl rfl⟩,⟨_,rfl,.boxEq rfl rfl⟩,G⟩ rfl (by repeat' (first | exact .ptr | constructor)) ?_
     refine G3 ?_
     refine JLg (.mp 1051) (G7 O O) ?_
     refine JLg (Ef y138) (Gc J5 O O O) ?_
     refine JLg (G0 y138.Gp) (Gf Gb O O O) ?_
     refine JLg (Eg y138.Slot) (Gc J1 O O O) ?_
     refine JLg (.agg (Slot.cs y138.Slot)) (Gi Jp O O O) ?_
     refine Hj (u:=.junk) (Y0 (m:=s138) (a:=y138.Gp) (v:=y138.Slot) O O O O O O tk_3 tf_map_97) ?_
     refine G8 (hK141 _ _ ?_)
     refine G3 ?_
     refine JLg (G0 ((i138+1:Nat):Int)) (Ht (Hc hk138 hm160) O O O) ?_
     refine JLg (G0 ((i138+1:Nat):Int)) (G7 O O) ?_
     refine G8 ?_
     exact e138 _ _ (i138+1) (Gr.put s138 y138.Gp y138.Slot) (app1 hn138 h) (by omega) ⟨(by repeat' constructor),⟨⟨_,rfl,.map⟩,⟨_,rfl,.map⟩,⟨_,rfl,.same⟩,⟨_,rfl,.boxL rfl ⟨.same rfl,.same rfl,G⟩⟩,⟨_,rfl,.boxL rfl ⟨.same rfl,.same rfl,G⟩⟩,G⟩,rfl⟩
    ·
     have h:=app1 hkx138 (Ho hi138 (H3 hb))
     refine Hk ?_
     refine hK116 _ _ ?_
     refine G3 ?_
     refine JLg (.ptr 1045 0) (Jg Qy O O) ?_
     refine JLg (OW 1053 1 (E0) s6.1) (Jx Qk O O O O) ?_
     refine JLg (E0 s56) (G7 O O) ?_
     refine JLg (LS 1 (E0) [s56]) (Hd (xs:=[E0 s56]) O ⟨O,O,G⟩ Ja Ys O O O O) ?_
     obtain⟨ha143,h⟩:=Je h
     refine JLg (OW 1053 1 (E0) (s6.1++[s56])) (Qu (f:=(E0)) (xs:=s6.1) (ys:=[s56]) O O O O Ja tf_elem_50 ha143 (fun _=>O) (.inl O) O) ?_
     refine JLg (.ptr 1045 0) (Jg Qy O O) ?_
     refine Hj (u:=.junk) (H2 (u:=OW 1053 1 (E0) (s6.1++[s56])) (ds:=[OW 1053 1 (E0) (s6.1++[s56]),LS 1 (E1) s6.2.1]) tf_size_38 O O O O O O O O) ?_
     refine G8 (hK9 _ _ ?_)
     refine G3 ?_
     refine JLg (Em i6) (G7 O O) ?_
     refine JLg (G0 ((i6+1:Nat):Int)) (Ht (Hc hk6 (toNat_max hx6)) O O O) ?_
     refine JLg (G0 ((i6+1:Nat):Int)) (G9 O O) ?_
     refine G8 ?_
     exact e6 _ _ (i6+1) ((s6.1++[s56]),s6.2.1,s138) (app1 hn6 h) (by omega) ⟨(by repeat' constructor),⟨⟨_,rfl,.map⟩,⟨_,rfl,.same⟩,⟨_,rfl,.map⟩,⟨_,rfl,.boxL rfl ⟨.same rfl,.same rfl,G⟩⟩,⟨_,rfl,.boxL rfl ⟨.same rfl,.same rfl,G⟩⟩,G⟩,rfl⟩
 ·
  have h:=app1 hkx6 (upto_nil hi6 (not_lt_toNat hb))
  refine Hk ?_
  refine hK4 _ _ ?_
  refine G6 fun K144 hK144=>G3 ?_
  refine JLg (.agg [OW 1053 1 (E0) s6.1,LS 1 (E1) s6.2.1]) (A_loadAggL Ru O O O O) ?_
  refine Hj (u:=.junk) (H2 (u:=.agg [OW 1053 1 (E0) s6.1,LS 1 (E1) s6.2.1]) (ds:=[OW 1053 1 (E0) s6.1,LS 1 (E1) s6.2.1]) tf_size_41 O O O O O O O O) ?_
  refine JLg (G0 0) (G9 O O) ?_
  refine G8 (hK144 _ _ ?_)
  refine Gu ?_
  obtain rfl:=Option.some.inj h
  exact⟨[.agg [LS 1 (E0) s6.1,LS 1 (E1) s6.2.1],G0 0],[(1023,MP 55 (fun n:Int=>Value.int .i64 n) G0 home)],⟨⟨_,O,.map⟩,G⟩,O,⟨⟨_,⟨_,_,_,_,O,O,O,.inl ⟨Ru,O⟩⟩,.agg ⟨.list O,.same O,G⟩⟩,⟨_,O,.conv (.same O)⟩,G⟩,O,O⟩

def M_twistlocklaw23_Voyage (F:Nat) (s:Gz) (l:List Hh) (calls:Int) (most:Int):Option ((List Gp)×Plan):=
 bnd (natIn (min (l.length:Int) most) l.length) fun m6=>
 each (fun y119 i119 (s119:(List Gp)×(Gr Int Int)) nx119=>
  chk (5*((i119+1:Nat):Int)) fun v125=>
  chk (y119.Kilos) fun v126=>
  chk (100*v126) fun v127=>
  chk (1000+v127) fun v128=>
  chk (y119.Load) fun v129=>
  chk (calls - 1) fun v130=>
  bnd (rem64 v129 v130) fun v131=>
  chk (v131+1) fun v133=>
  chk (y119.Stay) fun v134=>
  chk (calls - 1) fun v135=>
  chk (v135 - v131) fun v136=>
  bnd (rem64 v134 v136) fun v137=>
  chk (v133+v137) fun v138=>
  jp (fun kj139=>
   bif y119.Small then
   (kj139 (20,false))
   else
   (kj139 (40,y119.High))) fun(j139:Int×Bool)=>
  chk (y119.G5) fun v142=>
  bnd (rem64 v142 (s.Columns.length:Int)) fun v143=>
  need (decide ((s119.1.length+[(Gp.mk v125 ByteArray.empty j139.1 j139.2 v128 v131 v138 0 false)].length)*64≤140737488355328∧s119.1.length+[(Gp.mk v125 ByteArray.empty j139.1 j139.2 v128 v131 v138 0 false)].length≤maxLen)) <|
  nx119 ((s119.1++[(Gp.mk v125 ByteArray.empty j139.1 j139.2 v128 v131 v138 0 false)]),(Gr.put s119.2 v125 v143)))
 (fun(s119:(List Gp)×(Gr Int Int))=>
  chk ((s119.1.length:Int)+1) fun v147=>
  need (decide (v147≤9223372036854775807)) <|
  upto (fun i148 (s148:(List Gp)×(Gr Int Int)) nx148=>
   bnd (M_twistlocklaw23_voyage F s s148.1 s148.2 calls) fun r153=>
   bif decide (r153.2.1=0) then
   (some (s148.1,r153.1))
   else
   (each (fun y174 i174 (s174:(List Gp)) nx174=>
     jp (fun kj177=>
      bif decide (y174.ID≠r153.2.1) then
      (need (decide ((s174.length+[y174].length)*64≤140737488355328∧s174.length+[y174].length≤maxLen)) <|
       kj177 (s174++[y174]))
      else
      (kj177 s174)) fun(j177:(List Gp))=>
     nx174 j177)
    (fun(s174:(List Gp))=>
     nx148 (s174,r153.2.2)) s148.1 0 []))
  (fun(s148:(List Gp)×(Gr Int Int))=>
   bnd (natOf calls) fun m182=>
   need (decide (24*m182≤281474976710656∧m182≤maxLen∧m182*1≤16777216)) <|
   some ([],(Plan.mk (List.replicate m182 ([]:List G2)) []))) v147.toNat 0 (s119.1,s119.2)) (l.take m6) 0 ([],(Gr.empty:Gr Int Int))
theorem M_twistlocklaw23_Voyage_w (F:Nat) (s:Gz) (l:List Hh) (calls:Int) (most:Int) (r:(List Gp)×Plan) (h:M_twistlocklaw23_Voyage F s l calls most=some r):Pure Tryz.prog 5 [.agg (Gz.cs s),Ec l,G0 calls,G0 most] (·=.tup [E2 r.1,.agg [LS 1 (E0) r.2.States,LS 1 (E1) r.2.Water]]):=by
 unfold M_twistlocklaw23_Voyage at h
 refine H9 [.tmp 8,.cell 9 41] Tryz.func5 O O ?_
 refine G6 fun K1 hK1=>G3 ?_
 refine JLg (.ptr 1015 0) (Q1 (u:=.agg (Gz.cs s)) (cs:=(Gz.cs s)) 1015 O O O O O) ?_
 refine JLg (E2 ([]:List Gp)) (Jj 9 O O) ?_
 refine JLg (.ptr 1016 0) (Y1 1016 [LS 1 (E0) ([]:List (List G2)),LS 1 (E1) ([]:List (List Int))] [.slice none 0 0,.slice none 0 0] tf_zero_41 ⟨.inr ⟨_,O,O⟩,.inr ⟨_,O,O⟩,G⟩ O O) ?_
 refine G8 (hK1 _ _ ?_)
 refine Gk [(1,Ec l),(2,G0 calls),(3,G0 most),(4,Ee s),(9,.ptr 1016 0)] [(1016,.box 41 [LS 1 (E0) ([]:List (List G2)),LS 1 (E1) ([]:List (List Int))])] 1015 rfl rfl rfl ⟨⟨_,rfl,.boxEq rfl rfl⟩,G⟩ rfl (by repeat' (first | exact .ptr | constructor)) ?_
 refine G6 fun K2 hK2=>G3 ?_
 refine JLg (OW 1017 9 Gp.av ([]:List Gp)) (Yx 1017 61 9 O O O) ?_
 refine G8 (hK2 _ _ ?_)
 refine G6 fun K3 hK3=>G3 ?_
 refine JLg (.mp 1023) (Rt 1023 (fun n:Int=>Value.int .i64 n) G0 O O) ?_
 refine JLg (.mp 1023) (G9 O O) ?_
 refine G8 (hK3 _ _ ?_)
 refine G6 (fun K4 hK4=>?_)
 refine G6 fun K5 hK5=>G3 ?_
 refine JLg (Ec l) (G7 O O) ?_
 refine JLg (Ec l) (G7 O O) ?_
 refine Hs (f:=Hh.av) (xs:=l) tf_slice_24 O O (fun hm23=>?_) O O O
 refine JLg (G0 most) (G7 O O) ?_
 refine JLg (G0 (min (l.length:Int) most)) (A_min O O O) ?_
 obtain⟨m6,hm6,h⟩:=Ge h
 refine JLg (Ec (l.take m6)) (A_sliceHiM (f:=Hh.av) (xs:=l) O O O tf_slice_24 (natIn_out hm6)) ?_
 refine Hs (f:=Hh.av) (xs:=(l.take m6)) tf_slice_24 O O (fun hm27=>?_) O O O
 refine JLg (G0 0) (G7 O O) ?_
 refine G8 (hK5 _ _ ?_)
 refine Gg ?_
 obtain⟨b119,kx119,hb119,hkx119,h⟩:=Hu h
 refine H7 (fun i119 (s119:(List Gp)×(Gr Int Int))=>each b119 kx119 (List.drop i119 (l.take m6)) i119 s119=some r) (fun i119 s119=>[(2,G0 calls),(4,Ee s),(9,.ptr 1016 0),(10,OW 1017 9 Gp.av s119.1),(11,.mp 1023),(26,Ec (l.take m6)),(27,G0 ((l.take m6).length:Int)),(28,Em i119)]) (fun i119 s119=>[(1017,.spare 61 9 s119.1.length s119.1.length),(1023,MP 55 (fun n:Int=>Value.int .i64 n) G0 s119.2),(1016,.box 41 [LS 1 (E0) ([]:List (List G2)),LS 1 (E1) ([]:List (List Int))])]) (fun i119=>(l.take m6).length - i119) 0 ([],(Gr.empty:Gr Int Int)) h ⟨(by repeat' constructor),⟨⟨_,rfl,.same⟩,⟨_,rfl,.map⟩,⟨_,rfl,.boxL rfl ⟨.same rfl,.same rfl,G⟩⟩,G⟩,rfl⟩ ?_
 clear h
 intro i119 s119 hi119 K119 e119
 refine G6 fun K120 hK120=>G3 ?_
 refine JLg (BL (decide ((i119:Int) < ((l.take m6).length:Int)))) (Hy O O O) ?_
 refine G8 (hK120 _ _ ?_)
 refine G6 (fun K121 hK121=>?_)
 refine Gh O (fun hb=>?_) (fun hb=>?_)
 ·
  have hk119:=J9 hb
  obtain⟨y119,nx119,hy119,hn119,h⟩:=Hn hi119 hk119
  replace h:=app4 hb119 h
  refine Gj ?_
  refine hK121 _ _ ?_
  refine G6 (fun K122 hK122=>?_)
  refine Gg ?_
  refine G6 fun K123 hK123=>G3 ?_
  refine JLg (Em i119) (G7 O O) ?_
  refine JLg (.dptr (Hh.cs y119)) (H0 (f:=Hh.av) (xs:=(l.take m6)) (y:=y119) O O O tf_slice_24 hy119 O) ?_
  refine JLg (.agg (Hh.cs y119)) (Gi tf_agg_76 O O O) ?_
  refine JLg (.ptr 1018 0) (Hi 1018 6 tf_zsize_76 O O) ?_
  refine JLg (Em i119) (G9 O O) ?_
  refine Hj (u:=.junk) (H2 (u:=.agg (Hh.cs y119)) (ds:=[U8 y119.G5,U8 y119.Kilos,U8 y119.Load,U8 y119.Stay,BL y119.Small,BL y119.High]) tf_size_76 O O O O O O O O) ?_
  refine G8 (hK123 _ _ ?_)
  refine Gk [(2,G0 calls),(4,Ee s),(9,.ptr 1016 0),(10,OW 1017 9 Gp.av s119.1),(11,.mp 1023),(12,Em i119),(13,.dptr (Hh.cs y119)),(26,Ec (l.take m6)),(27,G0 ((l.take m6).length:Int)),(28,Em i119)] [(1017,.spare 61 9 s119.1.length s119.1.length),(1023,MP 55 (fun n:Int=>Value.int .i64 n) G0 s119.2),(1016,.box 41 [LS 1 (E0) ([]:List (List G2)),LS 1 (E1) ([]:List (List Int))])] 1018 rfl rfl rfl ⟨⟨_,rfl,.same⟩,⟨_,rfl,.map⟩,⟨_,rfl,.boxEq rfl rfl⟩,G⟩ rfl (by repeat' (first | exact .ptr | constructor)) ?_
  refine G6 (fun K124 hK124=>?_)
  refine R0 (l':=[(2,G0 calls),(4,Ee s),(9,.ptr 1016 0),(10,OW 1017 9 Gp.av s119.1),(11,.mp 1023),(12,Em i119),(13,.dptr (Hh.cs y119)),(26,Ec (l.take m6)),(27,G0 ((l.take m6).length:Int)),(28,Em i119)]) (L':=[(1017,.spare 61 9 s119.1.length s119.1.length),(1023,MP 55 (fun n:Int=>Value.int .i64 n) G0 s119.2),(1016,.box 41 [LS 1 (E0) ([]:List (List G2)),LS 1 (E1) ([]:List (List Int))])]) ⟨(by repeat' constructor),⟨⟨_,rfl,.same⟩,⟨_,rfl,.map⟩,⟨_,rfl,.boxL rfl ⟨.same rfl,.same rfl,G⟩⟩,G⟩,rfl⟩ ?_
  obtain⟨v125,hv125,h⟩:=Hm h
  obtain⟨v126,hv126,h⟩:=Hm h
  obtain⟨v127,hv127,h⟩:=Hm h
  obtain⟨v128,hv128,h⟩:=Hm h
  obtain⟨v129,hv129,h⟩:=Hm h
  obtain⟨v130,hv130,h⟩:=Hm h
  obtain⟨v131,hv131,h⟩:=Ge h
  refine Qp [17,18] [0,0,0,0,0,0,0,0,0,0,0,0,0,0,0,0,0,0,0] [1,1,1,1,1,1,1,1,1,1,1,1,1,1,1,1,1,0,0] [[(1017,.spare 61 9 s119.1.length s119.1.length),(1023,MP 55 (fun n:Int=>Value.int .i64 n) G0 s119.2),(1016,.box 41 [LS 1 (E0) ([]:List (List G2)),LS 1 (E1) ([]:List (List Int))])],((1019,.box 61 [.junk,.junk,.junk,.junk,.junk,.junk,.junk,.junk,.junk])::[(1017,.spare 61 9 s119.1.length s119.1.length),(1023,MP 55 (fun n:Int=>Value.int .i64 n) G0 s119.2),(1016,.box 41 [LS 1 (E0) ([]:List (List G2)),LS 1 (E1) ([]:List (List Int))])]),((1019,.box 61 [G0 v125,ST ByteArray.empty,U8 40,BL y119.High,G0 v128,G0 v131,G0 0,U8 0,BL false])::((1019,.box 61 [.junk,.junk,.junk,.junk,.junk,.junk,.junk,.junk,.junk])::[(1017,.spare 61 9 s119.1.length s119.1.length),(1023,MP 55 (fun n:Int=>Value.int .i64 n) G0 s119.2),(1016,.box 41 [LS 1 (E0) ([]:List (List G2)),LS 1 (E1) ([]:List (List Int))])]))] Q5 (by kernel_rfl) rfl rfl ?_
  refine Gn (u:=Em i119) O O ⟨Gs (G7 O O) O,Gs (G7 O O) O,G⟩ ?_
  refine Gn (u:=G0 ((i119+1:Nat):Int)) O O ⟨Gs (Ht (Hc hk119 hm27) O O O) O,Gs (Ht (Hc hk119 hm27) O O O) O,G⟩ ?_
  refine Gn (u:=G0 v125) O O ⟨Gs (A_mul hv125 O O O) O,Gs (A_mul hv125 O O O) O,G⟩ ?_
  refine Gn (u:=.dptr [BL y119.High]) O O ⟨Gs (Gc tf_field_76_5 O O O) O,Gs (Gc tf_field_76_5 O O O) O,G⟩ ?_
  refine Gn (u:=BL y119.High) O O ⟨Gs (Gf Qj O O O) O,Gs (Gf Qj O O O) O,G⟩ ?_
  refine Gn (u:=.dptr ((Hh.cs y119).drop 1)) O O ⟨Gs (Gc tf_field_76_1 O O O) O,Gs (Gc tf_field_76_1 O O O) O,G⟩ ?_
  refine Gn (u:=U8 y119.Kilos) O O ⟨Gs (Gf Hx O O O) O,Gs (Gf Hx O O O) O,G⟩ ?_
  refine Gn (u:=G0 v126) O O ⟨Gs (Yb Rs Rx hv126 O O) O,Gs (Yb Rs Rx hv126 O O) O,G⟩ ?_
  refine Gn (u:=G0 v127) O O ⟨Gs (A_mul hv127 O O O) O,Gs (A_mul hv127 O O O) O,G⟩ ?_
  refine Gn (u:=G0 v128) O O ⟨Gs (Ht hv128 O O O) O,Gs (Ht hv128 O O O) O,G⟩ ?_
  refine Gn (u:=.dptr ((Hh.cs y119).drop 2)) O O ⟨Gs (Gc tf_field_76_2 O O O) O,Gs (Gc tf_field_76_2 O O O) O,G⟩ ?_
  refine Gn (u:=U8 y119.Load) O O ⟨Gs (Gf Hx O O O) O,Gs (Gf Hx O O O) O,G⟩ ?_
  refine Gn (u:=G0 v129) O O ⟨Gs (Yb Rs Rx hv129 O O) O,Gs (Yb Rs Rx hv129 O O) O,G⟩ ?_
  refine Gn (u:=G0 calls) O O ⟨Gs (G7 O O) O,Gs (G7 O O) O,G⟩ ?_
  refine Gn (u:=G0 v130) O O ⟨Gs (Rz hv130 O O O) O,Gs (Rz hv130 O O O) O,G⟩ ?_
  refine Gn (u:=G0 v131) O O ⟨Gs (A_rem (rem64_out hv131).1 (rem64_out hv131).2 O O O) O,Gs (A_rem (rem64_out hv131).1 (rem64_out hv131).2 O O O) O,G⟩ ?_
  refine Gn (u:=.agg [G0 v125,ST ByteArray.empty,U8 40,BL y119.High,G0 v128,G0 v131,G0 0,U8 0,BL false]) O O ⟨Gs (J4 (cs:=[G0 v125,ST ByteArray.empty,U8 40,BL y119.High,G0 v128,G0 v131,G0 0,U8 0,BL false]) [(0,1),(1,1),(2,1),(3,1),(4,1),(5,1),(6,1),(7,1),(8,1)] [G0 0,ST ByteArray.empty,U8 0,BL false,G0 0,G0 0,G0 0,U8 0,BL false] [.int .i64 0,.string ByteArray.empty,.int .u8 0,.bool false,.int .i64 0,.int .i64 0,.int .i64 0,.int .u8 0,.bool false] Yv tf_zero_61 ⟨.inl O,.inl O,.inl O,.inl O,.inl O,.inl O,.inl O,.inl O,.inl O,G⟩ O O) O,Gs (J4 (cs:=[G0 v125,ST ByteArray.empty,U8 40,BL y119.High,G0 v128,G0 v131,G0 0,U8 0,BL false]) [(0,1),(1,1),(2,1),(3,1),(4,1),(5,1),(6,1),(7,1),(8,1)] [G0 0,ST ByteArray.empty,U8 0,BL false,G0 0,G0 0,G0 0,U8 0,BL false] [.int .i64 0,.string ByteArray.empty,.int .u8 0,.bool false,.int .i64 0,.int .i64 0,.int .i64 0,.int .u8 0,.bool false] Yv tf_zero_61 ⟨.inl O,.inl O,.inl O,.inl O,.inl O,.inl O,.inl O,.inl O,.inl O,G⟩ O O) O,G⟩ ?_
  refine D_w (u:=.ptr 1019 0) O O O O (Gs (Hi 1019 9 R6 O O) O) ?_
  refine D_w0 (u:=.junk) O O O O (Gs (H2 (u:=.agg [G0 v125,ST ByteArray.empty,U8 40,BL y119.High,G0 v128,G0 v131,G0 0,U8 0,BL false]) (ds:=[G0 v125,ST ByteArray.empty,U8 40,BL y119.High,G0 v128,G0 v131,G0 0,U8 0,BL false]) Rr O O O O O O O O) O) ?_
  refine Ry ?_
  refine hK124 _ _ ?_
  refine G6 (fun K132 hK132=>?_)
  refine R0 (l':=[(2,G0 calls),(4,Ee s),(9,.ptr 1016 0),(10,OW 1017 9 Gp.av s119.1),(11,.mp 1023),(13,.dptr (Hh.cs y119)),(14,.ptr 1019 0),(26,Ec (l.take m6)),(27,G0 ((l.take m6).length:Int)),(28,Em i119)]) (L':=[(1017,.spare 61 9 s119.1.length s119.1.length),(1023,MP 55 (fun n:Int=>Value.int .i64 n) G0 s119.2),(1016,.box 41 [LS 1 (E0) ([]:List (List G2)),LS 1 (E1) ([]:List (List Int))]),(1019,.box 61 [G0 v125,ST ByteArray.empty,U8 40,BL y119.High,G0 v128,G0 v131,G0 0,U8 0,BL false])]) ⟨(by repeat' constructor),⟨⟨_,rfl,.same⟩,⟨_,rfl,.map⟩,⟨_,rfl,.boxL rfl ⟨.same rfl,.same rfl,G⟩⟩,⟨_,rfl,.boxL rfl (by repeat' constructor)⟩,G⟩,rfl⟩ ?_
  obtain⟨v133,hv133,h⟩:=Hm h
  obtain⟨v134,hv134,h⟩:=Hm h
  obtain⟨v135,hv135,h⟩:=Hm h
  obtain⟨v136,hv136,h⟩:=Hm h
  obtain⟨v137,hv137,h⟩:=Ge h
  obtain⟨v138,hv138,h⟩:=Hm h
  refine Qp [14] [0,0,0,0,0,0,0,0,0,0,0,0,0,0,0] [0,0,0,0,0,0,0,0,0,0,0,0,0,0,0] [[(1017,.spare 61 9 s119.1.length s119.1.length),(1023,MP 55 (fun n:Int=>Value.int .i64 n) G0 s119.2),(1016,.box 41 [LS 1 (E0) ([]:List (List G2)),LS 1 (E1) ([]:List (List Int))]),(1019,.box 61 [G0 v125,ST ByteArray.empty,U8 40,BL y119.High,G0 v128,G0 v131,G0 0,U8 0,BL false])],((1019,.box 61 [G0 v125,ST ByteArray.empty,U8 40,BL y119.High,G0 v128,G0 v131,G0 v138,U8 0,BL false])::[(1017,.spare 61 9 s119.1.length s119.1.length),(1023,MP 55 (fun n:Int=>Value.int .i64 n) G0 s119.2),(1016,.box 41 [LS 1 (E0) ([]:List (List G2)),LS 1 (E1) ([]:List (List Int))]),(1019,.box 61 [G0 v125,ST ByteArray.empty,U8 40,BL y119.High,G0 v128,G0 v131,G0 0,U8 0,BL false])])] Q5 (by kernel_rfl) rfl rfl ?_
  refine Gn (u:=.ptr 1019 5) O O ⟨Gs (Jg Y3 O O) O,G⟩ ?_
  refine Gn (u:=G0 v131) O O ⟨Gs (Jx Gb O O O O) O,G⟩ ?_
  refine Gn (u:=G0 v133) O O ⟨Gs (Ht hv133 O O O) O,G⟩ ?_
  refine Gn (u:=.dptr ((Hh.cs y119).drop 3)) O O ⟨Gs (Gc tf_field_76_3 O O O) O,G⟩ ?_
  refine Gn (u:=U8 y119.Stay) O O ⟨Gs (Gf Hx O O O) O,G⟩ ?_
  refine Gn (u:=G0 v134) O O ⟨Gs (Yb Rs Rx hv134 O O) O,G⟩ ?_
  refine Gn (u:=G0 calls) O O ⟨Gs (G7 O O) O,G⟩ ?_
  refine Gn (u:=G0 v135) O O ⟨Gs (Rz hv135 O O O) O,G⟩ ?_
  refine Gn (u:=.ptr 1019 5) O O ⟨Gs (Jg Y3 O O) O,G⟩ ?_
  refine Gn (u:=G0 v131) O O ⟨Gs (Jx Gb O O O O) O,G⟩ ?_
  refine Gn (u:=G0 v136) O O ⟨Gs (Rz hv136 O O O) O,G⟩ ?_
  refine Gn (u:=G0 v137) O O ⟨Gs (A_rem (rem64_out hv137).1 (rem64_out hv137).2 O O O) O,G⟩ ?_
  refine Gn (u:=G0 v138) O O ⟨Gs (Ht hv138 O O O) O,G⟩ ?_
  refine Gn (u:=.ptr 1019 6) O O ⟨Gs (Jg Y9 O O) O,G⟩ ?_
  refine D_w0 (u:=.junk) O O O O (Gs (H2 (u:=G0 v138) (ds:=[G0 v125,ST ByteArray.empty,U8 40,BL y119.High,G0 v128,G0 v131,G0 v138,U8 0,BL false]) R9 O O O O O O O O) O) ?_
  refine Ry ?_
  refine hK132 _ _ ?_
  obtain⟨kj139,hkj139,h⟩:=Qd h
  refine Jq (fun j139:Int×Bool=>kj139 j139=some r) (fun j139=>[(2,G0 calls),(4,Ee s),(9,.ptr 1016 0),(10,OW 1017 9 Gp.av s119.1),(11,.mp 1023),(13,.dptr (Hh.cs y119)),(14,.ptr 1019 0),(26,Ec (l.take m6)),(27,G0 ((l.take m6).length:Int)),(28,Em i119)]) (fun j139=>[(1017,.spare 61 9 s119.1.length s119.1.length),(1023,MP 55 (fun n:Int=>Value.int .i64 n) G0 s119.2),(1016,.box 41 [LS 1 (E0) ([]:List (List G2)),LS 1 (E1) ([]:List (List Int))]),(1019,.box 61 [G0 v125,ST ByteArray.empty,U8 j139.1,BL j139.2,G0 v128,G0 v131,G0 v138,U8 0,BL false])]) (fun Kj139 ej139=>?_) ?_
  ·
   refine G6 fun K140 hK140=>G3 ?_
   refine JLg (.dptr [BL y119.Small,BL y119.High]) (Gc tf_field_76_4 O O O) ?_
   refine JLg (BL y119.Small) (Gf Qj O O O) ?_
   refine G8 (hK140 _ _ ?_)
   refine Gh O (fun hb=>?_) (fun hb=>?_)
   ·
    replace h:=Gv hb h
    refine G3 ?_
    refine JLg (.ptr 1019 2) (Jg Yg O O) ?_
    refine Hj (u:=.junk) (H2 (u:=U8 20) (ds:=[G0 v125,ST ByteArray.empty,U8 20,BL y119.High,G0 v128,G0 v131,G0 v138,U8 0,BL false]) tf_size_5 O O O O O O O O) ?_
    refine JLg (.ptr 1019 3) (Jg tf_field_61_3 O O) ?_
    refine Hj (u:=.junk) (H2 (u:=BL false) (ds:=[G0 v125,ST ByteArray.empty,U8 20,BL false,G0 v128,G0 v131,G0 v138,U8 0,BL false]) tf_size_4 O O O O O O O O) ?_
    refine G8 ?_
    exact ej139 _ _ (20,false) h ⟨(by repeat' constructor),⟨⟨_,rfl,.same⟩,⟨_,rfl,.map⟩,⟨_,rfl,.boxL rfl ⟨.same rfl,.same rfl,G⟩⟩,⟨_,rfl,.boxL rfl (by repeat' constructor)⟩,G⟩,rfl⟩
   ·
    replace h:=Hp hb h
    refine Gj ?_
    exact ej139 _ _ (40,y119.High) h ⟨(by repeat' constructor),⟨⟨_,rfl,.same⟩,⟨_,rfl,.map⟩,⟨_,rfl,.boxL rfl ⟨.same rfl,.same rfl,G⟩⟩,⟨_,rfl,.boxL rfl (by repeat' constructor)⟩,G⟩,rfl⟩
  ·intro j139 h
   replace h:=app1 hkj139 h
   refine G6 (fun K141 hK141=>?_)
   refine R0 (l':=[(2,G0 calls),(4,Ee s),(9,.ptr 1016 0),(10,OW 1017 9 Gp.av s119.1),(11,.mp 1023),(13,.dptr (Hh.cs y119)),(14,.ptr 1019 0),(26,Ec (l.take m6)),(27,G0 ((l.take m6).length:Int)),(28,Em i119)]) (L':=[(1017,.spare 61 9 s119.1.length s119.1.length),(1023,MP 55 (fun n:Int=>Value.int .i64 n) G0 s119.2),(1016,.box 41 [LS 1 (E0) ([]:List (List G2)),LS 1 (E1) ([]:List (List Int))]),(1019,.box 61 [G0 v125,ST ByteArray.empty,U8 j139.1,BL j139.2,G0 v128,G0 v131,G0 v138,U8 0,BL false])]) ⟨(by repeat' constructor),⟨⟨_,rfl,.same⟩,⟨_,rfl,.map⟩,⟨_,rfl,.boxL rfl ⟨.same rfl,.same rfl,G⟩⟩,⟨_,rfl,.boxL rfl (by repeat' constructor)⟩,G⟩,rfl⟩ ?_
   obtain⟨v142,hv142,h⟩:=Hm h
   obtain⟨v143,hv143,h⟩:=Ge h
   refine Qp [10] [0,0,0,0,0,0,0,0,0,0,0] [0,0,0,0,0,0,0,0,0,0,0] [[(1017,.spare 61 9 s119.1.length s119.1.length),(1023,MP 55 (fun n:Int=>Value.int .i64 n) G0 s119.2),(1016,.box 41 [LS 1 (E0) ([]:List (List G2)),LS 1 (E1) ([]:List (List Int))]),(1019,.box 61 [G0 v125,ST ByteArray.empty,U8 j139.1,BL j139.2,G0 v128,G0 v131,G0 v138,U8 0,BL false])],((1023,MP 55 (fun n:Int=>Value.int .i64 n) G0 (Gr.put s119.2 v125 v143))::[(1017,.spare 61 9 s119.1.length s119.1.length),(1023,MP 55 (fun n:Int=>Value.int .i64 n) G0 s119.2),(1016,.box 41 [LS 1 (E0) ([]:List (List G2)),LS 1 (E1) ([]:List (List Int))]),(1019,.box 61 [G0 v125,ST ByteArray.empty,U8 j139.1,BL j139.2,G0 v128,G0 v131,G0 v138,U8 0,BL false])])] Q5 (by kernel_rfl) rfl rfl ?_
   refine Gn (u:=.mp 1023) O O ⟨Gs (G7 O O) O,G⟩ ?_
   refine Gn (u:=.ptr 1019 0) O O ⟨Gs (Jg Ji O O) O,G⟩ ?_
   refine Gn (u:=G0 v125) O O ⟨Gs (Jx Gb O O O O) O,G⟩ ?_
   refine Gn (u:=.dptr (Hh.cs y119)) O O ⟨Gs (Gc tf_field_76_0 O O O) O,G⟩ ?_
   refine Gn (u:=U8 y119.G5) O O ⟨Gs (Gf Hx O O O) O,G⟩ ?_
   refine Gn (u:=G0 v142) O O ⟨Gs (Yb Rs Rx hv142 O O) O,G⟩ ?_
   refine Gn (u:=Ee s) O O ⟨Gs (Gc J6 O O O) O,G⟩ ?_
   refine Gn (u:=E4 s.Columns) O O ⟨Gs (Gf Jd O O O) O,G⟩ ?_
   refine Gn (u:=Em s.Columns.length) O O ⟨Gs (Yz (f:=G5.av) (xs:=s.Columns) J7 O O) O,G⟩ ?_
   refine Gn (u:=G0 v143) O O ⟨Gs (A_rem (rem64_out hv143).1 (rem64_out hv143).2 O O O) O,G⟩ ?_
   refine D_w0 (u:=.junk) O O O O (Gs (Y0 (m:=s119.2) (a:=v125) (v:=v143) O O O O O O tk_3 R5) O) ?_
   refine Ry ?_
   refine hK141 _ _ ?_
   refine Gk [(2,G0 calls),(4,Ee s),(9,.ptr 1016 0),(10,OW 1017 9 Gp.av s119.1),(11,.mp 1023),(14,.dptr [G0 v125,ST ByteArray.empty,U8 j139.1,BL j139.2,G0 v128,G0 v131,G0 v138,U8 0,BL false]),(26,Ec (l.take m6)),(27,G0 ((l.take m6).length:Int)),(28,Em i119)] [(1017,.spare 61 9 s119.1.length s119.1.length),(1023,MP 55 (fun n:Int=>Value.int .i64 n) G0 (Gr.put s119.2 v125 v143)),(1016,.box 41 [LS 1 (E0) ([]:List (List G2)),LS 1 (E1) ([]:List (List Int))])] 1019 rfl rfl rfl ⟨⟨_,rfl,.same⟩,⟨_,rfl,.map⟩,⟨_,rfl,.boxEq rfl rfl⟩,G⟩ rfl (by repeat' (first | exact .ptr | constructor)) ?_
   refine G3 ?_
   refine JLg (OW 1017 9 Gp.av s119.1) (G7 O O) ?_
   refine JLg (.agg [G0 v125,ST ByteArray.empty,U8 j139.1,BL j139.2,G0 v128,G0 v131,G0 v138,U8 0,BL false]) (Gi Rq O O O) ?_
   refine JLg (E2 [(Gp.mk v125 ByteArray.empty j139.1 j139.2 v128 v131 v138 0 false)]) (Hd (xs:=[.agg [G0 v125,ST ByteArray.empty,U8 j139.1,BL j139.2,G0 v128,G0 v131,G0 v138,U8 0,BL false]]) O ⟨O,O,G⟩ Jm R6 O O O O) ?_
   obtain⟨ha144,h⟩:=Je h
   refine JLg (OW 1017 9 Gp.av (s119.1++[(Gp.mk v125 ByteArray.empty j139.1 j139.2 v128 v131 v138 0 false)])) (Qu (f:=Gp.av) (xs:=s119.1) (ys:=[(Gp.mk v125 ByteArray.empty j139.1 j139.2 v128 v131 v138 0 false)]) O O O O Jm tf_elem_61 ha144 (fun _=>O) (.inl O) O) ?_
   refine JLg (OW 1017 9 Gp.av (s119.1++[(Gp.mk v125 ByteArray.empty j139.1 j139.2 v128 v131 v138 0 false)])) (G9 O O) ?_
   refine G8 (hK122 _ _ ?_)
   refine G3 ?_
   refine JLg (G0 ((i119+1:Nat):Int)) (Ht (Hc hk119 hm27) O O O) ?_
   refine JLg (G0 ((i119+1:Nat):Int)) (G7 O O) ?_
   refine G8 ?_
   exact e119 _ _ (i119+1) ((s119.1++[(Gp.mk v125 ByteArray.empty j139.1 j139.2 v128 v131 v138 0 false)]),(Gr.put s119.2 v125 v143)) (app1 hn119 h) (by omega) ⟨(by repeat' constructor),⟨⟨_,rfl,.same⟩,⟨_,rfl,.map⟩,⟨_,rfl,.boxL rfl ⟨.same rfl,.same rfl,G⟩⟩,G⟩,rfl⟩
 ·
  have h:=app1 hkx119 (Ho hi119 (H3 hb))
  refine Hk ?_
  refine hK4 _ _ ?_
  refine G6 (fun K145 hK145=>?_)
  refine G6 fun K146 hK146=>G3 ?_
  refine JLg (OW 1017 9 Gp.av s119.1) (G7 O O) ?_
  refine Hs (f:=Gp.av) (xs:=s119.1) Jm O O (fun hm84=>?_) O O O
  obtain⟨v147,hv147,h⟩:=Hm h
  refine JLg (G0 v147) (Ht hv147 O O O) ?_
  refine JLg (G0 0) (G7 O O) ?_
  refine G8 (hK146 _ _ ?_)
  refine Gg ?_
  obtain⟨hx148,h⟩:=Je h
  obtain⟨b148,kx148,hb148,hkx148,h⟩:=upto_in h
  refine H7 (fun i148 (s148:(List Gp)×(Gr Int Int))=>upto b148 kx148 (v147.toNat - i148) i148 s148=some r) (fun i148 s148=>[(2,G0 calls),(4,Ee s),(9,.ptr 1016 0),(10,E2 s148.1),(11,.mp 1023),(85,G0 v147),(86,Em i148)]) (fun i148 s148=>[(1023,MP 55 (fun n:Int=>Value.int .i64 n) G0 s148.2),(1016,.box 41 [LS 1 (E0) ([]:List (List G2)),LS 1 (E1) ([]:List (List Int))])]) (fun i148=>v147.toNat - i148) 0 (s119.1,s119.2) h ⟨⟨.same O,.same O,.same O,.list O,.same O,.same O,.same O,G⟩,⟨⟨_,O,.map⟩,⟨_,O,.boxL O ⟨.same O,.same O,G⟩⟩,G⟩,O⟩ ?_
  clear h
  intro i148 s148 hi148 K148 e148
  refine G6 fun K149 hK149=>G3 ?_
  refine JLg (BL (decide ((i148:Int) < v147))) (Hy O O O) ?_
  refine G8 (hK149 _ _ ?_)
  refine G6 (fun K150 hK150=>?_)
  refine Gh O (fun hb=>?_) (fun hb=>?_)
  ·
   have hk148:=lt_toNat hb
   obtain⟨nx148,hn148,h⟩:=upto_out hi148 hk148
   replace h:=app3 hb148 h
   refine Gj ?_
   refine hK150 _ _ ?_
   refine G6 (fun K151 hK151=>?_)
   refine Gg ?_
   refine G6 fun K152 hK152=>G3 ?_
   refine JLg (.agg (Gz.cs s)) (Gi J0 O O O) ?_
   refine JLg (E2 s148.1) (G7 O O) ?_
   refine JLg (.mp 1023) (G7 O O) ?_
   refine JLg (G0 calls) (G7 O O) ?_
   obtain⟨r153,hr153,h⟩:=Ge h
   refine JLg (.tup [.agg [LS 1 (E0) r153.1.States,LS 1 (E1) r153.1.Water],G0 r153.2.1]) (Rm (args:=[.agg (Gz.cs s),E2 s148.1,.mp 1023,G0 calls]) (L0:=[(1023,MP 55 (fun n:Int=>Value.int .i64 n) G0 s148.2)]) (Lr:=[(1023,MP 55 (fun n:Int=>Value.int .i64 n) G0 r153.2.2)]) O (M_twistlocklaw23_voyage_m60000020 F s s148.1 s148.2 calls r153 hr153) tf_call_14 ⟨.inl O,O,.inl O,O,.inl O,O,.inl O,O,G⟩ ⟨O,G⟩ O O O) ?_
   refine JLg (.tup [.agg [LS 1 (E0) r153.1.States,LS 1 (E1) r153.1.Water],G0 r153.2.1]) (G7 O O) ?_
   refine JLg (.agg [LS 1 (E0) r153.1.States,LS 1 (E1) r153.1.Water]) (Hq O O O) ?_
   refine JLg (G0 r153.2.1) (Hq O O O) ?_
   refine JLg (.ptr 1020 0) (Hi 1020 2 tf_zsize_41 O O) ?_
   refine Hj (u:=.junk) (H2 (u:=.agg [LS 1 (E0) r153.1.States,LS 1 (E1) r153.1.Water]) (ds:=[LS 1 (E0) r153.1.States,LS 1 (E1) r153.1.Water]) tf_size_41 O O O O O O O O) ?_
   refine JLg (G0 r153.2.1) (G9 O O) ?_
   refine G8 (hK152 _ _ ?_)
   refine Gk [(2,G0 calls),(4,Ee s),(9,.ptr 1016 0),(10,E2 s148.1),(11,.mp 1023),(15,.dptr [LS 1 (E0) r153.1.States,LS 1 (E1) r153.1.Water]),(16,G0 r153.2.1),(85,G0 v147),(86,Em i148)] [(1023,MP 55 (fun n:Int=>Value.int .i64 n) G0 r153.2.2),(1016,.box 41 [LS 1 (E0) ([]:List (List G2)),LS 1 (E1) ([]:List (List Int))])] 1020 rfl rfl rfl ⟨⟨_,rfl,.map⟩,⟨_,rfl,.boxEq rfl rfl⟩,G⟩ rfl (by repeat' (first | exact .ptr | constructor)) ?_
   refine G6 (fun K154 hK154=>?_)
   refine G6 fun K155 hK155=>G3 ?_
   refine JLg (G0 r153.2.1) (G7 O O) ?_
   refine JLg (BL (decide (r153.2.1=0))) (Qb O O O) ?_
   refine G8 (hK155 _ _ ?_)
   refine Gh O (fun hb=>?_) (fun hb=>?_)
   ·
    replace h:=Gv hb h
    refine G6 (fun K156 hK156=>?_)
    refine R0 (l':=[(9,.ptr 1016 0),(10,E2 s148.1),(15,.dptr [LS 1 (E0) r153.1.States,LS 1 (E1) r153.1.Water])]) (L':=[(1023,MP 55 (fun n:Int=>Value.int .i64 n) G0 r153.2.2),(1016,.box 41 [LS 1 (E0) ([]:List (List G2)),LS 1 (E1) ([]:List (List Int))])]) ⟨⟨.same O,.same O,.same O,G⟩,⟨⟨_,O,.map⟩,⟨_,O,.boxL O ⟨.same O,.same O,G⟩⟩,G⟩,O⟩ ?_
    refine Qp [3] [0,0,0,0] [0,0,0,0] [[(1023,MP 55 (fun n:Int=>Value.int .i64 n) G0 r153.2.2),(1016,.box 41 [LS 1 (E0) ([]:List (List G2)),LS 1 (E1) ([]:List (List Int))])],((1016,.box 41 [LS 1 (E0) r153.1.States,LS 1 (E1) r153.1.Water])::[(1023,MP 55 (fun n:Int=>Value.int .i64 n) G0 r153.2.2),(1016,.box 41 [LS 1 (E0) ([]:List (List G2)),LS 1 (E1) ([]:List (List Int))])])] Q5 (by kernel_rfl) rfl rfl ?_
    refine Gn (u:=E2 s148.1) O O ⟨Gs (G7 O O) O,G⟩ ?_
    refine Gn (u:=.agg [LS 1 (E0) r153.1.States,LS 1 (E1) r153.1.Water]) O O ⟨Gs (Gi Ru O O O) O,G⟩ ?_
    refine Gn (u:=E2 s148.1) O O ⟨Gs (G9 O O) O,G⟩ ?_
    refine D_w0 (u:=.junk) O O O O (Gs (H2 (u:=.agg [LS 1 (E0) r153.1.States,LS 1 (E1) r153.1.Water]) (ds:=[LS 1 (E0) r153.1.States,LS 1 (E1) r153.1.Water]) tf_size_41 O O O O O O O O) O) ?_
    refine Ry ?_
    refine hK156 _ _ ?_
    refine Gu ?_
    exact⟨[E2 s148.1,.agg [LS 1 (E0) r153.1.States,LS 1 (E1) r153.1.Water]],[],G,O,⟨⟨_,O,.conv (.same O)⟩,⟨_,⟨_,_,_,_,O,O,O,.inl ⟨Ru,O⟩⟩,.conv (.same O)⟩,G⟩,O,congrArg (fun r:(List Gp)×Plan=>(.tup [E2 r.1,.agg [LS 1 (E0) r.2.States,LS 1 (E1) r.2.Water]]:AV)) (Option.some.inj h)⟩
   ·
    replace h:=Hp hb h
    refine Gj ?_
    refine hK154 _ _ ?_
    refine G6 fun K157 hK157=>G3 ?_
    refine JLg (OW 1021 9 Gp.av ([]:List Gp)) (Yx 1021 61 9 O O O) ?_
    refine G8 (hK157 _ _ ?_)
    refine G6 (fun K158 hK158=>?_)
    refine G6 fun K159 hK159=>G3 ?_
    refine JLg (E2 s148.1) (G7 O O) ?_
    refine Hs (f:=Gp.av) (xs:=s148.1) Jm O O (fun hm101=>?_) O O O
    refine JLg (G0 0) (G7 O O) ?_
    refine G8 (hK159 _ _ ?_)
    refine Gg ?_
    obtain⟨b174,kx174,hb174,hkx174,h⟩:=Hu h
    refine H7 (fun i174 (s174:(List Gp))=>each b174 kx174 (List.drop i174 s148.1) i174 s174=some r) (fun i174 s174=>[(2,G0 calls),(4,Ee s),(9,.ptr 1016 0),(11,.mp 1023),(16,G0 r153.2.1),(17,OW 1021 9 Gp.av s174),(85,G0 v147),(86,Em i148),(100,E2 s148.1),(101,Em s148.1.length),(102,Em i174)]) (fun i174 s174=>[(1023,MP 55 (fun n:Int=>Value.int .i64 n) G0 r153.2.2),(1021,.spare 61 9 s174.length s174.length),(1016,.box 41 [LS 1 (E0) ([]:List (List G2)),LS 1 (E1) ([]:List (List Int))])]) (fun i174=>s148.1.length - i174) 0 [] h ⟨(by repeat' constructor),⟨⟨_,rfl,.map⟩,⟨_,rfl,.same⟩,⟨_,rfl,.boxL rfl ⟨.same rfl,.same rfl,G⟩⟩,G⟩,rfl⟩ ?_
    clear h
    intro i174 s174 hi174 K174 e174
    refine G6 fun K175 hK175=>G3 ?_
    refine JLg (BL (decide ((i174:Int) < (s148.1.length:Int)))) (Hy O O O) ?_
    refine G8 (hK175 _ _ ?_)
    refine G6 (fun K176 hK176=>?_)
    refine Gh O (fun hb=>?_) (fun hb=>?_)
    ·
     have hk174:=J9 hb
     obtain⟨y174,nx174,hy174,hn174,h⟩:=Hn hi174 hk174
     replace h:=app4 hb174 h
     refine Gj ?_
     refine hK176 _ _ ?_
     obtain⟨kj177,hkj177,h⟩:=Qd h
     refine Jq (fun j177:(List Gp)=>kj177 j177=some r) (fun j177=>[(2,G0 calls),(4,Ee s),(9,.ptr 1016 0),(11,.mp 1023),(16,G0 r153.2.1),(17,OW 1021 9 Gp.av j177),(85,G0 v147),(86,Em i148),(100,E2 s148.1),(101,Em s148.1.length),(102,Em i174)]) (fun j177=>[(1023,MP 55 (fun n:Int=>Value.int .i64 n) G0 r153.2.2),(1021,.spare 61 9 j177.length j177.length),(1016,.box 41 [LS 1 (E0) ([]:List (List G2)),LS 1 (E1) ([]:List (List Int))])]) (fun Kj177 ej177=>?_) ?_
     ·
      refine Gg ?_
      refine G6 fun K178 hK178=>G3 ?_
      refine JLg (Eh y174) (H0 (f:=Gp.av) (xs:=s148.1) (y:=y174) O O O Jm hy174 O) ?_
      refine JLg (.agg (Gp.cs y174)) (Gi Rq O O O) ?_
      refine JLg (.ptr 1022 0) (Hi 1022 9 R6 O O) ?_
      refine Hj (u:=.junk) (H2 (u:=.agg (Gp.cs y174)) (ds:=(Gp.cs y174)) Rr O O O O O O O O) ?_
      refine G8 (hK178 _ _ ?_)
      refine Gk [(2,G0 calls),(4,Ee s),(9,.ptr 1016 0),(11,.mp 1023),(16,G0 r153.2.1),(17,OW 1021 9 Gp.av s174),(19,Eh y174),(85,G0 v147),(86,Em i148),(100,E2 s148.1),(101,Em s148.1.length),(102,Em i174)] [(1023,MP 55 (fun n:Int=>Value.int .i64 n) G0 r153.2.2),(1021,.spare 61 9 s174.length s174.length),(1016,.box 41 [LS 1 (E0) ([]:List (List G2)),LS 1 (E1) ([]:List (List Int))])] 1022 rfl rfl rfl ⟨⟨_,rfl,.map⟩,⟨_,rfl,.same⟩,⟨_,rfl,.boxEq rfl rfl⟩,G⟩ rfl (by repeat' (first | exact .ptr | constructor)) ?_
      refine G6 fun K179 hK179=>G3 ?_
      refine JLg (Eh y174) (Gc Ji O O O) ?_
      refine JLg (G0 y174.ID) (Gf Gb O O O) ?_
      refine JLg (G0 r153.2.1) (G7 O O) ?_
      refine JLg (BL (decide (y174.ID≠r153.2.1))) (Yy O O O) ?_
      refine G8 (hK179 _ _ ?_)
      refine Gh O (fun hb=>?_) (fun hb=>?_)
      ·
       replace h:=Gv hb h
       refine G3 ?_
       refine JLg (OW 1021 9 Gp.av s174) (G7 O O) ?_
       refine JLg (.agg (Gp.cs y174)) (Gi Rq O O O) ?_
       refine JLg (E2 [y174]) (Hd (xs:=[.agg (Gp.cs y174)]) O ⟨O,O,G⟩ Jm R6 O O O O) ?_
       obtain⟨ha180,h⟩:=Je h
       refine JLg (OW 1021 9 Gp.av (s174++[y174])) (Qu (f:=Gp.av) (xs:=s174) (ys:=[y174]) O O O O Jm tf_elem_61 ha180 (fun _=>O) (.inl O) O) ?_
       refine JLg (OW 1021 9 Gp.av (s174++[y174])) (G9 O O) ?_
       refine G8 ?_
       exact ej177 _ _ (s174++[y174]) h ⟨(by repeat' constructor),⟨⟨_,rfl,.map⟩,⟨_,rfl,.same⟩,⟨_,rfl,.boxL rfl ⟨.same rfl,.same rfl,G⟩⟩,G⟩,rfl⟩
      ·
       replace h:=Hp hb h
       refine Gj ?_
       exact ej177 _ _ s174 h ⟨(by repeat' constructor),⟨⟨_,rfl,.map⟩,⟨_,rfl,.same⟩,⟨_,rfl,.boxL rfl ⟨.same rfl,.same rfl,G⟩⟩,G⟩,rfl⟩
     ·intro j177 h
      replace h:=app1 hkj177 h
      refine G3 ?_
      refine JLg (G0 ((i174+1:Nat):Int)) (Ht (Hc hk174 hm101) O O O) ?_
      refine JLg (G0 ((i174+1:Nat):Int)) (G7 O O) ?_
      refine G8 ?_
      exact e174 _ _ (i174+1) j177 (app1 hn174 h) (by omega) ⟨(by repeat' constructor),⟨⟨_,rfl,.map⟩,⟨_,rfl,.same⟩,⟨_,rfl,.boxL rfl ⟨.same rfl,.same rfl,G⟩⟩,G⟩,rfl⟩
    ·
     have h:=app1 hkx174 (Ho hi174 (H3 hb))
     refine Hk ?_
     refine hK158 _ _ ?_
     refine G3 ?_
     refine JLg (OW 1021 9 Gp.av s174) (G7 O O) ?_
     refine JLg (OW 1021 9 Gp.av s174) (G9 O O) ?_
     refine G8 (hK151 _ _ ?_)
     refine G3 ?_
     refine JLg (G0 ((i148+1:Nat):Int)) (Ht (Hc hk148 (toNat_max hx148)) O O O) ?_
     refine JLg (G0 ((i148+1:Nat):Int)) (G7 O O) ?_
     refine G8 ?_
     exact e148 _ _ (i148+1) (s174,r153.2.2) (app1 hn148 h) (by omega) ⟨⟨.same rfl,.same rfl,.same rfl,.list rfl,.same rfl,.same rfl,.same rfl,G⟩,⟨⟨_,rfl,.map⟩,⟨_,rfl,.boxL rfl ⟨.same rfl,.same rfl,G⟩⟩,G⟩,rfl⟩
  ·
   have h:=app1 hkx148 (upto_nil hi148 (not_lt_toNat hb))
   refine Hk ?_
   refine hK145 _ _ ?_
   refine G6 (fun K181 hK181=>?_)
   refine R0 (l':=[(2,G0 calls),(9,.ptr 1016 0)]) (L':=[(1023,MP 55 (fun n:Int=>Value.int .i64 n) G0 s148.2),(1016,.box 41 [LS 1 (E0) ([]:List (List G2)),LS 1 (E1) ([]:List (List Int))])]) ⟨⟨.same O,.same O,G⟩,⟨⟨_,O,.map⟩,⟨_,O,.boxL O ⟨.same O,.same O,G⟩⟩,G⟩,O⟩ ?_
   obtain⟨m182,hm182,h⟩:=Ge h
   obtain⟨ha183,h⟩:=Je h
   refine Qp [4] [0,0,0,0,0] [0,0,0,0,0] [[(1023,MP 55 (fun n:Int=>Value.int .i64 n) G0 s148.2),(1016,.box 41 [LS 1 (E0) ([]:List (List G2)),LS 1 (E1) ([]:List (List Int))])],((1016,.box 41 [LS 1 (E0) (List.replicate m182 ([]:List G2)),LS 1 (E1) ([]:List (List Int))])::[(1023,MP 55 (fun n:Int=>Value.int .i64 n) G0 s148.2),(1016,.box 41 [LS 1 (E0) ([]:List (List G2)),LS 1 (E1) ([]:List (List Int))])])] Q5 (by kernel_rfl) rfl rfl ?_
   refine Gn (u:=G0 calls) O O ⟨Gs (G7 O O) O,G⟩ ?_
   refine Gn (u:=LS 1 (E0) (List.replicate m182 ([]:List G2))) O O ⟨Gs (A_makeDM (f:=(E0)) (n:=m182) [] [.slice none 0 0] O O O Ja tf_elem_50 tf_zero_50 (natOf_out hm182) (natOf_out hm182) ha183 ⟨.inr ⟨_,O,O⟩,G⟩ O) O,G⟩ ?_
   refine Gn (u:=.agg [LS 1 (E0) (List.replicate m182 ([]:List G2)),LS 1 (E1) ([]:List (List Int))]) O O ⟨Gs (J4 (cs:=[LS 1 (E0) (List.replicate m182 ([]:List G2)),LS 1 (E1) ([]:List (List Int))]) [(0,1),(1,1)] [LS 1 (E0) ([]:List (List G2)),LS 1 (E1) ([]:List (List Int))] [.slice none 0 0,.slice none 0 0] tf_places_41 tf_zero_41 ⟨.inr ⟨_,O,O⟩,.inr ⟨_,O,O⟩,G⟩ O O) O,G⟩ ?_
   refine Gn (u:=E2 ([]:List Gp)) O O ⟨Gs (Jj 9 O O) O,G⟩ ?_
   refine D_w0 (u:=.junk) O O O O (Gs (H2 (u:=.agg [LS 1 (E0) (List.replicate m182 ([]:List G2)),LS 1 (E1) ([]:List (List Int))]) (ds:=[LS 1 (E0) (List.replicate m182 ([]:List G2)),LS 1 (E1) ([]:List (List Int))]) tf_size_41 O O O O O O O O) O) ?_
   refine Ry ?_
   refine hK181 _ _ ?_
   refine Gu ?_
   exact⟨[E2 ([]:List Gp),.agg [LS 1 (E0) (List.replicate m182 ([]:List G2)),LS 1 (E1) ([]:List (List Int))]],[],G,O,⟨⟨_,O,.conv (.same O)⟩,⟨_,⟨_,_,_,_,O,O,O,.inl ⟨Ru,O⟩⟩,.conv (.same O)⟩,G⟩,O,congrArg (fun r:(List Gp)×Plan=>(.tup [E2 r.1,.agg [LS 1 (E0) r.2.States,LS 1 (E1) r.2.Water]]:AV)) (Option.some.inj h)⟩

def M_ship_Find_1 (c:G5) (p1:Int) (p2:Int) (p3:Bool):Option Bool:=
 some (((decide (c.Bay=p1))&&(decide (c.Row=p2)))&&(c.Deck==p3))
theorem M_ship_Find_1_w (c:G5) (p1:Int) (p2:Int) (p3:Bool) (r:Bool) (h:M_ship_Find_1 c p1 p2 p3=some r):Pure Tryz.prog 25 [.agg (G5.cs c),.dptr [G0 p1],.dptr [G0 p2],.dptr [BL p3]] (·=BL r):=by
 unfold M_ship_Find_1 at h
 refine H9 [.tmp 5] Tryz.func25 O O ?_
 refine G6 fun K1 hK1=>G3 ?_
 refine JLg (.ptr 1090 0) (Q1 (u:=.agg (G5.cs c)) (cs:=(G5.cs c)) 1090 O O O O O) ?_
 refine JLg (BL false) (G9 O O) ?_
 refine G8 (hK1 _ _ ?_)
 refine Gk [(1,.dptr [G0 p1]),(2,.dptr [G0 p2]),(3,.dptr [BL p3]),(4,Ei c)] [] 1090 rfl rfl rfl G rfl (by repeat' (first | exact .ptr | constructor)) ?_
 refine G6 fun K2 hK2=>G3 ?_
 refine JLg (Ei c) (Gc R1 O O O) ?_
 refine JLg (G0 c.Bay) (Gf Gb O O O) ?_
 refine JLg (G0 p1) (Gf Gb O O O) ?_
 refine JLg (BL (decide (c.Bay=p1))) (Qb O O O) ?_
 refine JLg (BL (decide (c.Bay=p1))) (G7 O O) ?_
 refine Gd (u:=.dptr [G0 c.Row,BL c.Deck,G0 c.Tiers,G0 c.Height,G0 c.Kilos20,G0 c.Kilos40,G0 c.Lash,E1 c.Plugs,G0 c.X,G0 c.Y,G0 c.Z]) [] O O O .sct G (fun hc=>Gc Y2 O O O) ?_
 refine Gd (u:=G0 c.Row) [(11,.dptr [G0 c.Row,BL c.Deck,G0 c.Tiers,G0 c.Height,G0 c.Kilos20,G0 c.Kilos40,G0 c.Lash,E1 c.Plugs,G0 c.X,G0 c.Y,G0 c.Z])] O O O .sct ⟨.all id,G⟩ (fun hc=>Gf Gb O O O) ?_
 refine Gd (u:=G0 p2) [] O O O .sct G (fun hc=>Gf Gb O O O) ?_
 refine Gd (u:=BL (decide (c.Row=p2))) [(12,G0 c.Row),(13,G0 p2)] O O O .sct ⟨.all id,.all id,G⟩ (fun hc=>Qb O O O) ?_
 refine JLg (BL ((decide (c.Bay=p1))&&(decide (c.Row=p2)))) (Qr O O O O) ?_
 refine JLg (BL ((decide (c.Bay=p1))&&(decide (c.Row=p2)))) (G7 O O) ?_
 refine Gd (u:=.dptr [BL c.Deck,G0 c.Tiers,G0 c.Height,G0 c.Kilos20,G0 c.Kilos40,G0 c.Lash,E1 c.Plugs,G0 c.X,G0 c.Y,G0 c.Z]) [] O O O .sct G (fun hc=>Gc Rb O O O) ?_
 refine Gd (u:=BL c.Deck) [(17,.dptr [BL c.Deck,G0 c.Tiers,G0 c.Height,G0 c.Kilos20,G0 c.Kilos40,G0 c.Lash,E1 c.Plugs,G0 c.X,G0 c.Y,G0 c.Z])] O O O .sct ⟨.all id,G⟩ (fun hc=>Gf Qj O O O) ?_
 refine Gd (u:=BL p3) [] O O O .sct G (fun hc=>Gf Qj O O O) ?_
 refine Gd (u:=BL (c.Deck==p3)) [(18,BL c.Deck),(19,BL p3)] O O O .sct ⟨.all id,.all id,G⟩ (fun hc=>A_eqBool tf_bool_4 O O O) ?_
 refine JLg (BL (((decide (c.Bay=p1))&&(decide (c.Row=p2)))&&(c.Deck==p3))) (Qr O O O O) ?_
 refine JLg (BL (((decide (c.Bay=p1))&&(decide (c.Row=p2)))&&(c.Deck==p3))) (G9 O O) ?_
 refine G8 (hK2 _ _ ?_)
 refine Gu ?_
 exact⟨[BL (((decide (c.Bay=p1))&&(decide (c.Row=p2)))&&(c.Deck==p3))],[],G,O,⟨⟨_,O,.conv (.same O)⟩,G⟩,O,congrArg (fun r:Bool=>(BL r:AV)) (Option.some.inj h)⟩

def M_ship_chosen_apiColumn (l:List G5) (wanted:G5→Option Bool):Option (List Int):=
 each (fun y21 i21 (s21:(List Int)) nx21=>
  jp (fun kj24=>
   bnd (wanted y21) fun r27=>
   bif r27 then
   (need (decide ((s21.length+[(i21:Int)].length)*8≤140737488355328∧s21.length+[(i21:Int)].length≤maxLen)) <|
    kj24 (s21++[(i21:Int)]))
   else
   (kj24 s21)) fun(j24:(List Int))=>
  nx21 j24)
 (fun(s21:(List Int))=>
  some s21) l 0 []
theorem M_ship_chosen_apiColumn_w (l:List G5) (wanted:G5→Option Bool) (wanted_f:FuncId) (wanted_c:List AV) (wanted_B:Hb Tryz.prog wanted_f=true) (wanted_d:Qm (fun _=>false) wanted_c=true) (wanted_w:∀ a0 q,wanted a0=some q→Pure Tryz.prog wanted_f ([.agg (G5.cs a0)]++wanted_c) (·=BL q)) (r:(List Int)) (h:M_ship_chosen_apiColumn l wanted=some r):Pure Tryz.prog 24 [E4 l,.fn wanted_f wanted_c] (·=E1 r):=by
 unfold M_ship_chosen_apiColumn at h
 refine H9 [.tmp 4] Tryz.func24 O O ?_
 refine G6 fun K1 hK1=>G3 ?_
 refine JLg (E1 ([]:List Int)) (Jj 1 O O) ?_
 refine G8 (hK1 _ _ ?_)
 refine G6 fun K2 hK2=>G3 ?_
 refine JLg (OW 1088 1 G0 ([]:List Int)) (Yx 1088 3 1 O O O) ?_
 refine G8 (hK2 _ _ ?_)
 refine G6 (fun K3 hK3=>?_)
 refine G6 fun K4 hK4=>G3 ?_
 refine JLg (E4 l) (G7 O O) ?_
 refine Hs (f:=G5.av) (xs:=l) J7 O O (fun hm9=>?_) O O O
 refine JLg (G0 0) (G7 O O) ?_
 refine G8 (hK4 _ _ ?_)
 refine Gg ?_
 obtain⟨b21,kx21,hb21,hkx21,h⟩:=Hu h
 refine H7 (fun i21 (s21:(List Int))=>each b21 kx21 (List.drop i21 l) i21 s21=some r) (fun i21 s21=>[(1,.fn wanted_f wanted_c),(5,OW 1088 1 G0 s21),(8,E4 l),(9,Em l.length),(10,Em i21)]) (fun i21 s21=>[(1088,.spare 3 1 s21.length s21.length)]) (fun i21=>l.length - i21) 0 [] h ⟨⟨.same (H8 _ _ wanted_d),.same O,.same O,.same O,.same O,G⟩,⟨⟨_,O,.same⟩,G⟩,O⟩ ?_
 clear h
 intro i21 s21 hi21 K21 e21
 refine G6 fun K22 hK22=>G3 ?_
 refine JLg (BL (decide ((i21:Int) < (l.length:Int)))) (Hy O O O) ?_
 refine G8 (hK22 _ _ ?_)
 refine G6 (fun K23 hK23=>?_)
 refine Gh O (fun hb=>?_) (fun hb=>?_)
 ·
  have hk21:=J9 hb
  obtain⟨y21,nx21,hy21,hn21,h⟩:=Hn hi21 hk21
  replace h:=app4 hb21 h
  refine Gj ?_
  refine hK23 _ _ ?_
  obtain⟨kj24,hkj24,h⟩:=Qd h
  refine Jq (fun j24:(List Int)=>kj24 j24=some r) (fun j24=>[(1,.fn wanted_f wanted_c),(5,OW 1088 1 G0 j24),(8,E4 l),(9,Em l.length),(10,Em i21)]) (fun j24=>[(1088,.spare 3 1 j24.length j24.length)]) (fun Kj24 ej24=>?_) ?_
  ·
   refine Gg ?_
   refine G6 fun K25 hK25=>G3 ?_
   refine JLg (Em i21) (G7 O O) ?_
   refine JLg (Ei y21) (H0 (f:=G5.av) (xs:=l) (y:=y21) O O O J7 hy21 O) ?_
   refine JLg (.agg (G5.cs y21)) (Gi Ya O O O) ?_
   refine JLg (.ptr 1089 0) (Hi 1089 12 Rn O O) ?_
   refine JLg (Em i21) (G9 O O) ?_
   refine Hj (u:=.junk) (H2 (u:=.agg (G5.cs y21)) (ds:=(G5.cs y21)) Ym O O O O O O O O) ?_
   refine G8 (hK25 _ _ ?_)
   refine Gk [(1,.fn wanted_f wanted_c),(5,OW 1088 1 G0 s21),(6,Em i21),(7,Ei y21),(8,E4 l),(9,Em l.length),(10,Em i21)] [(1088,.spare 3 1 s21.length s21.length)] 1089 rfl rfl rfl ⟨⟨_,rfl,.same⟩,G⟩ rfl (by exact⟨.conv (.same (H8 _ _ wanted_d)),.conv (.same rfl),.conv (.same rfl),.ptr,.conv (.same rfl),.conv (.same rfl),.conv (.same rfl),G⟩) ?_
   refine G6 fun K26 hK26=>G3 ?_
   refine JLg (.fn wanted_f wanted_c) (G7 O O) ?_
   refine JLg (.agg (G5.cs y21)) (Gi Ya O O O) ?_
   obtain⟨r27,hr27,h⟩:=Ge h
   refine JLg (BL r27) (Rk (args:=[.agg (G5.cs y21)]) (caps:=wanted_c) O O (wanted_w y21 _ hr27) wanted_B ⟨O,O,G⟩ wanted_d) ?_
   refine G8 (hK26 _ _ ?_)
   refine Gh O (fun hb=>?_) (fun hb=>?_)
   ·
    replace h:=Gv hb h
    refine G3 ?_
    refine JLg (OW 1088 1 G0 s21) (G7 O O) ?_
    refine JLg (Em i21) (G7 O O) ?_
    refine JLg (E1 [(i21:Int)]) (Hd (xs:=[Em i21]) O ⟨O,O,G⟩ Gy Rh O O O O) ?_
    obtain⟨ha28,h⟩:=Je h
    refine JLg (OW 1088 1 G0 (s21++[(i21:Int)])) (Qu (f:=G0) (xs:=s21) (ys:=[(i21:Int)]) O O O O Gy tf_elem_3 ha28 (fun _=>O) (.inl O) O) ?_
    refine JLg (OW 1088 1 G0 (s21++[(i21:Int)])) (G9 O O) ?_
    refine G8 ?_
    exact ej24 _ _ (s21++[(i21:Int)]) h ⟨⟨.same (H8 _ _ wanted_d),.same O,.same O,.same O,.same O,G⟩,⟨⟨_,O,.same⟩,G⟩,O⟩
   ·
    replace h:=Hp hb h
    refine Gj ?_
    exact ej24 _ _ s21 h ⟨⟨.same (H8 _ _ wanted_d),.same O,.same O,.same O,.same O,G⟩,⟨⟨_,O,.same⟩,G⟩,O⟩
  ·intro j24 h
   replace h:=app1 hkj24 h
   refine G3 ?_
   refine JLg (G0 ((i21+1:Nat):Int)) (Ht (Hc hk21 hm9) O O O) ?_
   refine JLg (G0 ((i21+1:Nat):Int)) (G7 O O) ?_
   refine G8 ?_
   exact e21 _ _ (i21+1) j24 (app1 hn21 h) (by omega) ⟨⟨.same (H8 _ _ wanted_d),.same rfl,.same rfl,.same rfl,.same rfl,G⟩,⟨⟨_,rfl,.same⟩,G⟩,rfl⟩
 ·
  have h:=app1 hkx21 (Ho hi21 (H3 hb))
  refine Hk ?_
  refine hK3 _ _ ?_
  refine G6 fun K29 hK29=>G3 ?_
  refine JLg (OW 1088 1 G0 s21) (G7 O O) ?_
  refine JLg (OW 1088 1 G0 s21) (G9 O O) ?_
  refine G8 (hK29 _ _ ?_)
  refine Gu ?_
  exact⟨[E1 s21],[],G,O,⟨⟨_,O,.conv (.list O)⟩,G⟩,O,congrArg (fun r:(List Int)=>(E1 r:AV)) (Option.some.inj h)⟩

def M_ship_Find (s:Gz) (bay:Int) (row:Int) (deck:Bool):Option (Int×Bool):=
 bnd (M_ship_chosen_apiColumn s.Columns (fun z0=>M_ship_Find_1 z0 bay row deck)) fun r3=>
 bif decide ((r3.length:Int)=0) then
 (some (0,false))
 else
 (Jy r3 0 fun y8=>
  some (y8,true))
theorem M_ship_Find_w (s:Gz) (bay:Int) (row:Int) (deck:Bool) (r:Int×Bool) (h:M_ship_Find s bay row deck=some r):Pure Tryz.prog 13 [.agg (Gz.cs s),G0 bay,G0 row,BL deck] (·=.tup [G0 r.1,BL r.2]):=by
 unfold M_ship_Find at h
 refine H9 [.tmp 8,.tmp 9] Tryz.func13 O O ?_
 refine G6 fun K1 hK1=>G3 ?_
 refine JLg (.ptr 1039 0) (Q1 (u:=.agg (Gz.cs s)) (cs:=(Gz.cs s)) 1039 O O O O O) ?_
 refine JLg (.ptr 1040 0) (Q1 (u:=G0 bay) (cs:=[G0 bay]) 1040 O O O O O) ?_
 refine JLg (.ptr 1041 0) (Q1 (u:=G0 row) (cs:=[G0 row]) 1041 O O O O O) ?_
 refine JLg (.ptr 1042 0) (Q1 (u:=BL deck) (cs:=[BL deck]) 1042 O O O O O) ?_
 refine JLg (G0 0) (G9 O O) ?_
 refine JLg (BL false) (G9 O O) ?_
 refine G8 (hK1 _ _ ?_)
 refine Gk [(4,Ee s),(5,.ptr 1040 0),(6,.ptr 1041 0),(7,.ptr 1042 0)] [(1040,.box 3 [G0 bay]),(1041,.box 3 [G0 row]),(1042,.box 4 [BL deck])] 1039 rfl rfl rfl ⟨⟨_,rfl,.boxEq rfl rfl⟩,⟨_,rfl,.boxEq rfl rfl⟩,⟨_,rfl,.boxEq rfl rfl⟩,G⟩ rfl (by repeat' (first | exact .ptr | constructor)) ?_
 refine Gk [(4,Ee s),(5,.dptr [G0 bay]),(6,.ptr 1041 0),(7,.ptr 1042 0)] [(1041,.box 3 [G0 row]),(1042,.box 4 [BL deck])] 1040 rfl rfl rfl ⟨⟨_,rfl,.boxEq rfl rfl⟩,⟨_,rfl,.boxEq rfl rfl⟩,G⟩ rfl (by repeat' (first | exact .ptr | constructor)) ?_
 refine Gk [(4,Ee s),(5,.dptr [G0 bay]),(6,.dptr [G0 row]),(7,.ptr 1042 0)] [(1042,.box 4 [BL deck])] 1041 rfl rfl rfl ⟨⟨_,rfl,.boxEq rfl rfl⟩,G⟩ rfl (by repeat' (first | exact .ptr | constructor)) ?_
 refine Gk [(4,Ee s),(5,.dptr [G0 bay]),(6,.dptr [G0 row]),(7,.dptr [BL deck])] [] 1042 rfl rfl rfl G rfl (by repeat' (first | exact .ptr | constructor)) ?_
 refine G6 fun K2 hK2=>G3 ?_
 refine JLg (Ee s) (Gc J6 O O O) ?_
 refine JLg (E4 s.Columns) (Gf Jd O O O) ?_
 refine JLg (.fn 25 [.dptr [G0 bay],.dptr [G0 row],.dptr [BL deck]]) (R4 (cs:=[.dptr [G0 bay],.dptr [G0 row],.dptr [BL deck]]) O O) ?_
 obtain⟨r3,hr3,h⟩:=Ge h
 refine JLg (E1 r3) (H1 (args:=[E4 s.Columns,.fn 25 [.dptr [G0 bay],.dptr [G0 row],.dptr [BL deck]]]) O (M_ship_chosen_apiColumn_w s.Columns (fun z0=>M_ship_Find_1 z0 bay row deck) 25 [.dptr [G0 bay],.dptr [G0 row],.dptr [BL deck]] tf_call_25 O (fun z0 q hq=>M_ship_Find_1_w z0 bay row deck q hq) r3 hr3) tf_call_24 ⟨O,O,O,O,G⟩) ?_
 refine JLg (E1 r3) (G9 O O) ?_
 refine G8 (hK2 _ _ ?_)
 refine G6 (fun K4 hK4=>?_)
 refine G6 fun K5 hK5=>G3 ?_
 refine JLg (E1 r3) (G7 O O) ?_
 refine Hs (f:=G0) (xs:=r3) Gy O O (fun hm16=>?_) O O O
 refine JLg (BL (decide ((r3.length:Int)=0))) (Qb O O O) ?_
 refine G8 (hK5 _ _ ?_)
 refine Gh O (fun hb=>?_) (fun hb=>?_)
 ·
  replace h:=Gv hb h
  refine G6 fun K6 hK6=>G3 ?_
  refine JLg (G0 0) (G9 O O) ?_
  refine JLg (BL false) (G9 O O) ?_
  refine G8 (hK6 _ _ ?_)
  refine Gu ?_
  exact⟨[G0 0,BL false],[],G,O,⟨⟨_,O,.conv (.same O)⟩,⟨_,O,.conv (.same O)⟩,G⟩,O,congrArg (fun r:Int×Bool=>(.tup [G0 r.1,BL r.2]:AV)) (Option.some.inj h)⟩
 ·
  replace h:=Hp hb h
  refine Gj ?_
  refine hK4 _ _ ?_
  refine G6 fun K7 hK7=>G3 ?_
  refine JLg (E1 r3) (G7 O O) ?_
  obtain⟨m9,y8,hm9,hy8,h⟩:=R3 h
  refine JLg (.dptr [G0 y8]) (H0 (f:=G0) (xs:=r3) (y:=y8) O O O Gy hy8 hm9) ?_
  refine JLg (G0 y8) (Gf Gb O O O) ?_
  refine JLg (G0 y8) (G9 O O) ?_
  refine JLg (BL true) (G9 O O) ?_
  refine G8 (hK7 _ _ ?_)
  refine Gu ?_
  exact⟨[G0 y8,BL true],[],G,O,⟨⟨_,O,.conv (.same O)⟩,⟨_,O,.conv (.same O)⟩,G⟩,O,congrArg (fun r:Int×Bool=>(.tup [G0 r.1,BL r.2]:AV)) (Option.some.inj h)⟩

def M_twistlocklaw07_Built (l:List Hr) (covers:Int):Option Gz:=
 bnd (natIn (min (l.length:Int) 12) l.length) fun m5=>
 each (fun y106 i106 (s106:(List G5)×(List Ga)×Int×Int×Int×Int×(List Row)×(List Frame)×(List Gq)×Int×Int×Int×Int) nx106=>
  jp (fun kj109=>
   chk (y106.Bay) fun v112=>
   bnd (rem64 v112 5) fun v113=>
   chk (y106.Row) fun v114=>
   bnd (rem64 v114 5) fun v115=>
   chk (y106.Tiers) fun v116=>
   bnd (rem64 v116 4) fun v117=>
   chk (2+v117) fun v118=>
   chk (13000*v113) fun v120=>
   chk (v120 - 26000) fun v121=>
   chk (2500*v115) fun v122=>
   chk (v122 - 5000) fun v123=>
   jp (fun kj124=>
    bif y106.Deck then
    (kj124 20000)
    else
    (kj124 2000)) fun(j124:Int)=>
   bnd (M_ship_Find (Gz.mk s106.1 s106.2.1 (Light.mk s106.2.2.1 s106.2.2.2.1 s106.2.2.2.2.1 s106.2.2.2.2.2.1) s106.2.2.2.2.2.2.1 s106.2.2.2.2.2.2.2.1 s106.2.2.2.2.2.2.2.2.1 (G4.mk s106.2.2.2.2.2.2.2.2.2.1 s106.2.2.2.2.2.2.2.2.2.2.1 s106.2.2.2.2.2.2.2.2.2.2.2.1 s106.2.2.2.2.2.2.2.2.2.2.2.2)) v113 v115 y106.Deck) fun r127=>
   bif (!r127.2) then
   (need (decide ((s106.1.length+[(G5.mk v113 v115 y106.Deck v118 0 500000000 500000000 0 [] v121 v123 j124)].length)*112≤140737488355328∧s106.1.length+[(G5.mk v113 v115 y106.Deck v118 0 500000000 500000000 0 [] v121 v123 j124)].length≤maxLen)) <|
    kj109 (s106.1++[(G5.mk v113 v115 y106.Deck v118 0 500000000 500000000 0 [] v121 v123 j124)]))
   else
   (kj109 s106.1)) fun(j109:(List G5))=>
  nx106 (j109,s106.2.1,s106.2.2.1,s106.2.2.2.1,s106.2.2.2.2.1,s106.2.2.2.2.2.1,s106.2.2.2.2.2.2.1,s106.2.2.2.2.2.2.2.1,s106.2.2.2.2.2.2.2.2.1,s106.2.2.2.2.2.2.2.2.2.1,s106.2.2.2.2.2.2.2.2.2.2.1,s106.2.2.2.2.2.2.2.2.2.2.2.1,s106.2.2.2.2.2.2.2.2.2.2.2.2))
 (fun(s106:(List G5)×(List Ga)×Int×Int×Int×Int×(List Row)×(List Frame)×(List Gq)×Int×Int×Int×Int)=>
  jp (fun kj130=>
   bif decide ((s106.1.length:Int)=0) then
   (kj130 ([(G5.mk 0 0 false 3 0 500000000 500000000 0 [] 0 0 2000)]))
   else
   (kj130 s106.1)) fun(j130:(List G5))=>
  need (decide (5≤9223372036854775807)) <|
  upto (fun i200 (s200:(List G5)×(List Ga)×Int×Int×Int×Int×(List Row)×(List Frame)×(List Gq)×Int×Int×Int×Int) nx200=>
   jp (fun kj203=>
    jp (fun kj204=>
     chk (2*(i200:Int)) fun v206=>
     bnd (natIn v206 4294967295) fun m207=>
     bif decide ((band .u32 (shrN .u32 covers m207) 1)=1) then
     (need (decide ((s200.2.1.length+[(Ga.mk (i200:Int) [0,1])].length)*32≤140737488355328∧s200.2.1.length+[(Ga.mk (i200:Int) [0,1])].length≤maxLen)) <|
      kj204 (s200.2.1++[(Ga.mk (i200:Int) [0,1])]))
     else
     (kj204 s200.2.1)) fun(j204:(List Ga))=>
    chk (2*(i200:Int)) fun v210=>
    chk (v210+1) fun v211=>
    bnd (natIn v211 4294967295) fun m212=>
    bif decide ((band .u32 (shrN .u32 covers m212) 1)=1) then
    (need (decide ((j204.length+[(Ga.mk (i200:Int) [2,3,4])].length)*32≤140737488355328∧j204.length+[(Ga.mk (i200:Int) [2,3,4])].length≤maxLen)) <|
     kj203 (j204++[(Ga.mk (i200:Int) [2,3,4])]))
    else
    (kj203 j204)) fun(j203:(List Ga))=>
   nx200 (s200.1,j203,s200.2.2.1,s200.2.2.2.1,s200.2.2.2.2.1,s200.2.2.2.2.2.1,s200.2.2.2.2.2.2.1,s200.2.2.2.2.2.2.2.1,s200.2.2.2.2.2.2.2.2.1,s200.2.2.2.2.2.2.2.2.2.1,s200.2.2.2.2.2.2.2.2.2.2.1,s200.2.2.2.2.2.2.2.2.2.2.2.1,s200.2.2.2.2.2.2.2.2.2.2.2.2))
  (fun(s200:(List G5)×(List Ga)×Int×Int×Int×Int×(List Row)×(List Frame)×(List Gq)×Int×Int×Int×Int)=>
   some (Gz.mk s200.1 s200.2.1 (Light.mk s200.2.2.1 s200.2.2.2.1 s200.2.2.2.2.1 s200.2.2.2.2.2.1) s200.2.2.2.2.2.2.1 s200.2.2.2.2.2.2.2.1 s200.2.2.2.2.2.2.2.2.1 (G4.mk s200.2.2.2.2.2.2.2.2.2.1 s200.2.2.2.2.2.2.2.2.2.2.1 s200.2.2.2.2.2.2.2.2.2.2.2.1 s200.2.2.2.2.2.2.2.2.2.2.2.2))) (5:Int).toNat 0 (j130,s106.2.1,s106.2.2.1,s106.2.2.2.1,s106.2.2.2.2.1,s106.2.2.2.2.2.1,s106.2.2.2.2.2.2.1,s106.2.2.2.2.2.2.2.1,s106.2.2.2.2.2.2.2.2.1,s106.2.2.2.2.2.2.2.2.2.1,s106.2.2.2.2.2.2.2.2.2.2.1,s106.2.2.2.2.2.2.2.2.2.2.2.1,s106.2.2.2.2.2.2.2.2.2.2.2.2)) (l.take m5) 0 ([],[],0,0,0,0,[],[],[],0,0,0,0)
theorem M_twistlocklaw07_Built_w (l:List Hr) (covers:Int) (r:Gz) (h:M_twistlocklaw07_Built l covers=some r):Pure Tryz.prog 4 [Ed l,.sc (.int .u32 covers)] (·=.agg (Gz.cs r)):=by
 unfold M_twistlocklaw07_Built at h
 refine H9 [.cell 4 35] Tryz.func4 O O ?_
 refine G6 fun K1 hK1=>G3 ?_
 refine JLg (.ptr 1009 0) (Y1 1009 [E4 ([]:List G5),E6 ([]:List Ga),G0 0,G0 0,G0 0,G0 0,E7 ([]:List Row),E8 ([]:List Frame),E9 ([]:List Gq),G0 0,G0 0,G0 0,G0 0] [.slice none 0 0,.slice none 0 0,.int .i64 0,.int .i64 0,.int .i64 0,.int .i64 0,.slice none 0 0,.slice none 0 0,.slice none 0 0,.int .i64 0,.int .i64 0,.int .i64 0,.int .i64 0] tf_zero_35 ⟨.inr ⟨_,O,O⟩,.inr ⟨_,O,O⟩,.inl O,.inl O,.inl O,.inl O,.inr ⟨_,O,O⟩,.inr ⟨_,O,O⟩,.inr ⟨_,O,O⟩,.inl O,.inl O,.inl O,.inl O,G⟩ O O) ?_
 refine G8 (hK1 _ _ ?_)
 refine G6 fun K2 hK2=>G3 ?_
 refine JLg (.ptr 1010 0) (Y1 1010 [.sc (.slice none 0 0),.sc (.slice none 0 0),G0 0,G0 0,G0 0,G0 0,E7 ([]:List Row),E8 ([]:List Frame),E9 ([]:List Gq),G0 0,G0 0,G0 0,G0 0] [.slice none 0 0,.slice none 0 0,.int .i64 0,.int .i64 0,.int .i64 0,.int .i64 0,.slice none 0 0,.slice none 0 0,.slice none 0 0,.int .i64 0,.int .i64 0,.int .i64 0,.int .i64 0] tf_zero_35 ⟨.inl O,.inl O,.inl O,.inl O,.inl O,.inl O,.inr ⟨_,O,O⟩,.inr ⟨_,O,O⟩,.inr ⟨_,O,O⟩,.inl O,.inl O,.inl O,.inl O,G⟩ O O) ?_
 refine JL_ownCell 1010 0 1013 70 12 O O O (cs':=[OW 1013 12 G5.av ([]:List G5),.sc (.slice none 0 0),G0 0,G0 0,G0 0,G0 0,E7 ([]:List Row),E8 ([]:List Frame),E9 ([]:List Gq),G0 0,G0 0,G0 0,G0 0]) O ?_
 refine JL_ownCell 1010 1 1014 74 2 O O O (cs':=[OW 1013 12 G5.av ([]:List G5),OW 1014 2 Ga.av ([]:List Ga),G0 0,G0 0,G0 0,G0 0,E7 ([]:List Row),E8 ([]:List Frame),E9 ([]:List Gq),G0 0,G0 0,G0 0,G0 0]) O ?_
 refine G8 (hK2 _ _ ?_)
 refine G6 (fun K3 hK3=>?_)
 refine G6 fun K4 hK4=>G3 ?_
 refine JLg (Ed l) (G7 O O) ?_
 refine JLg (Ed l) (G7 O O) ?_
 refine Hs (f:=Hr.av) (xs:=l) tf_slice_22 O O (fun hm14=>?_) O O O
 refine JLg (G0 (min (l.length:Int) 12)) (A_min O O O) ?_
 obtain⟨m5,hm5,h⟩:=Ge h
 refine JLg (Ed (l.take m5)) (A_sliceHiM (f:=Hr.av) (xs:=l) O O O tf_slice_22 (natIn_out hm5)) ?_
 refine Hs (f:=Hr.av) (xs:=(l.take m5)) tf_slice_22 O O (fun hm17=>?_) O O O
 refine JLg (G0 0) (G7 O O) ?_
 refine G8 (hK4 _ _ ?_)
 refine Gg ?_
 obtain⟨b106,kx106,hb106,hkx106,h⟩:=Hu h
 refine H7 (fun i106 (s106:(List G5)×(List Ga)×Int×Int×Int×Int×(List Row)×(List Frame)×(List Gq)×Int×Int×Int×Int)=>each b106 kx106 (List.drop i106 (l.take m5)) i106 s106=some r) (fun i106 s106=>[(1,.sc (.int .u32 covers)),(4,.ptr 1009 0),(5,.ptr 1010 0),(16,Ed (l.take m5)),(17,G0 ((l.take m5).length:Int)),(18,Em i106)]) (fun i106 s106=>[(1013,.spare 70 12 s106.1.length s106.1.length),(1014,.spare 74 2 s106.2.1.length s106.2.1.length),(1009,.box 35 [E4 ([]:List G5),E6 ([]:List Ga),G0 0,G0 0,G0 0,G0 0,E7 ([]:List Row),E8 ([]:List Frame),E9 ([]:List Gq),G0 0,G0 0,G0 0,G0 0]),(1010,.box 35 [OW 1013 12 G5.av s106.1,OW 1014 2 Ga.av s106.2.1,G0 s106.2.2.1,G0 s106.2.2.2.1,G0 s106.2.2.2.2.1,G0 s106.2.2.2.2.2.1,E7 s106.2.2.2.2.2.2.1,E8 s106.2.2.2.2.2.2.2.1,E9 s106.2.2.2.2.2.2.2.2.1,G0 s106.2.2.2.2.2.2.2.2.2.1,G0 s106.2.2.2.2.2.2.2.2.2.2.1,G0 s106.2.2.2.2.2.2.2.2.2.2.2.1,G0 s106.2.2.2.2.2.2.2.2.2.2.2.2])]) (fun i106=>(l.take m5).length - i106) 0 ([],[],0,0,0,0,[],[],[],0,0,0,0) h ⟨(by repeat' constructor),⟨⟨_,rfl,.same⟩,⟨_,rfl,.same⟩,⟨_,rfl,.boxL rfl (by repeat' constructor)⟩,⟨_,rfl,.boxL rfl (by repeat' constructor)⟩,G⟩,rfl⟩ ?_
 clear h
 intro i106 s106 hi106 K106 e106
 refine G6 fun K107 hK107=>G3 ?_
 refine JLg (BL (decide ((i106:Int) < ((l.take m5).length:Int)))) (Hy O O O) ?_
 refine G8 (hK107 _ _ ?_)
 refine G6 (fun K108 hK108=>?_)
 refine Gh O (fun hb=>?_) (fun hb=>?_)
 ·
  have hk106:=J9 hb
  obtain⟨y106,nx106,hy106,hn106,h⟩:=Hn hi106 hk106
  replace h:=app4 hb106 h
  refine Gj ?_
  refine hK108 _ _ ?_
  obtain⟨kj109,hkj109,h⟩:=Qd h
  refine Jq (fun j109:(List G5)=>kj109 j109=some r) (fun j109=>[(1,.sc (.int .u32 covers)),(4,.ptr 1009 0),(5,.ptr 1010 0),(16,Ed (l.take m5)),(17,G0 ((l.take m5).length:Int)),(18,Em i106)]) (fun j109=>[(1013,.spare 70 12 j109.length j109.length),(1014,.spare 74 2 s106.2.1.length s106.2.1.length),(1009,.box 35 [E4 ([]:List G5),E6 ([]:List Ga),G0 0,G0 0,G0 0,G0 0,E7 ([]:List Row),E8 ([]:List Frame),E9 ([]:List Gq),G0 0,G0 0,G0 0,G0 0]),(1010,.box 35 [OW 1013 12 G5.av j109,OW 1014 2 Ga.av s106.2.1,G0 s106.2.2.1,G0 s106.2.2.2.1,G0 s106.2.2.2.2.1,G0 s106.2.2.2.2.2.1,E7 s106.2.2.2.2.2.2.1,E8 s106.2.2.2.2.2.2.2.1,E9 s106.2.2.2.2.2.2.2.2.1,G0 s106.2.2.2.2.2.2.2.2.2.1,G0 s106.2.2.2.2.2.2.2.2.2.2.1,G0 s106.2.2.2.2.2.2.2.2.2.2.2.1,G0 s106.2.2.2.2.2.2.2.2.2.2.2.2])]) (fun Kj109 ej109=>?_) ?_
  ·
   refine Gg ?_
   refine G6 fun K110 hK110=>G3 ?_
   refine JLg (.dptr (Hr.cs y106)) (H0 (f:=Hr.av) (xs:=(l.take m5)) (y:=y106) O O O tf_slice_22 hy106 O) ?_
   refine JLg (.agg (Hr.cs y106)) (Gi tf_agg_68 O O O) ?_
   refine JLg (.ptr 1011 0) (Hi 1011 4 tf_zsize_68 O O) ?_
   refine Hj (u:=.junk) (H2 (u:=.agg (Hr.cs y106)) (ds:=[U8 y106.Bay,U8 y106.Row,U8 y106.Tiers,BL y106.Deck]) tf_size_68 O O O O O O O O) ?_
   refine G8 (hK110 _ _ ?_)
   refine Gk [(1,.sc (.int .u32 covers)),(4,.ptr 1009 0),(5,.ptr 1010 0),(7,.dptr (Hr.cs y106)),(16,Ed (l.take m5)),(17,G0 ((l.take m5).length:Int)),(18,Em i106)] [(1013,.spare 70 12 s106.1.length s106.1.length),(1014,.spare 74 2 s106.2.1.length s106.2.1.length),(1009,.box 35 [E4 ([]:List G5),E6 ([]:List Ga),G0 0,G0 0,G0 0,G0 0,E7 ([]:List Row),E8 ([]:List Frame),E9 ([]:List Gq),G0 0,G0 0,G0 0,G0 0]),(1010,.box 35 [OW 1013 12 G5.av s106.1,OW 1014 2 Ga.av s106.2.1,G0 s106.2.2.1,G0 s106.2.2.2.1,G0 s106.2.2.2.2.1,G0 s106.2.2.2.2.2.1,E7 s106.2.2.2.2.2.2.1,E8 s106.2.2.2.2.2.2.2.1,E9 s106.2.2.2.2.2.2.2.2.1,G0 s106.2.2.2.2.2.2.2.2.2.1,G0 s106.2.2.2.2.2.2.2.2.2.2.1,G0 s106.2.2.2.2.2.2.2.2.2.2.2.1,G0 s106.2.2.2.2.2.2.2.2.2.2.2.2])] 1011 rfl rfl rfl ⟨⟨_,rfl,.same⟩,⟨_,rfl,.same⟩,⟨_,rfl,.boxEq rfl rfl⟩,⟨_,rfl,.boxEq rfl rfl⟩,G⟩ rfl (by repeat' (first | exact .ptr | constructor)) ?_
   refine G6 fun K111 hK111=>G3 ?_
   refine JLg (.dptr (Hr.cs y106)) (Gc tf_field_68_0 O O O) ?_
   refine JLg (U8 y106.Bay) (Gf Hx O O O) ?_
   obtain⟨v112,hv112,h⟩:=Hm h
   refine JLg (G0 v112) (Yb Rs Rx hv112 O O) ?_
   obtain⟨v113,hv113,h⟩:=Ge h
   refine JLg (G0 v113) (A_rem (rem64_out hv113).1 (rem64_out hv113).2 O O O) ?_
   refine JLg (.dptr ((Hr.cs y106).drop 1)) (Gc tf_field_68_1 O O O) ?_
   refine JLg (U8 y106.Row) (Gf Hx O O O) ?_
   obtain⟨v114,hv114,h⟩:=Hm h
   refine JLg (G0 v114) (Yb Rs Rx hv114 O O) ?_
   obtain⟨v115,hv115,h⟩:=Ge h
   refine JLg (G0 v115) (A_rem (rem64_out hv115).1 (rem64_out hv115).2 O O O) ?_
   refine JLg (.dptr [BL y106.Deck]) (Gc tf_field_68_3 O O O) ?_
   refine JLg (BL y106.Deck) (Gf Qj O O O) ?_
   refine JLg (.dptr [U8 y106.Tiers,BL y106.Deck]) (Gc tf_field_68_2 O O O) ?_
   refine JLg (U8 y106.Tiers) (Gf Hx O O O) ?_
   obtain⟨v116,hv116,h⟩:=Hm h
   refine JLg (G0 v116) (Yb Rs Rx hv116 O O) ?_
   obtain⟨v117,hv117,h⟩:=Ge h
   refine JLg (G0 v117) (A_rem (rem64_out hv117).1 (rem64_out hv117).2 O O O) ?_
   obtain⟨v118,hv118,h⟩:=Hm h
   refine JLg (G0 v118) (Ht hv118 O O O) ?_
   refine JLg (.agg [G0 v113,G0 v115,BL y106.Deck,G0 v118,G0 0,G0 500000000,G0 500000000,G0 0,E1 ([]:List Int),G0 0,G0 0,G0 0]) (J4 (cs:=[G0 v113,G0 v115,BL y106.Deck,G0 v118,G0 0,G0 500000000,G0 500000000,G0 0,E1 ([]:List Int),G0 0,G0 0,G0 0]) [(0,1),(1,1),(2,1),(3,1),(4,1),(5,1),(6,1),(7,1),(8,1),(9,1),(10,1),(11,1)] [G0 0,G0 0,BL false,G0 0,G0 0,G0 0,G0 0,G0 0,E1 ([]:List Int),G0 0,G0 0,G0 0] [.int .i64 0,.int .i64 0,.bool false,.int .i64 0,.int .i64 0,.int .i64 0,.int .i64 0,.int .i64 0,.slice none 0 0,.int .i64 0,.int .i64 0,.int .i64 0] Y6 Yj ⟨.inl O,.inl O,.inl O,.inl O,.inl O,.inl O,.inl O,.inl O,.inr ⟨_,O,O⟩,.inl O,.inl O,.inl O,G⟩ O O) ?_
   refine JLg (.ptr 1012 0) (Hi 1012 12 Rn O O) ?_
   refine Hj (u:=.junk) (H2 (u:=.agg [G0 v113,G0 v115,BL y106.Deck,G0 v118,G0 0,G0 500000000,G0 500000000,G0 0,E1 ([]:List Int),G0 0,G0 0,G0 0]) (ds:=[G0 v113,G0 v115,BL y106.Deck,G0 v118,G0 0,G0 500000000,G0 500000000,G0 0,E1 ([]:List Int),G0 0,G0 0,G0 0]) Ym O O O O O O O O) ?_
   refine G8 (hK111 _ _ ?_)
   refine G6 fun K119 hK119=>G3 ?_
   refine JLg (.ptr 1012 0) (Jg R1 O O) ?_
   refine JLg (G0 v113) (Jx Gb O O O O) ?_
   obtain⟨v120,hv120,h⟩:=Hm h
   refine JLg (G0 v120) (A_mul hv120 O O O) ?_
   obtain⟨v121,hv121,h⟩:=Hm h
   refine JLg (G0 v121) (Rz hv121 O O O) ?_
   refine JLg (.ptr 1012 1) (Jg Y2 O O) ?_
   refine JLg (G0 v115) (Jx Gb O O O O) ?_
   obtain⟨v122,hv122,h⟩:=Hm h
   refine JLg (G0 v122) (A_mul hv122 O O O) ?_
   obtain⟨v123,hv123,h⟩:=Hm h
   refine JLg (G0 v123) (Rz hv123 O O O) ?_
   refine JLg (.ptr 1012 9) (Jg tf_field_70_9 O O) ?_
   refine Hj (u:=.junk) (H2 (u:=G0 v121) (ds:=[G0 v113,G0 v115,BL y106.Deck,G0 v118,G0 0,G0 500000000,G0 500000000,G0 0,E1 ([]:List Int),G0 v121,G0 0,G0 0]) R9 O O O O O O O O) ?_
   refine JLg (.ptr 1012 10) (Jg tf_field_70_10 O O) ?_
   refine Hj (u:=.junk) (H2 (u:=G0 v123) (ds:=[G0 v113,G0 v115,BL y106.Deck,G0 v118,G0 0,G0 500000000,G0 500000000,G0 0,E1 ([]:List Int),G0 v121,G0 v123,G0 0]) R9 O O O O O O O O) ?_
   refine JLg (.ptr 1012 11) (Jg tf_field_70_11 O O) ?_
   refine Hj (u:=.junk) (H2 (u:=G0 2000) (ds:=[G0 v113,G0 v115,BL y106.Deck,G0 v118,G0 0,G0 500000000,G0 500000000,G0 0,E1 ([]:List Int),G0 v121,G0 v123,G0 2000]) R9 O O O O O O O O) ?_
   refine G8 (hK119 _ _ ?_)
   obtain⟨kj124,hkj124,h⟩:=Qd h
   refine Jq (fun j124:Int=>kj124 j124=some r) (fun j124=>[(1,.sc (.int .u32 covers)),(4,.ptr 1009 0),(5,.ptr 1010 0),(8,.ptr 1012 0),(16,Ed (l.take m5)),(17,G0 ((l.take m5).length:Int)),(18,Em i106)]) (fun j124=>[(1013,.spare 70 12 s106.1.length s106.1.length),(1014,.spare 74 2 s106.2.1.length s106.2.1.length),(1009,.box 35 [E4 ([]:List G5),E6 ([]:List Ga),G0 0,G0 0,G0 0,G0 0,E7 ([]:List Row),E8 ([]:List Frame),E9 ([]:List Gq),G0 0,G0 0,G0 0,G0 0]),(1010,.box 35 [OW 1013 12 G5.av s106.1,OW 1014 2 Ga.av s106.2.1,G0 s106.2.2.1,G0 s106.2.2.2.1,G0 s106.2.2.2.2.1,G0 s106.2.2.2.2.2.1,E7 s106.2.2.2.2.2.2.1,E8 s106.2.2.2.2.2.2.2.1,E9 s106.2.2.2.2.2.2.2.2.1,G0 s106.2.2.2.2.2.2.2.2.2.1,G0 s106.2.2.2.2.2.2.2.2.2.2.1,G0 s106.2.2.2.2.2.2.2.2.2.2.2.1,G0 s106.2.2.2.2.2.2.2.2.2.2.2.2]),(1012,.box 70 [G0 v113,G0 v115,BL y106.Deck,G0 v118,G0 0,G0 500000000,G0 500000000,G0 0,E1 ([]:List Int),G0 v121,G0 v123,G0 j124])]) (fun Kj124 ej124=>?_) ?_
   ·
    refine G6 fun K125 hK125=>G3 ?_
    refine JLg (.ptr 1012 2) (Jg Rb O O) ?_
    refine JLg (BL y106.Deck) (Jx Qj O O O O) ?_
    refine G8 (hK125 _ _ ?_)
    refine Gh O (fun hb=>?_) (fun hb=>?_)
    ·
     replace h:=Gv hb h
     refine G3 ?_
     refine JLg (.ptr 1012 11) (Jg tf_field_70_11 O O) ?_
     refine Hj (u:=.junk) (H2 (u:=G0 20000) (ds:=[G0 v113,G0 v115,BL y106.Deck,G0 v118,G0 0,G0 500000000,G0 500000000,G0 0,E1 ([]:List Int),G0 v121,G0 v123,G0 20000]) R9 O O O O O O O O) ?_
     refine G8 ?_
     exact ej124 _ _ 20000 h ⟨(by repeat' constructor),⟨⟨_,rfl,.same⟩,⟨_,rfl,.same⟩,⟨_,rfl,.boxL rfl (by repeat' constructor)⟩,⟨_,rfl,.boxL rfl (by repeat' constructor)⟩,⟨_,rfl,.boxL rfl (by repeat' constructor)⟩,G⟩,rfl⟩
    ·
     replace h:=Hp hb h
     refine Gj ?_
     exact ej124 _ _ 2000 h ⟨(by repeat' constructor),⟨⟨_,rfl,.same⟩,⟨_,rfl,.same⟩,⟨_,rfl,.boxL rfl (by repeat' constructor)⟩,⟨_,rfl,.boxL rfl (by repeat' constructor)⟩,⟨_,rfl,.boxL rfl (by repeat' constructor)⟩,G⟩,rfl⟩
   ·intro j124 h
    replace h:=app1 hkj124 h
    refine G6 fun K126 hK126=>G3 ?_
    refine JLg (.agg [OW 1013 12 G5.av s106.1,OW 1014 2 Ga.av s106.2.1,G0 s106.2.2.1,G0 s106.2.2.2.1,G0 s106.2.2.2.2.1,G0 s106.2.2.2.2.2.1,E7 s106.2.2.2.2.2.2.1,E8 s106.2.2.2.2.2.2.2.1,E9 s106.2.2.2.2.2.2.2.2.1,G0 s106.2.2.2.2.2.2.2.2.2.1,G0 s106.2.2.2.2.2.2.2.2.2.2.1,G0 s106.2.2.2.2.2.2.2.2.2.2.2.1,G0 s106.2.2.2.2.2.2.2.2.2.2.2.2]) (A_loadAggL J0 O O O O) ?_
    refine JLg (.ptr 1012 0) (Jg R1 O O) ?_
    refine JLg (G0 v113) (Jx Gb O O O O) ?_
    refine JLg (.ptr 1012 1) (Jg Y2 O O) ?_
    refine JLg (G0 v115) (Jx Gb O O O O) ?_
    refine JLg (.ptr 1012 2) (Jg Rb O O) ?_
    refine JLg (BL y106.Deck) (Jx Qj O O O O) ?_
    obtain⟨r127,hr127,h⟩:=Ge h
    refine JLg (.tup [G0 r127.1,BL r127.2]) (H1 (args:=[.agg [E4 s106.1,E6 s106.2.1,G0 s106.2.2.1,G0 s106.2.2.2.1,G0 s106.2.2.2.2.1,G0 s106.2.2.2.2.2.1,E7 s106.2.2.2.2.2.2.1,E8 s106.2.2.2.2.2.2.2.1,E9 s106.2.2.2.2.2.2.2.2.1,G0 s106.2.2.2.2.2.2.2.2.2.1,G0 s106.2.2.2.2.2.2.2.2.2.2.1,G0 s106.2.2.2.2.2.2.2.2.2.2.2.1,G0 s106.2.2.2.2.2.2.2.2.2.2.2.2],G0 v113,G0 v115,BL y106.Deck]) O (M_ship_Find_w (Gz.mk s106.1 s106.2.1 (Light.mk s106.2.2.1 s106.2.2.2.1 s106.2.2.2.2.1 s106.2.2.2.2.2.1) s106.2.2.2.2.2.2.1 s106.2.2.2.2.2.2.2.1 s106.2.2.2.2.2.2.2.2.1 (G4.mk s106.2.2.2.2.2.2.2.2.2.1 s106.2.2.2.2.2.2.2.2.2.2.1 s106.2.2.2.2.2.2.2.2.2.2.2.1 s106.2.2.2.2.2.2.2.2.2.2.2.2)) v113 v115 y106.Deck r127 hr127) tf_call_13 ⟨O,O,O,O,O,O,O,O,G⟩) ?_
    refine JLg (.tup [G0 r127.1,BL r127.2]) (G7 O O) ?_
    refine JLg (G0 r127.1) (Hq O O O) ?_
    refine JLg (BL r127.2) (Hq O O O) ?_
    refine JLg (G0 r127.1) (G9 O O) ?_
    refine JLg (BL r127.2) (G9 O O) ?_
    refine G8 (hK126 _ _ ?_)
    refine Gk [(1,.sc (.int .u32 covers)),(4,.ptr 1009 0),(5,.ptr 1010 0),(8,.dptr [G0 v113,G0 v115,BL y106.Deck,G0 v118,G0 0,G0 500000000,G0 500000000,G0 0,E1 ([]:List Int),G0 v121,G0 v123,G0 j124]),(10,BL r127.2),(16,Ed (l.take m5)),(17,G0 ((l.take m5).length:Int)),(18,Em i106)] [(1013,.spare 70 12 s106.1.length s106.1.length),(1014,.spare 74 2 s106.2.1.length s106.2.1.length),(1009,.box 35 [E4 ([]:List G5),E6 ([]:List Ga),G0 0,G0 0,G0 0,G0 0,E7 ([]:List Row),E8 ([]:List Frame),E9 ([]:List Gq),G0 0,G0 0,G0 0,G0 0]),(1010,.box 35 [OW 1013 12 G5.av s106.1,OW 1014 2 Ga.av s106.2.1,G0 s106.2.2.1,G0 s106.2.2.2.1,G0 s106.2.2.2.2.1,G0 s106.2.2.2.2.2.1,E7 s106.2.2.2.2.2.2.1,E8 s106.2.2.2.2.2.2.2.1,E9 s106.2.2.2.2.2.2.2.2.1,G0 s106.2.2.2.2.2.2.2.2.2.1,G0 s106.2.2.2.2.2.2.2.2.2.2.1,G0 s106.2.2.2.2.2.2.2.2.2.2.2.1,G0 s106.2.2.2.2.2.2.2.2.2.2.2.2])] 1012 rfl rfl rfl ⟨⟨_,rfl,.same⟩,⟨_,rfl,.same⟩,⟨_,rfl,.boxEq rfl rfl⟩,⟨_,rfl,.boxEq rfl rfl⟩,G⟩ rfl (by repeat' (first | exact .ptr | constructor)) ?_
    refine G6 fun K128 hK128=>G3 ?_
    refine JLg (BL r127.2) (G7 O O) ?_
    refine JLg (BL (!r127.2)) (Rj (b:=r127.2) O O) ?_
    refine G8 (hK128 _ _ ?_)
    refine Gh O (fun hb=>?_) (fun hb=>?_)
    ·
     replace h:=Gv hb h
     refine G3 ?_
     refine JLg (.ptr 1010 0) (Jg J6 O O) ?_
     refine JLg (OW 1013 12 G5.av s106.1) (Jx Jd O O O O) ?_
     refine JLg (.agg [G0 v113,G0 v115,BL y106.Deck,G0 v118,G0 0,G0 500000000,G0 500000000,G0 0,E1 ([]:List Int),G0 v121,G0 v123,G0 j124]) (Gi Ya O O O) ?_
     refine JLg (E4 ([(G5.mk v113 v115 y106.Deck v118 0 500000000 500000000 0 [] v121 v123 j124)])) (Hd (xs:=[.agg [G0 v113,G0 v115,BL y106.Deck,G0 v118,G0 0,G0 500000000,G0 500000000,G0 0,E1 ([]:List Int),G0 v121,G0 v123,G0 j124]]) O ⟨O,O,G⟩ J7 Rn O O O O) ?_
     obtain⟨ha129,h⟩:=Je h
     refine JLg (OW 1013 12 G5.av (s106.1++[(G5.mk v113 v115 y106.Deck v118 0 500000000 500000000 0 [] v121 v123 j124)])) (Qu (f:=G5.av) (xs:=s106.1) (ys:=[(G5.mk v113 v115 y106.Deck v118 0 500000000 500000000 0 [] v121 v123 j124)]) O O O O J7 tf_elem_70 ha129 (fun _=>O) (.inl O) O) ?_
     refine JLg (.ptr 1010 0) (Jg J6 O O) ?_
     refine Hj (u:=.junk) (H2 (u:=OW 1013 12 G5.av (s106.1++[(G5.mk v113 v115 y106.Deck v118 0 500000000 500000000 0 [] v121 v123 j124)])) (ds:=[OW 1013 12 G5.av (s106.1++[(G5.mk v113 v115 y106.Deck v118 0 500000000 500000000 0 [] v121 v123 j124)]),OW 1014 2 Ga.av s106.2.1,G0 s106.2.2.1,G0 s106.2.2.2.1,G0 s106.2.2.2.2.1,G0 s106.2.2.2.2.2.1,E7 s106.2.2.2.2.2.2.1,E8 s106.2.2.2.2.2.2.2.1,E9 s106.2.2.2.2.2.2.2.2.1,G0 s106.2.2.2.2.2.2.2.2.2.1,G0 s106.2.2.2.2.2.2.2.2.2.2.1,G0 s106.2.2.2.2.2.2.2.2.2.2.2.1,G0 s106.2.2.2.2.2.2.2.2.2.2.2.2]) tf_size_25 O O O O O O O O) ?_
     refine G8 ?_
     exact ej109 _ _ (s106.1++[(G5.mk v113 v115 y106.Deck v118 0 500000000 500000000 0 [] v121 v123 j124)]) h ⟨(by repeat' constructor),⟨⟨_,rfl,.same⟩,⟨_,rfl,.same⟩,⟨_,rfl,.boxL rfl (by repeat' constructor)⟩,⟨_,rfl,.boxL rfl (by repeat' constructor)⟩,G⟩,rfl⟩
    ·
     replace h:=Hp hb h
     refine Gj ?_
     exact ej109 _ _ s106.1 h ⟨(by repeat' constructor),⟨⟨_,rfl,.same⟩,⟨_,rfl,.same⟩,⟨_,rfl,.boxL rfl (by repeat' constructor)⟩,⟨_,rfl,.boxL rfl (by repeat' constructor)⟩,G⟩,rfl⟩
  ·intro j109 h
   replace h:=app1 hkj109 h
   refine G3 ?_
   refine JLg (G0 ((i106+1:Nat):Int)) (Ht (Hc hk106 hm17) O O O) ?_
   refine JLg (G0 ((i106+1:Nat):Int)) (G7 O O) ?_
   refine G8 ?_
   exact e106 _ _ (i106+1) (j109,s106.2.1,s106.2.2.1,s106.2.2.2.1,s106.2.2.2.2.1,s106.2.2.2.2.2.1,s106.2.2.2.2.2.2.1,s106.2.2.2.2.2.2.2.1,s106.2.2.2.2.2.2.2.2.1,s106.2.2.2.2.2.2.2.2.2.1,s106.2.2.2.2.2.2.2.2.2.2.1,s106.2.2.2.2.2.2.2.2.2.2.2.1,s106.2.2.2.2.2.2.2.2.2.2.2.2) (app1 hn106 h) (by omega) ⟨(by repeat' constructor),⟨⟨_,rfl,.same⟩,⟨_,rfl,.same⟩,⟨_,rfl,.boxL rfl (by repeat' constructor)⟩,⟨_,rfl,.boxL rfl (by repeat' constructor)⟩,G⟩,rfl⟩
 ·
  have h:=app1 hkx106 (Ho hi106 (H3 hb))
  refine Hk ?_
  refine hK3 _ _ ?_
  obtain⟨kj130,hkj130,h⟩:=Qd h
  refine Jq (fun j130:(List G5)=>kj130 j130=some r) (fun j130=>[(1,.sc (.int .u32 covers)),(4,.ptr 1009 0),(5,.ptr 1010 0)]) (fun j130=>[(1014,.spare 74 2 s106.2.1.length s106.2.1.length),(1009,.box 35 [E4 ([]:List G5),E6 ([]:List Ga),G0 0,G0 0,G0 0,G0 0,E7 ([]:List Row),E8 ([]:List Frame),E9 ([]:List Gq),G0 0,G0 0,G0 0,G0 0]),(1010,.box 35 [E4 j130,OW 1014 2 Ga.av s106.2.1,G0 s106.2.2.1,G0 s106.2.2.2.1,G0 s106.2.2.2.2.1,G0 s106.2.2.2.2.2.1,E7 s106.2.2.2.2.2.2.1,E8 s106.2.2.2.2.2.2.2.1,E9 s106.2.2.2.2.2.2.2.2.1,G0 s106.2.2.2.2.2.2.2.2.2.1,G0 s106.2.2.2.2.2.2.2.2.2.2.1,G0 s106.2.2.2.2.2.2.2.2.2.2.2.1,G0 s106.2.2.2.2.2.2.2.2.2.2.2.2])]) (fun Kj130 ej130=>?_) ?_
  ·
   refine G6 fun K131 hK131=>G3 ?_
   refine JLg (.ptr 1010 0) (Jg J6 O O) ?_
   refine JLg (OW 1013 12 G5.av s106.1) (Jx Jd O O O O) ?_
   refine Hs (f:=G5.av) (xs:=s106.1) J7 O O (fun hm74=>?_) O O O
   refine JLg (BL (decide ((s106.1.length:Int)=0))) (Qb O O O) ?_
   refine G8 (hK131 _ _ ?_)
   refine Gh O (fun hb=>?_) (fun hb=>?_)
   ·
    replace h:=Gv hb h
    refine G3 ?_
    refine JLg (.agg [G0 0,G0 0,BL false,G0 3,G0 0,G0 500000000,G0 500000000,G0 0,E1 ([]:List Int),G0 0,G0 0,G0 2000]) (J4 (cs:=[G0 0,G0 0,BL false,G0 3,G0 0,G0 500000000,G0 500000000,G0 0,E1 ([]:List Int),G0 0,G0 0,G0 2000]) [(0,1),(1,1),(2,1),(3,1),(4,1),(5,1),(6,1),(7,1),(8,1),(9,1),(10,1),(11,1)] [G0 0,G0 0,BL false,G0 0,G0 0,G0 0,G0 0,G0 0,E1 ([]:List Int),G0 0,G0 0,G0 0] [.int .i64 0,.int .i64 0,.bool false,.int .i64 0,.int .i64 0,.int .i64 0,.int .i64 0,.int .i64 0,.slice none 0 0,.int .i64 0,.int .i64 0,.int .i64 0] Y6 Yj ⟨.inl O,.inl O,.inl O,.inl O,.inl O,.inl O,.inl O,.inl O,.inr ⟨_,O,O⟩,.inl O,.inl O,.inl O,G⟩ O O) ?_
    refine JLg (E4 ([(G5.mk 0 0 false 3 0 500000000 500000000 0 [] 0 0 2000)])) (Hd (xs:=[.agg [G0 0,G0 0,BL false,G0 3,G0 0,G0 500000000,G0 500000000,G0 0,E1 ([]:List Int),G0 0,G0 0,G0 2000]]) O ⟨O,O,G⟩ J7 Rn O O O O) ?_
    refine JLg (.ptr 1010 0) (Jg J6 O O) ?_
    refine Hj (u:=.junk) (H2 (u:=E4 ([(G5.mk 0 0 false 3 0 500000000 500000000 0 [] 0 0 2000)])) (ds:=[E4 ([(G5.mk 0 0 false 3 0 500000000 500000000 0 [] 0 0 2000)]),OW 1014 2 Ga.av s106.2.1,G0 s106.2.2.1,G0 s106.2.2.2.1,G0 s106.2.2.2.2.1,G0 s106.2.2.2.2.2.1,E7 s106.2.2.2.2.2.2.1,E8 s106.2.2.2.2.2.2.2.1,E9 s106.2.2.2.2.2.2.2.2.1,G0 s106.2.2.2.2.2.2.2.2.2.1,G0 s106.2.2.2.2.2.2.2.2.2.2.1,G0 s106.2.2.2.2.2.2.2.2.2.2.2.1,G0 s106.2.2.2.2.2.2.2.2.2.2.2.2]) tf_size_25 O O O O O O O O) ?_
    refine G8 ?_
    exact ej130 _ _ ([(G5.mk 0 0 false 3 0 500000000 500000000 0 [] 0 0 2000)]) h ⟨⟨.same rfl,.same rfl,.same rfl,G⟩,⟨⟨_,rfl,.same⟩,⟨_,rfl,.boxL rfl (by repeat' constructor)⟩,⟨_,rfl,.boxL rfl (by repeat' constructor)⟩,G⟩,rfl⟩
   ·
    replace h:=Hp hb h
    refine Gj ?_
    exact ej130 _ _ s106.1 h ⟨⟨.same rfl,.same rfl,.same rfl,G⟩,⟨⟨_,rfl,.same⟩,⟨_,rfl,.boxL rfl (by repeat' constructor)⟩,⟨_,rfl,.boxL rfl ⟨.list rfl,.same rfl,.same rfl,.same rfl,.same rfl,.same rfl,.same rfl,.same rfl,.same rfl,.same rfl,.same rfl,.same rfl,.same rfl,G⟩⟩,G⟩,rfl⟩
  ·intro j130 h
   replace h:=app1 hkj130 h
   refine G6 (fun K132 hK132=>?_)
   refine G6 fun K133 hK133=>G3 ?_
   refine JLg (G0 0) (G9 O O) ?_
   refine G8 (hK133 _ _ ?_)
   refine Gg ?_
   obtain⟨hx200,h⟩:=Je h
   obtain⟨b200,kx200,hb200,hkx200,h⟩:=upto_in h
   refine H7 (fun i200 (s200:(List G5)×(List Ga)×Int×Int×Int×Int×(List Row)×(List Frame)×(List Gq)×Int×Int×Int×Int)=>upto b200 kx200 ((5:Int).toNat - i200) i200 s200=some r) (fun i200 s200=>[(1,.sc (.int .u32 covers)),(4,.ptr 1009 0),(5,.ptr 1010 0),(11,Em i200)]) (fun i200 s200=>[(1014,.spare 74 2 s200.2.1.length s200.2.1.length),(1009,.box 35 [E4 ([]:List G5),E6 ([]:List Ga),G0 0,G0 0,G0 0,G0 0,E7 ([]:List Row),E8 ([]:List Frame),E9 ([]:List Gq),G0 0,G0 0,G0 0,G0 0]),(1010,.box 35 [E4 s200.1,OW 1014 2 Ga.av s200.2.1,G0 s200.2.2.1,G0 s200.2.2.2.1,G0 s200.2.2.2.2.1,G0 s200.2.2.2.2.2.1,E7 s200.2.2.2.2.2.2.1,E8 s200.2.2.2.2.2.2.2.1,E9 s200.2.2.2.2.2.2.2.2.1,G0 s200.2.2.2.2.2.2.2.2.2.1,G0 s200.2.2.2.2.2.2.2.2.2.2.1,G0 s200.2.2.2.2.2.2.2.2.2.2.2.1,G0 s200.2.2.2.2.2.2.2.2.2.2.2.2])]) (fun i200=>(5:Int).toNat - i200) 0 (j130,s106.2.1,s106.2.2.1,s106.2.2.2.1,s106.2.2.2.2.1,s106.2.2.2.2.2.1,s106.2.2.2.2.2.2.1,s106.2.2.2.2.2.2.2.1,s106.2.2.2.2.2.2.2.2.1,s106.2.2.2.2.2.2.2.2.2.1,s106.2.2.2.2.2.2.2.2.2.2.1,s106.2.2.2.2.2.2.2.2.2.2.2.1,s106.2.2.2.2.2.2.2.2.2.2.2.2) h ⟨(by repeat' constructor),⟨⟨_,rfl,.same⟩,⟨_,rfl,.boxL rfl (by repeat' constructor)⟩,⟨_,rfl,.boxL rfl (by repeat' constructor)⟩,G⟩,rfl⟩ ?_
   clear h
   intro i200 s200 hi200 K200 e200
   refine G6 (fun K201 hK201=>?_)
   refine G6 fun K202 hK202=>G3 ?_
   refine JLg (Em i200) (G7 O O) ?_
   refine JLg (BL (decide ((i200:Int) < 5))) (Hy O O O) ?_
   refine G8 (hK202 _ _ ?_)
   refine Gh O (fun hb=>?_) (fun hb=>?_)
   ·
    have hk200:=lt_toNat hb
    obtain⟨nx200,hn200,h⟩:=upto_out hi200 hk200
    replace h:=app3 hb200 h
    refine Gj ?_
    refine hK201 _ _ ?_
    obtain⟨kj203,hkj203,h⟩:=Qd h
    refine Jq (fun j203:(List Ga)=>kj203 j203=some r) (fun j203=>[(1,.sc (.int .u32 covers)),(4,.ptr 1009 0),(5,.ptr 1010 0),(11,Em i200)]) (fun j203=>[(1014,.spare 74 2 j203.length j203.length),(1009,.box 35 [E4 ([]:List G5),E6 ([]:List Ga),G0 0,G0 0,G0 0,G0 0,E7 ([]:List Row),E8 ([]:List Frame),E9 ([]:List Gq),G0 0,G0 0,G0 0,G0 0]),(1010,.box 35 [E4 s200.1,OW 1014 2 Ga.av j203,G0 s200.2.2.1,G0 s200.2.2.2.1,G0 s200.2.2.2.2.1,G0 s200.2.2.2.2.2.1,E7 s200.2.2.2.2.2.2.1,E8 s200.2.2.2.2.2.2.2.1,E9 s200.2.2.2.2.2.2.2.2.1,G0 s200.2.2.2.2.2.2.2.2.2.1,G0 s200.2.2.2.2.2.2.2.2.2.2.1,G0 s200.2.2.2.2.2.2.2.2.2.2.2.1,G0 s200.2.2.2.2.2.2.2.2.2.2.2.2])]) (fun Kj203 ej203=>?_) ?_
    ·
     refine Gg ?_
     obtain⟨kj204,hkj204,h⟩:=Qd h
     refine Jq (fun j204:(List Ga)=>kj204 j204=some r) (fun j204=>[(1,.sc (.int .u32 covers)),(4,.ptr 1009 0),(5,.ptr 1010 0),(11,Em i200)]) (fun j204=>[(1014,.spare 74 2 j204.length j204.length),(1009,.box 35 [E4 ([]:List G5),E6 ([]:List Ga),G0 0,G0 0,G0 0,G0 0,E7 ([]:List Row),E8 ([]:List Frame),E9 ([]:List Gq),G0 0,G0 0,G0 0,G0 0]),(1010,.box 35 [E4 s200.1,OW 1014 2 Ga.av j204,G0 s200.2.2.1,G0 s200.2.2.2.1,G0 s200.2.2.2.2.1,G0 s200.2.2.2.2.2.1,E7 s200.2.2.2.2.2.2.1,E8 s200.2.2.2.2.2.2.2.1,E9 s200.2.2.2.2.2.2.2.2.1,G0 s200.2.2.2.2.2.2.2.2.2.1,G0 s200.2.2.2.2.2.2.2.2.2.2.1,G0 s200.2.2.2.2.2.2.2.2.2.2.2.1,G0 s200.2.2.2.2.2.2.2.2.2.2.2.2])]) (fun Kj204 ej204=>?_) ?_
     ·
      refine G6 fun K205 hK205=>G3 ?_
      refine JLg (.sc (.int .u32 covers)) (G7 O O) ?_
      refine JLg (Em i200) (G7 O O) ?_
      obtain⟨v206,hv206,h⟩:=Hm h
      refine JLg (G0 v206) (A_mul hv206 O O O) ?_
      obtain⟨m207,hm207,h⟩:=Ge h
      refine JLg (.sc (.int .u32 (shrN .u32 covers m207))) (A_shrM (s:=m207) (natIn_out hm207).1 O O O) ?_
      refine JLg (.sc (.int .u32 (band .u32 (shrN .u32 covers m207) 1))) (A_band O O O) ?_
      refine JLg (BL (decide ((band .u32 (shrN .u32 covers m207) 1)=1))) (Qb O O O) ?_
      refine G8 (hK205 _ _ ?_)
      refine Gh O (fun hb=>?_) (fun hb=>?_)
      ·
       replace h:=Gv hb h
       refine G3 ?_
       refine JLg (.ptr 1010 1) (Jg Qs O O) ?_
       refine JLg (OW 1014 2 Ga.av s200.2.1) (Jx Ra O O O O) ?_
       refine JLg (Em i200) (G7 O O) ?_
       refine JLg (E1 [0,1]) (Hd (xs:=[G0 0,G0 1]) O ⟨O,O,O,O,G⟩ Gy Rh O O O O) ?_
       refine JLg (.agg [Em i200,E1 [0,1]]) (J4 (cs:=[Em i200,E1 [0,1]]) [(0,1),(1,1)] [G0 0,E1 ([]:List Int)] [.int .i64 0,.slice none 0 0] tf_places_74 tf_zero_74 ⟨.inl O,.inr ⟨_,O,O⟩,G⟩ O O) ?_
       refine JLg (E6 ([(Ga.mk (i200:Int) [0,1])])) (Hd (xs:=[.agg [Em i200,E1 [0,1]]]) O ⟨O,O,G⟩ Qq tf_zsize_74 O O O O) ?_
       obtain⟨ha208,h⟩:=Je h
       refine JLg (OW 1014 2 Ga.av (s200.2.1++[(Ga.mk (i200:Int) [0,1])])) (Qu (f:=Ga.av) (xs:=s200.2.1) (ys:=[(Ga.mk (i200:Int) [0,1])]) O O O O Qq tf_elem_74 ha208 (fun _=>O) (.inl O) O) ?_
       refine JLg (.ptr 1010 1) (Jg Qs O O) ?_
       refine Hj (u:=.junk) (H2 (u:=OW 1014 2 Ga.av (s200.2.1++[(Ga.mk (i200:Int) [0,1])])) (ds:=[E4 s200.1,OW 1014 2 Ga.av (s200.2.1++[(Ga.mk (i200:Int) [0,1])]),G0 s200.2.2.1,G0 s200.2.2.2.1,G0 s200.2.2.2.2.1,G0 s200.2.2.2.2.2.1,E7 s200.2.2.2.2.2.2.1,E8 s200.2.2.2.2.2.2.2.1,E9 s200.2.2.2.2.2.2.2.2.1,G0 s200.2.2.2.2.2.2.2.2.2.1,G0 s200.2.2.2.2.2.2.2.2.2.2.1,G0 s200.2.2.2.2.2.2.2.2.2.2.2.1,G0 s200.2.2.2.2.2.2.2.2.2.2.2.2]) tf_size_26 O O O O O O O O) ?_
       refine G8 ?_
       exact ej204 _ _ (s200.2.1++[(Ga.mk (i200:Int) [0,1])]) h ⟨(by repeat' constructor),⟨⟨_,rfl,.same⟩,⟨_,rfl,.boxL rfl (by repeat' constructor)⟩,⟨_,rfl,.boxL rfl (by repeat' constructor)⟩,G⟩,rfl⟩
      ·
       replace h:=Hp hb h
       refine Gj ?_
       exact ej204 _ _ s200.2.1 h ⟨(by repeat' constructor),⟨⟨_,rfl,.same⟩,⟨_,rfl,.boxL rfl (by repeat' constructor)⟩,⟨_,rfl,.boxL rfl (by repeat' constructor)⟩,G⟩,rfl⟩
     ·intro j204 h
      replace h:=app1 hkj204 h
      refine G6 fun K209 hK209=>G3 ?_
      refine JLg (.sc (.int .u32 covers)) (G7 O O) ?_
      refine JLg (Em i200) (G7 O O) ?_
      obtain⟨v210,hv210,h⟩:=Hm h
      refine JLg (G0 v210) (A_mul hv210 O O O) ?_
      obtain⟨v211,hv211,h⟩:=Hm h
      refine JLg (G0 v211) (Ht hv211 O O O) ?_
      obtain⟨m212,hm212,h⟩:=Ge h
      refine JLg (.sc (.int .u32 (shrN .u32 covers m212))) (A_shrM (s:=m212) (natIn_out hm212).1 O O O) ?_
      refine JLg (.sc (.int .u32 (band .u32 (shrN .u32 covers m212) 1))) (A_band O O O) ?_
      refine JLg (BL (decide ((band .u32 (shrN .u32 covers m212) 1)=1))) (Qb O O O) ?_
      refine G8 (hK209 _ _ ?_)
      refine Gh O (fun hb=>?_) (fun hb=>?_)
      ·
       replace h:=Gv hb h
       refine G3 ?_
       refine JLg (.ptr 1010 1) (Jg Qs O O) ?_
       refine JLg (OW 1014 2 Ga.av j204) (Jx Ra O O O O) ?_
       refine JLg (Em i200) (G7 O O) ?_
       refine JLg (E1 [2,3,4]) (Hd (xs:=[G0 2,G0 3,G0 4]) O ⟨O,O,O,O,O,O,G⟩ Gy Rh O O O O) ?_
       refine JLg (.agg [Em i200,E1 [2,3,4]]) (J4 (cs:=[Em i200,E1 [2,3,4]]) [(0,1),(1,1)] [G0 0,E1 ([]:List Int)] [.int .i64 0,.slice none 0 0] tf_places_74 tf_zero_74 ⟨.inl O,.inr ⟨_,O,O⟩,G⟩ O O) ?_
       refine JLg (E6 ([(Ga.mk (i200:Int) [2,3,4])])) (Hd (xs:=[.agg [Em i200,E1 [2,3,4]]]) O ⟨O,O,G⟩ Qq tf_zsize_74 O O O O) ?_
       obtain⟨ha213,h⟩:=Je h
       refine JLg (OW 1014 2 Ga.av (j204++[(Ga.mk (i200:Int) [2,3,4])])) (Qu (f:=Ga.av) (xs:=j204) (ys:=[(Ga.mk (i200:Int) [2,3,4])]) O O O O Qq tf_elem_74 ha213 (fun _=>O) (.inl O) O) ?_
       refine JLg (.ptr 1010 1) (Jg Qs O O) ?_
       refine Hj (u:=.junk) (H2 (u:=OW 1014 2 Ga.av (j204++[(Ga.mk (i200:Int) [2,3,4])])) (ds:=[E4 s200.1,OW 1014 2 Ga.av (j204++[(Ga.mk (i200:Int) [2,3,4])]),G0 s200.2.2.1,G0 s200.2.2.2.1,G0 s200.2.2.2.2.1,G0 s200.2.2.2.2.2.1,E7 s200.2.2.2.2.2.2.1,E8 s200.2.2.2.2.2.2.2.1,E9 s200.2.2.2.2.2.2.2.2.1,G0 s200.2.2.2.2.2.2.2.2.2.1,G0 s200.2.2.2.2.2.2.2.2.2.2.1,G0 s200.2.2.2.2.2.2.2.2.2.2.2.1,G0 s200.2.2.2.2.2.2.2.2.2.2.2.2]) tf_size_26 O O O O O O O O) ?_
       refine G8 ?_
       exact ej203 _ _ (j204++[(Ga.mk (i200:Int) [2,3,4])]) h ⟨(by repeat' constructor),⟨⟨_,rfl,.same⟩,⟨_,rfl,.boxL rfl (by repeat' constructor)⟩,⟨_,rfl,.boxL rfl (by repeat' constructor)⟩,G⟩,rfl⟩
      ·
       replace h:=Hp hb h
       refine Gj ?_
       exact ej203 _ _ j204 h ⟨(by repeat' constructor),⟨⟨_,rfl,.same⟩,⟨_,rfl,.boxL rfl (by repeat' constructor)⟩,⟨_,rfl,.boxL rfl (by repeat' constructor)⟩,G⟩,rfl⟩
    ·intro j203 h
     replace h:=app1 hkj203 h
     refine G3 ?_
     refine JLg (Em i200) (G7 O O) ?_
     refine JLg (G0 ((i200+1:Nat):Int)) (Ht (Hc hk200 (toNat_max hx200)) O O O) ?_
     refine JLg (G0 ((i200+1:Nat):Int)) (G9 O O) ?_
     refine G8 ?_
     exact e200 _ _ (i200+1) (s200.1,j203,s200.2.2.1,s200.2.2.2.1,s200.2.2.2.2.1,s200.2.2.2.2.2.1,s200.2.2.2.2.2.2.1,s200.2.2.2.2.2.2.2.1,s200.2.2.2.2.2.2.2.2.1,s200.2.2.2.2.2.2.2.2.2.1,s200.2.2.2.2.2.2.2.2.2.2.1,s200.2.2.2.2.2.2.2.2.2.2.2.1,s200.2.2.2.2.2.2.2.2.2.2.2.2) (app1 hn200 h) (by omega) ⟨(by repeat' constructor),⟨⟨_,rfl,.same⟩,⟨_,rfl,.boxL rfl (by repeat' constructor)⟩,⟨_,rfl,.boxL rfl (by repeat' constructor)⟩,G⟩,rfl⟩
   ·
    have h:=app1 hkx200 (upto_nil hi200 (not_lt_toNat hb))
    refine Hk ?_
    refine hK132 _ _ ?_
    refine G6 fun K214 hK214=>G3 ?_
    refine JLg (.agg [E4 s200.1,OW 1014 2 Ga.av s200.2.1,G0 s200.2.2.1,G0 s200.2.2.2.1,G0 s200.2.2.2.2.1,G0 s200.2.2.2.2.2.1,E7 s200.2.2.2.2.2.2.1,E8 s200.2.2.2.2.2.2.2.1,E9 s200.2.2.2.2.2.2.2.2.1,G0 s200.2.2.2.2.2.2.2.2.2.1,G0 s200.2.2.2.2.2.2.2.2.2.2.1,G0 s200.2.2.2.2.2.2.2.2.2.2.2.1,G0 s200.2.2.2.2.2.2.2.2.2.2.2.2]) (A_loadAggL J0 O O O O) ?_
    refine Hj (u:=.junk) (H2 (u:=.agg [E4 s200.1,OW 1014 2 Ga.av s200.2.1,G0 s200.2.2.1,G0 s200.2.2.2.1,G0 s200.2.2.2.2.1,G0 s200.2.2.2.2.2.1,E7 s200.2.2.2.2.2.2.1,E8 s200.2.2.2.2.2.2.2.1,E9 s200.2.2.2.2.2.2.2.2.1,G0 s200.2.2.2.2.2.2.2.2.2.1,G0 s200.2.2.2.2.2.2.2.2.2.2.1,G0 s200.2.2.2.2.2.2.2.2.2.2.2.1,G0 s200.2.2.2.2.2.2.2.2.2.2.2.2]) (ds:=[E4 s200.1,OW 1014 2 Ga.av s200.2.1,G0 s200.2.2.1,G0 s200.2.2.2.1,G0 s200.2.2.2.2.1,G0 s200.2.2.2.2.2.1,E7 s200.2.2.2.2.2.2.1,E8 s200.2.2.2.2.2.2.2.1,E9 s200.2.2.2.2.2.2.2.2.1,G0 s200.2.2.2.2.2.2.2.2.2.1,G0 s200.2.2.2.2.2.2.2.2.2.2.1,G0 s200.2.2.2.2.2.2.2.2.2.2.2.1,G0 s200.2.2.2.2.2.2.2.2.2.2.2.2]) tf_size_35 O O O O O O O O) ?_
    refine G8 (hK214 _ _ ?_)
    refine Gu ?_
    exact⟨[.agg [E4 s200.1,E6 s200.2.1,G0 s200.2.2.1,G0 s200.2.2.2.1,G0 s200.2.2.2.2.1,G0 s200.2.2.2.2.2.1,E7 s200.2.2.2.2.2.2.1,E8 s200.2.2.2.2.2.2.2.1,E9 s200.2.2.2.2.2.2.2.2.1,G0 s200.2.2.2.2.2.2.2.2.2.1,G0 s200.2.2.2.2.2.2.2.2.2.2.1,G0 s200.2.2.2.2.2.2.2.2.2.2.2.1,G0 s200.2.2.2.2.2.2.2.2.2.2.2.2]],[],G,O,⟨⟨_,⟨_,_,_,_,O,O,O,.inl ⟨J0,O⟩⟩,.agg ⟨.same O,.list O,.same O,.same O,.same O,.same O,.same O,.same O,.same O,.same O,.same O,.same O,.same O,G⟩⟩,G⟩,O,congrArg (fun r:Gz=>(.agg (Gz.cs r):AV)) (Option.some.inj h)⟩

def M_plan_find_1 (x:G2) (p1:Int):Option Bool:=
 some (decide (x.Gp=p1))
theorem M_plan_find_1_w (x:G2) (p1:Int) (r:Bool) (h:M_plan_find_1 x p1=some r):Pure Tryz.prog 65 [.agg (G2.cs x),.dptr [G0 p1]] (·=BL r):=by
 unfold M_plan_find_1 at h
 refine H9 [.tmp 3] Tryz.func65 O O ?_
 refine G6 fun K1 hK1=>G3 ?_
 refine JLg (.ptr 1154 0) (Q1 (u:=.agg (G2.cs x)) (cs:=[G0 x.Gp,G0 x.Slot.G5,G0 x.Slot.Tier,U8 x.Slot.Half]) 1154 O O O O O) ?_
 refine JLg (BL false) (G9 O O) ?_
 refine G8 (hK1 _ _ ?_)
 refine Gk [(1,.dptr [G0 p1]),(2,Ef x)] [] 1154 rfl rfl rfl G rfl (by exact⟨.conv (.same rfl),.ptr,G⟩) ?_
 refine G6 fun K2 hK2=>G3 ?_
 refine JLg (Ef x) (Gc J5 O O O) ?_
 refine JLg (G0 x.Gp) (Gf Gb O O O) ?_
 refine JLg (G0 p1) (Gf Gb O O O) ?_
 refine JLg (BL (decide (x.Gp=p1))) (Qb O O O) ?_
 refine JLg (BL (decide (x.Gp=p1))) (G9 O O) ?_
 refine G8 (hK2 _ _ ?_)
 refine Gu ?_
 exact⟨[BL (decide (x.Gp=p1))],[],G,O,⟨⟨_,O,.conv (.same O)⟩,G⟩,O,congrArg (fun r:Bool=>(BL r:AV)) (Option.some.inj h)⟩

def M_slices_IndexFunc_apiStowed (s:List G2) (f:G2→Option Bool):Option Int:=
 each (fun y20 i20 (s20:Unit) nx20=>
  bnd (f y20) fun r26=>
  bif r26 then
  (some (i20:Int))
  else
  (nx20 ()))
 (fun(s20:Unit)=>
  some (-1)) s 0 ()
theorem M_slices_IndexFunc_apiStowed_w (s:List G2) (f:G2→Option Bool) (f_f:FuncId) (f_c:List AV) (f_B:Hb Tryz.prog f_f=true) (f_d:Qm (fun _=>false) f_c=true) (f_w:∀ a0 q,f a0=some q→Pure Tryz.prog f_f ([.agg (G2.cs a0)]++f_c) (·=BL q)) (r:Int) (h:M_slices_IndexFunc_apiStowed s f=some r):Pure Tryz.prog 64 [E0 s,.fn f_f f_c] (·=G0 r):=by
 unfold M_slices_IndexFunc_apiStowed at h
 refine H9 [.tmp 4] Tryz.func64 O O ?_
 refine G6 fun K1 hK1=>G3 ?_
 refine JLg (G0 0) (G9 O O) ?_
 refine G8 (hK1 _ _ ?_)
 refine G6 (fun K2 hK2=>?_)
 refine G6 fun K3 hK3=>G3 ?_
 refine JLg (E0 s) (G7 O O) ?_
 refine Hs (f:=G2.av) (xs:=s) Gx O O (fun hm7=>?_) O O O
 refine JLg (G0 0) (G7 O O) ?_
 refine G8 (hK3 _ _ ?_)
 refine Gg ?_
 obtain⟨b20,kx20,hb20,hkx20,h⟩:=Hu h
 refine H7 (fun i20 (s20:Unit)=>each b20 kx20 (List.drop i20 s) i20 s20=some r) (fun i20 s20=>[(0,E0 s),(1,.fn f_f f_c),(7,Em s.length),(8,Em i20)]) (fun i20 s20=>[]) (fun i20=>s.length - i20) 0 () h ⟨⟨.same O,.same (H8 _ _ f_d),.same O,.same O,G⟩,G,O⟩ ?_
 clear h
 intro i20 s20 hi20 K20 e20
 refine G6 fun K21 hK21=>G3 ?_
 refine JLg (BL (decide ((i20:Int) < (s.length:Int)))) (Hy O O O) ?_
 refine G8 (hK21 _ _ ?_)
 refine G6 (fun K22 hK22=>?_)
 refine Gh O (fun hb=>?_) (fun hb=>?_)
 ·
  have hk20:=J9 hb
  obtain⟨y20,nx20,hy20,hn20,h⟩:=Hn hi20 hk20
  replace h:=app4 hb20 h
  refine Gj ?_
  refine hK22 _ _ ?_
  refine G6 (fun K23 hK23=>?_)
  refine Gg ?_
  refine G6 fun K24 hK24=>G3 ?_
  refine JLg (Em i20) (G7 O O) ?_
  refine JLg (Em i20) (G9 O O) ?_
  refine G8 (hK24 _ _ ?_)
  refine G6 fun K25 hK25=>G3 ?_
  refine JLg (.fn f_f f_c) (G7 O O) ?_
  refine JLg (E0 s) (G7 O O) ?_
  refine JLg (Em i20) (G7 O O) ?_
  refine JLg (Ef y20) (H0 (f:=G2.av) (xs:=s) (y:=y20) O O O Gx hy20 O) ?_
  refine JLg (.agg (G2.cs y20)) (Gi Jf O O O) ?_
  obtain⟨r26,hr26,h⟩:=Ge h
  refine JLg (BL r26) (Rk (args:=[.agg (G2.cs y20)]) (caps:=f_c) O O (f_w y20 _ hr26) f_B ⟨O,O,G⟩ f_d) ?_
  refine G8 (hK25 _ _ ?_)
  refine Gh O (fun hb=>?_) (fun hb=>?_)
  ·
   replace h:=Gv hb h
   refine G6 fun K27 hK27=>G3 ?_
   refine JLg (Em i20) (G7 O O) ?_
   refine JLg (Em i20) (G9 O O) ?_
   refine G8 (hK27 _ _ ?_)
   refine Gu ?_
   exact⟨[Em i20],[],G,O,⟨⟨_,O,.conv (.same O)⟩,G⟩,O,congrArg (fun r:Int=>(G0 r:AV)) (Option.some.inj h)⟩
  ·
   replace h:=Hp hb h
   refine Gj ?_
   refine hK23 _ _ ?_
   refine G3 ?_
   refine JLg (G0 ((i20+1:Nat):Int)) (Ht (Hc hk20 hm7) O O O) ?_
   refine JLg (G0 ((i20+1:Nat):Int)) (G7 O O) ?_
   refine G8 ?_
   exact e20 _ _ (i20+1) () (app1 hn20 h) (by omega) ⟨⟨.same rfl,.same (H8 _ _ f_d),.same rfl,.same rfl,G⟩,G,rfl⟩
 ·
  have h:=app1 hkx20 (Ho hi20 (H3 hb))
  refine Hk ?_
  refine hK2 _ _ ?_
  refine G6 fun K28 hK28=>G3 ?_
  refine JLg (G0 (-1)) (G9 O O) ?_
  refine G8 (hK28 _ _ ?_)
  refine Gu ?_
  exact⟨[G0 (-1)],[],G,O,⟨⟨_,O,.conv (.same O)⟩,G⟩,O,congrArg (fun r:Int=>(G0 r:AV)) (Option.some.inj h)⟩

def M_plan_find (l:List G2) (id_:Int):Option (Slot×Bool):=
 bnd (M_slices_IndexFunc_apiStowed l (fun z0=>M_plan_find_1 z0 id_)) fun r3=>
 bif decide (r3 < 0) then
 (some ((Slot.mk 0 0 0),false))
 else
 (Jy l r3 fun y8=>
  some (y8.Slot,true))
theorem M_plan_find_w (l:List G2) (id_:Int) (r:Slot×Bool) (h:M_plan_find l id_=some r):Pure Tryz.prog 38 [E0 l,G0 id_] (·=.tup [.agg (Slot.cs r.1),BL r.2]):=by
 unfold M_plan_find at h
 refine H9 [.cell 4 57,.tmp 5] Tryz.func38 O O ?_
 refine G6 fun K1 hK1=>G3 ?_
 refine JLg (.ptr 1117 0) (Q1 (u:=G0 id_) (cs:=[G0 id_]) 1117 O O O O O) ?_
 refine JLg (.ptr 1118 0) (Y1 1118 [G0 0,G0 0,U8 0] [.int .i64 0,.int .i64 0,.int .u8 0] tf_zero_57 ⟨.inl O,.inl O,.inl O,G⟩ O O) ?_
 refine JLg (BL false) (G9 O O) ?_
 refine G8 (hK1 _ _ ?_)
 refine Gk [(0,E0 l),(3,.dptr [G0 id_]),(4,.ptr 1118 0)] [(1118,.box 57 [G0 0,G0 0,U8 0])] 1117 rfl rfl rfl ⟨⟨_,rfl,.boxEq rfl rfl⟩,G⟩ rfl (by exact⟨.conv (.same rfl),.ptr,.conv (.same rfl),G⟩) ?_
 refine G6 fun K2 hK2=>G3 ?_
 refine JLg (E0 l) (G7 O O) ?_
 refine JLg (.fn 65 [.dptr [G0 id_]]) (R4 (cs:=[.dptr [G0 id_]]) O O) ?_
 obtain⟨r3,hr3,h⟩:=Ge h
 refine JLg (G0 r3) (H1 (args:=[E0 l,.fn 65 [.dptr [G0 id_]]]) O (M_slices_IndexFunc_apiStowed_w l (fun z0=>M_plan_find_1 z0 id_) 65 [.dptr [G0 id_]] tf_call_65 O (fun z0 q hq=>M_plan_find_1_w z0 id_ q hq) r3 hr3) tf_call_64 ⟨O,O,O,O,G⟩) ?_
 refine JLg (G0 r3) (G9 O O) ?_
 refine G8 (hK2 _ _ ?_)
 refine G6 (fun K4 hK4=>?_)
 refine G6 fun K5 hK5=>G3 ?_
 refine JLg (G0 r3) (G7 O O) ?_
 refine JLg (BL (decide (r3 < 0))) (Hy O O O) ?_
 refine G8 (hK5 _ _ ?_)
 refine Gh O (fun hb=>?_) (fun hb=>?_)
 ·
  replace h:=Gv hb h
  refine G6 fun K6 hK6=>G3 ?_
  refine JLg (.agg [G0 0,G0 0,U8 0]) (J4 (cs:=[G0 0,G0 0,U8 0]) [(0,1),(1,1),(2,1)] [G0 0,G0 0,U8 0] [.int .i64 0,.int .i64 0,.int .u8 0] tf_places_57 tf_zero_57 ⟨.inl O,.inl O,.inl O,G⟩ O O) ?_
  refine Hj (u:=.junk) (H2 (u:=.agg [G0 0,G0 0,U8 0]) (ds:=[G0 0,G0 0,U8 0]) R8 O O O O O O O O) ?_
  refine JLg (BL false) (G9 O O) ?_
  refine G8 (hK6 _ _ ?_)
  refine Gu ?_
  exact⟨[.agg [G0 0,G0 0,U8 0],BL false],[],G,O,⟨⟨_,⟨_,_,_,_,O,O,O,.inl ⟨Jp,O⟩⟩,.conv (.same O)⟩,⟨_,O,.conv (.same O)⟩,G⟩,O,congrArg (fun r:Slot×Bool=>(.tup [.agg (Slot.cs r.1),BL r.2]:AV)) (Option.some.inj h)⟩
 ·
  replace h:=Hp hb h
  refine Gj ?_
  refine hK4 _ _ ?_
  refine G6 fun K7 hK7=>G3 ?_
  refine JLg (E0 l) (G7 O O) ?_
  refine JLg (G0 r3) (G7 O O) ?_
  obtain⟨m9,y8,hm9,hy8,h⟩:=R3 h
  refine JLg (Ef y8) (H0 (f:=G2.av) (xs:=l) (y:=y8) O O O Gx hy8 hm9) ?_
  refine JLg (Eg y8.Slot) (Gc J1 O O O) ?_
  refine JLg (.agg (Slot.cs y8.Slot)) (Gi Jp O O O) ?_
  refine Hj (u:=.junk) (H2 (u:=.agg (Slot.cs y8.Slot)) (ds:=[G0 y8.Slot.G5,G0 y8.Slot.Tier,U8 y8.Slot.Half]) R8 O O O O O O O O) ?_
  refine JLg (BL true) (G9 O O) ?_
  refine G8 (hK7 _ _ ?_)
  refine Gu ?_
  exact⟨[.agg (Slot.cs y8.Slot),BL true],[],G,O,⟨⟨_,⟨_,_,_,_,O,O,O,.inl ⟨Jp,O⟩⟩,.conv (.same O)⟩,⟨_,O,.conv (.same O)⟩,G⟩,O,congrArg (fun r:Slot×Bool=>(.tup [.agg (Slot.cs r.1),BL r.2]:AV)) (Option.some.inj h)⟩

def M_ship_covers_1 (r_:Int) (p1:G5):Option Bool:=
 some (decide (r_=p1.Row))
theorem M_ship_covers_1_w (r_:Int) (p1:G5) (r:Bool) (h:M_ship_covers_1 r_ p1=some r):Pure Tryz.prog 94 [G0 r_,Ei p1] (·=BL r):=by
 unfold M_ship_covers_1 at h
 refine H9 [.tmp 3] Tryz.func94 O O ?_
 refine G6 fun K1 hK1=>G3 ?_
 refine JLg (BL false) (G9 O O) ?_
 refine G8 (hK1 _ _ ?_)
 refine G6 fun K2 hK2=>G3 ?_
 refine JLg (G0 r_) (G7 O O) ?_
 refine JLg (.dptr ((G5.cs p1).drop 1)) (Gc Y2 O O O) ?_
 refine JLg (G0 p1.Row) (Gf Gb O O O) ?_
 refine JLg (BL (decide (r_=p1.Row))) (Qb O O O) ?_
 refine JLg (BL (decide (r_=p1.Row))) (G9 O O) ?_
 refine G8 (hK2 _ _ ?_)
 refine Gu ?_
 exact⟨[BL (decide (r_=p1.Row))],[],G,O,⟨⟨_,O,.conv (.same O)⟩,G⟩,O,congrArg (fun r:Bool=>(BL r:AV)) (Option.some.inj h)⟩

def M_ship_chosen_int (l:List Int) (wanted:Int→Option Bool):Option (List Int):=
 each (fun y21 i21 (s21:(List Int)) nx21=>
  jp (fun kj24=>
   bnd (wanted y21) fun r27=>
   bif r27 then
   (need (decide ((s21.length+[(i21:Int)].length)*8≤140737488355328∧s21.length+[(i21:Int)].length≤maxLen)) <|
    kj24 (s21++[(i21:Int)]))
   else
   (kj24 s21)) fun(j24:(List Int))=>
  nx21 j24)
 (fun(s21:(List Int))=>
  some s21) l 0 []
theorem M_ship_chosen_int_w (l:List Int) (wanted:Int→Option Bool) (wanted_f:FuncId) (wanted_c:List AV) (wanted_B:Hb Tryz.prog wanted_f=true) (wanted_d:Qm (fun _=>false) wanted_c=true) (wanted_w:∀ a0 q,wanted a0=some q→Pure Tryz.prog wanted_f ([G0 a0]++wanted_c) (·=BL q)) (r:(List Int)) (h:M_ship_chosen_int l wanted=some r):Pure Tryz.prog 93 [E1 l,.fn wanted_f wanted_c] (·=E1 r):=by
 unfold M_ship_chosen_int at h
 refine H9 [.tmp 4] Tryz.func93 O O ?_
 refine G6 fun K1 hK1=>G3 ?_
 refine JLg (E1 ([]:List Int)) (Jj 1 O O) ?_
 refine G8 (hK1 _ _ ?_)
 refine G6 fun K2 hK2=>G3 ?_
 refine JLg (OW 1176 1 G0 ([]:List Int)) (Yx 1176 3 1 O O O) ?_
 refine G8 (hK2 _ _ ?_)
 refine G6 (fun K3 hK3=>?_)
 refine G6 fun K4 hK4=>G3 ?_
 refine JLg (E1 l) (G7 O O) ?_
 refine Hs (f:=G0) (xs:=l) Gy O O (fun hm9=>?_) O O O
 refine JLg (G0 0) (G7 O O) ?_
 refine G8 (hK4 _ _ ?_)
 refine Gg ?_
 obtain⟨b21,kx21,hb21,hkx21,h⟩:=Hu h
 refine H7 (fun i21 (s21:(List Int))=>each b21 kx21 (List.drop i21 l) i21 s21=some r) (fun i21 s21=>[(1,.fn wanted_f wanted_c),(5,OW 1176 1 G0 s21),(8,E1 l),(9,Em l.length),(10,Em i21)]) (fun i21 s21=>[(1176,.spare 3 1 s21.length s21.length)]) (fun i21=>l.length - i21) 0 [] h ⟨⟨.same (H8 _ _ wanted_d),.same O,.same O,.same O,.same O,G⟩,⟨⟨_,O,.same⟩,G⟩,O⟩ ?_
 clear h
 intro i21 s21 hi21 K21 e21
 refine G6 fun K22 hK22=>G3 ?_
 refine JLg (BL (decide ((i21:Int) < (l.length:Int)))) (Hy O O O) ?_
 refine G8 (hK22 _ _ ?_)
 refine G6 (fun K23 hK23=>?_)
 refine Gh O (fun hb=>?_) (fun hb=>?_)
 ·
  have hk21:=J9 hb
  obtain⟨y21,nx21,hy21,hn21,h⟩:=Hn hi21 hk21
  replace h:=app4 hb21 h
  refine Gj ?_
  refine hK23 _ _ ?_
  obtain⟨kj24,hkj24,h⟩:=Qd h
  refine Jq (fun j24:(List Int)=>kj24 j24=some r) (fun j24=>[(1,.fn wanted_f wanted_c),(5,OW 1176 1 G0 j24),(8,E1 l),(9,Em l.length),(10,Em i21)]) (fun j24=>[(1176,.spare 3 1 j24.length j24.length)]) (fun Kj24 ej24=>?_) ?_
  ·
   refine Gg ?_
   refine G6 fun K25 hK25=>G3 ?_
   refine JLg (Em i21) (G7 O O) ?_
   refine JLg (.dptr [G0 y21]) (H0 (f:=G0) (xs:=l) (y:=y21) O O O Gy hy21 O) ?_
   refine JLg (G0 y21) (Gf Gb O O O) ?_
   refine JLg (Em i21) (G9 O O) ?_
   refine JLg (G0 y21) (G9 O O) ?_
   refine G8 (hK25 _ _ ?_)
   refine G6 fun K26 hK26=>G3 ?_
   refine JLg (.fn wanted_f wanted_c) (G7 O O) ?_
   refine JLg (G0 y21) (G7 O O) ?_
   obtain⟨r27,hr27,h⟩:=Ge h
   refine JLg (BL r27) (Rk (args:=[G0 y21]) (caps:=wanted_c) O O (wanted_w y21 _ hr27) wanted_B ⟨O,O,G⟩ wanted_d) ?_
   refine G8 (hK26 _ _ ?_)
   refine Gh O (fun hb=>?_) (fun hb=>?_)
   ·
    replace h:=Gv hb h
    refine G3 ?_
    refine JLg (OW 1176 1 G0 s21) (G7 O O) ?_
    refine JLg (Em i21) (G7 O O) ?_
    refine JLg (E1 [(i21:Int)]) (Hd (xs:=[Em i21]) O ⟨O,O,G⟩ Gy Rh O O O O) ?_
    obtain⟨ha28,h⟩:=Je h
    refine JLg (OW 1176 1 G0 (s21++[(i21:Int)])) (Qu (f:=G0) (xs:=s21) (ys:=[(i21:Int)]) O O O O Gy tf_elem_3 ha28 (fun _=>O) (.inl O) O) ?_
    refine JLg (OW 1176 1 G0 (s21++[(i21:Int)])) (G9 O O) ?_
    refine G8 ?_
    exact ej24 _ _ (s21++[(i21:Int)]) h ⟨⟨.same (H8 _ _ wanted_d),.same O,.same O,.same O,.same O,G⟩,⟨⟨_,O,.same⟩,G⟩,O⟩
   ·
    replace h:=Hp hb h
    refine Gj ?_
    exact ej24 _ _ s21 h ⟨⟨.same (H8 _ _ wanted_d),.same O,.same O,.same O,.same O,G⟩,⟨⟨_,O,.same⟩,G⟩,O⟩
  ·intro j24 h
   replace h:=app1 hkj24 h
   refine G3 ?_
   refine JLg (G0 ((i21+1:Nat):Int)) (Ht (Hc hk21 hm9) O O O) ?_
   refine JLg (G0 ((i21+1:Nat):Int)) (G7 O O) ?_
   refine G8 ?_
   exact e21 _ _ (i21+1) j24 (app1 hn21 h) (by omega) ⟨⟨.same (H8 _ _ wanted_d),.same rfl,.same rfl,.same rfl,.same rfl,G⟩,⟨⟨_,rfl,.same⟩,G⟩,rfl⟩
 ·
  have h:=app1 hkx21 (Ho hi21 (H3 hb))
  refine Hk ?_
  refine hK3 _ _ ?_
  refine G6 fun K29 hK29=>G3 ?_
  refine JLg (OW 1176 1 G0 s21) (G7 O O) ?_
  refine JLg (OW 1176 1 G0 s21) (G9 O O) ?_
  refine G8 (hK29 _ _ ?_)
  refine Gu ?_
  exact⟨[E1 s21],[],G,O,⟨⟨_,O,.conv (.list O)⟩,G⟩,O,congrArg (fun r:(List Int)=>(E1 r:AV)) (Option.some.inj h)⟩

def M_ship_covers (x:Ga) (c:G5):Option Bool:=
 bnd (bif decide (x.Bay=c.Bay) then M_ship_chosen_int x.Rows (fun z0=>M_ship_covers_1 z0 c) else some default) fun r3=>
 some ((decide (x.Bay=c.Bay))&&(decide (0 < (r3.length:Int))))
theorem M_ship_covers_w (x:Ga) (c:G5) (r:Bool) (h:M_ship_covers x c=some r):Pure Tryz.prog 76 [.agg [G0 x.Bay,E1 x.Rows],.agg (G5.cs c)] (·=BL r):=by
 unfold M_ship_covers at h
 refine H9 [.tmp 4] Tryz.func76 O O ?_
 refine G6 fun K1 hK1=>G3 ?_
 refine JLg (.ptr 1162 0) (Q1 (u:=.agg [G0 x.Bay,E1 x.Rows]) (cs:=[G0 x.Bay,E1 x.Rows]) 1162 O O O O O) ?_
 refine JLg (.ptr 1163 0) (Q1 (u:=.agg (G5.cs c)) (cs:=(G5.cs c)) 1163 O O O O O) ?_
 refine JLg (BL false) (G9 O O) ?_
 refine G8 (hK1 _ _ ?_)
 refine Gk [(2,.dptr [G0 x.Bay,E1 x.Rows]),(3,.ptr 1163 0)] [(1163,.box 70 (G5.cs c))] 1162 rfl rfl rfl ⟨⟨_,rfl,.boxEq rfl rfl⟩,G⟩ rfl (by exact⟨.ptr,.conv (.same rfl),G⟩) ?_
 refine Gk [(2,.dptr [G0 x.Bay,E1 x.Rows]),(3,Ei c)] [] 1163 rfl rfl rfl G rfl (by exact⟨.conv (.same rfl),.ptr,G⟩) ?_
 refine G6 fun K2 hK2=>G3 ?_
 refine JLg (.dptr [G0 x.Bay,E1 x.Rows]) (Gc Y8 O O O) ?_
 refine JLg (G0 x.Bay) (Gf Gb O O O) ?_
 refine JLg (Ei c) (Gc R1 O O O) ?_
 refine JLg (G0 c.Bay) (Gf Gb O O O) ?_
 refine JLg (BL (decide (x.Bay=c.Bay))) (Qb O O O) ?_
 refine JLg (BL (decide (x.Bay=c.Bay))) (G7 O O) ?_
 refine Gd (u:=.dptr [E1 x.Rows]) [] O O O .sct G (fun hc=>Gc Yf O O O) ?_
 refine Gd (u:=E1 x.Rows) [(11,.dptr [E1 x.Rows])] O O O .sct ⟨.all id,G⟩ (fun hc=>Gf Qt O O O) ?_
 refine Gd (u:=.fn 94 [.dptr (G5.cs c)]) [] O O O .sct G (fun hc=>R4 (cs:=[.dptr (G5.cs c)]) O O) ?_
 obtain⟨r3,hr3,h⟩:=Ge h
 refine Gd (u:=E1 r3) [(12,E1 x.Rows),(13,.fn 94 [.dptr (G5.cs c)])] O O O .sct ⟨.all id,.all id,G⟩ (fun hc=>H1 (args:=[E1 x.Rows,.fn 94 [.dptr (G5.cs c)]]) O (M_ship_chosen_int_w x.Rows (fun z0=>M_ship_covers_1 z0 c) 94 [.dptr (G5.cs c)] tf_call_94 O (fun z0 q hq=>M_ship_covers_1_w z0 c q hq) r3 (Gv hc hr3)) tf_call_93 ⟨O,O,O,O,G⟩) ?_
 refine Gd (u:=Em r3.length) [(14,E1 r3)] O O O .sct ⟨.all id,G⟩ (fun hc=>Yz (f:=G0) (xs:=r3) Gy O O) ?_
 refine Gd (u:=BL (decide (0 < (r3.length:Int)))) [(15,Em r3.length)] O O O .sct ⟨.all id,G⟩ (fun hc=>Yd O O O) ?_
 refine JLg (BL ((decide (x.Bay=c.Bay))&&(decide (0 < (r3.length:Int))))) (Qr O O O O) ?_
 refine JLg (BL ((decide (x.Bay=c.Bay))&&(decide (0 < (r3.length:Int))))) (G9 O O) ?_
 refine G8 (hK2 _ _ ?_)
 refine Gu ?_
 exact⟨[BL ((decide (x.Bay=c.Bay))&&(decide (0 < (r3.length:Int))))],[],G,O,⟨⟨_,O,.conv (.same O)⟩,G⟩,O,congrArg (fun r:Bool=>(BL r:AV)) (Option.some.inj h)⟩
end
end Go.Proofs.YtkfhfoljfbjknaaGreat
