/-
 Models of functions of the program,and that they return what the models say.
-/
import Derived.Test.YtknalejjpofoaaaGreatXVa
set_option maxRecDepth 100000
set_option maxHeartbeats 1000000
set_option linter.unusedVariables false
set_option linter.unusedSimpArgs false
namespace Go.Proofs.YtknalejjpofoaaaGreat
open Go.RowKit
noncomputable section
open XAF
open XCF
open XVF

def Y5 (F:Nat) (s:Gw) (boxes:List Gd) (home:H0 Int Int) (calls:Int):Option (H4e×Int×(H0 Int Int)):=
 need (decide (calls≤9223372036854775807)) <|
 upto (fun i6 (s6:(List (List Stowed))×(List (List Int))×(H0 Int Slot)) nx6=>
  need (decide (10≤9223372036854775807)) <|
  upto (fun i13 (s13:(List Stowed)) nx13=>
   each (fun y42 i42 (s42:(List Stowed)) nx42=>
    jp (fun kj45=>
     bnd (some (H0.get s6.2.2 y42.ID (Slot.mk 0 0 0))) fun v48=>
     bif ((((H0.has s6.2.2 y42.ID)&&(decide (v48.Tier=(i13:Int))))&&(decide (y42.Load < (i6:Int))))&&(decide ((i6:Int) < y42.Discharge))) then
     (bnd (Rq s42 (Stowed.mk y42.ID v48)) fun r51=>
      bnd (Re s boxes r51) fun r53=>
      bif r53 then
      (kj45 r51)
      else
      (kj45 s42))
     else
     (kj45 s42)) fun(j45:(List Stowed))=>
    nx42 j45)
   (fun(s42:(List Stowed))=>
    nx13 s42) boxes 0 s13)
  (fun(s13:(List Stowed))=>
   each (fun y56 i56 (s56:(List Stowed)) nx56=>
    jp (fun kj59=>
     bnd (bif (!((decide ((i6:Int) < y56.Load))||(decide (y56.Discharge≤(i6:Int))))) then M_twistlocklaw23_holds s56 y56.ID else some default) fun r63=>
     bif (((decide ((i6:Int) < y56.Load))||(decide (y56.Discharge≤(i6:Int))))||r63) then
     (kj59 s56)
     else
     (loop (fun nx67 (s67:(List Stowed)×Bool×Int)=>
       bif ((decide (s67.2.2 < (s.Columns.length:Int)))&&(!s67.2.1)) then
       (jp (fun kj70=>
         bnd (H45 s y56.Size) fun r72=>
         each (fun y99 i99 (s99:(List Stowed)×Bool) nx99=>
          bnd (Rq s99.1 (Stowed.mk y56.ID y99)) fun r105=>
          bnd (some (H0.get home y56.ID 0)) fun v107=>
          Rc (v107+s67.2.2) fun v108=>
          bnd (Hb1 v108 (s.Columns.length:Int)) fun v109=>
          bnd (bif decide (y99.G4=v109) then Re s boxes r105 else some default) fun r110=>
          bif ((decide (y99.G4=v109))&&r110) then
          (kj70 (r105,true))
          else
          (nx99 (s99.1,s99.2)))
         (fun(s99:(List Stowed)×Bool)=>
          kj70 (s99.1,s99.2)) r72 0 (s67.1,s67.2.1)) fun(j70:(List Stowed)×Bool)=>
        Rc (s67.2.2+1) fun v112=>
        nx67 (j70.1,j70.2,v112))
       else
       (bif (!s67.2.1) then
        (some ((H4e.mk [] []),y56.ID,home))
        else
        (kj59 s67.1))) F (s56,false,0))) fun(j59:(List Stowed))=>
    nx56 j59)
   (fun(s56:(List Stowed))=>
    each (fun y138 i138 (s138:(H0 Int Slot)) nx138=>
     nx138 (H0.put s138 y138.Gd y138.Slot))
    (fun(s138:(H0 Int Slot))=>
     need (decide ((s6.1.length+[s56].length)*24≤140737488355328∧s6.1.length+[s56].length≤maxLen)) <|
     nx6 ((s6.1++[s56]),s6.2.1,s138)) s56 0 (H0.empty:H0 Int Slot)) boxes 0 s13) (10:Int).toNat 0 [])
 (fun(s6:(List (List Stowed))×(List (List Int))×(H0 Int Slot))=>
  some ((H4e.mk s6.1 s6.2.1),0,home)) calls.toNat 0 ([],[],(H0.empty:H0 Int Slot))
abbrev Ey:List AV:=[LS 1 (E1) ([]:List (List Stowed)),LS 1 (E2) ([]:List (List Int))]
theorem Gb4 (F:Nat) (s:Gw) (boxes:List Gd) (home:H0 Int Int) (calls:Int) (r:H4e×Int×(H0 Int Int)) (h:Y5 F s boxes home calls=some r):Jn Ep 11 [.agg (Gw.cs s),E3 boxes,.mp 1021,G0 calls] [(1021,MP 70 (fun n:Int=>Value.int .i64 n) G0 home)] (fun av L'=>av=.tup [.agg [LS 1 (E1) r.1.States,LS 1 (E2) r.1.Water],G0 r.2.1]∧L'=[(1021,MP 70 (fun n:Int=>Value.int .i64 n) G0 r.2.2)]):=by
 unfold Y5 at h
 refine Jq [1021] [.cell 8 41,.tmp 9] Tryz.func11 O O (G2e O) (Jr fun hK1=>(JLh (.ptr 1037 0) (Jm (cs:=(Gw.cs s)) 1037 O O O O O) O (JLh (.ptr 1038 0) (G54 1038 Ey [.slice none 0 0,.slice none 0 0] H23 ⟨.inr ⟨_,O,O⟩,.inr ⟨_,O,O⟩,ø⟩ O O) O (Yb (G0 0) O (G7 (hK1 ?_))))))
 refine Gq [(1,E3 boxes),(2,.mp 1021),(3,G0 calls),(4,Ef s),(8,.ptr 1038 0)] [(1021,MP 70 (fun n:Int=>Value.int .i64 n) G0 home),(1038,.box 41 Ey)] 1037 rfl rfl rfl ⟨⟨_,rfl,.map⟩,⟨_,rfl,.boxEq rfl rfl⟩,ø⟩ rfl (by repeat' (first | exact .ptr | constructor)) (Jr fun hK2=>(JLh (.ptr 1039 0) (G54 1039 [.sc (.slice none 0 0),LS 1 (E2) ([]:List (List Int))] [.slice none 0 0,.slice none 0 0] H23 ⟨.inl O,.inr ⟨_,O,O⟩,ø⟩ O O) O ?_))
 refine H49 1039 0 1047 48 1 O O O (cs':=[OW 1047 1 (E1) ([]:List (List Stowed)),LS 1 (E2) ([]:List (List Int))]) O (G7 (hK2 (Jr fun hK3=>(JLh (.mp 1045) (Ge0 1045 (fun n:Int=>Value.int .i64 n) Slot.av O O) O (Yb (.mp 1045) O (G7 (hK3 (Js fun hK4=>Jr fun hK5=>(Yb (G0 0) O (G7 (hK5 (Gj ?_))))))))))))
 obtain⟨hx6,h⟩:=Jd h
 obtain⟨b6,kx6,hb6,hkx6,h⟩:=H52 h
 refine Hb (fun i6 (s6:(List (List Stowed))×(List (List Int))×(H0 Int Slot))=>upto b6 kx6 (calls.toNat - i6) i6 s6=some r) (fun i6 s6=>[(1,E3 boxes),(2,.mp 1021),(3,G0 calls),(4,Ef s),(8,.ptr 1038 0),(10,.ptr 1039 0),(11,.mp 1045),(12,Eo i6)]) (fun i6 s6=>[(1021,MP 70 (fun n:Int=>Value.int .i64 n) G0 home),(1047,.spare 48 1 s6.1.length s6.1.length),(1045,MP 97 (fun n:Int=>Value.int .i64 n) Slot.av s6.2.2),(1038,.box 41 Ey),(1039,.box 41 [OW 1047 1 (E1) s6.1,LS 1 (E2) s6.2.1])]) (fun i6=>calls.toNat - i6) 0 ([],[],(H0.empty:H0 Int Slot)) h ⟨(.sm O O),⟨⟨_,rfl,.map⟩,⟨_,rfl,.same⟩,⟨_,rfl,.map⟩,⟨_,rfl,.boxL rfl (.sm O O)⟩,⟨_,rfl,.boxL rfl (.sm O O)⟩,ø⟩,rfl⟩ ?_
 clear h
 intro i6 s6 hi6 K6 e6
 refine Js fun hK7=>Jr fun hK8=>(Yb (Eo i6) O (Yb (G0 calls) O (JLh (BL (decide ((i6:Int) < calls))) (J0 O O O) O (G7 (hK8 (Gf O (fun hb=>?_) (fun hb=>?_)))))))
 ·
  have hk6:=Gf4 hb
  obtain⟨nx6,hn6,h⟩:=Gee hi6 hk6
  replace h:=app3 hb6 h
  refine Gi (hK7 (Js fun hK9=>Gj (Jr fun hK10=>(JLh (E1 ([]:List Stowed)) (Hf 4 O O) O (G7 (hK10 (Js fun hK11=>Jr fun hK12=>(Yb (G0 0) O (G7 (hK12 (Gj ?_)))))))))))
  obtain⟨hx13,h⟩:=Jd h
  obtain⟨b13,kx13,hb13,hkx13,h⟩:=H52 h
  refine Hb (fun i13 (s13:(List Stowed))=>upto b13 kx13 ((10:Int).toNat - i13) i13 s13=some r) (fun i13 s13=>[(1,E3 boxes),(2,.mp 1021),(3,G0 calls),(4,Ef s),(8,.ptr 1038 0),(10,.ptr 1039 0),(11,.mp 1045),(12,Eo i6),(13,E1 s13),(14,Eo i13)]) (fun i13 s13=>[(1021,MP 70 (fun n:Int=>Value.int .i64 n) G0 home),(1047,.spare 48 1 s6.1.length s6.1.length),(1045,MP 97 (fun n:Int=>Value.int .i64 n) Slot.av s6.2.2),(1038,.box 41 Ey),(1039,.box 41 [OW 1047 1 (E1) s6.1,LS 1 (E2) s6.2.1])]) (fun i13=>(10:Int).toNat - i13) 0 [] h ⟨(.sm O O),⟨⟨_,rfl,.map⟩,⟨_,rfl,.same⟩,⟨_,rfl,.map⟩,⟨_,rfl,.boxL rfl (.sm O O)⟩,⟨_,rfl,.boxL rfl (.sm O O)⟩,ø⟩,rfl⟩ ?_
  clear h
  intro i13 s13 hi13 K13 e13
  refine Js fun hK14=>Jr fun hK15=>(Yb (Eo i13) O (JLh (BL (decide ((i13:Int) < 10))) (J0 O O O) O (G7 (hK15 (Gf O (fun hb=>?_) (fun hb=>?_))))))
  ·
   have hk13:=Gf4 hb
   obtain⟨nx13,hn13,h⟩:=Gee hi13 hk13
   replace h:=app3 hb13 h
   refine Gi (hK14 (Js fun hK16=>Gj (Jr fun hK17=>(Yb (E3 boxes) O (JLl Q4 O O O fun hm40=>(Yb (G0 0) O (G7 (hK17 (Gj ?_)))))))))
   obtain⟨b42,kx42,hb42,hkx42,h⟩:=J2 h
   refine Hb (fun i42 (s42:(List Stowed))=>each b42 kx42 (List.drop i42 boxes) i42 s42=some r) (fun i42 s42=>[(1,E3 boxes),(2,.mp 1021),(3,G0 calls),(4,Ef s),(8,.ptr 1038 0),(10,.ptr 1039 0),(11,.mp 1045),(12,Eo i6),(13,E1 s42),(14,Eo i13),(39,E3 boxes),(40,Eo boxes.length),(41,Eo i42)]) (fun i42 s42=>[(1021,MP 70 (fun n:Int=>Value.int .i64 n) G0 home),(1047,.spare 48 1 s6.1.length s6.1.length),(1045,MP 97 (fun n:Int=>Value.int .i64 n) Slot.av s6.2.2),(1038,.box 41 Ey),(1039,.box 41 [OW 1047 1 (E1) s6.1,LS 1 (E2) s6.2.1])]) (fun i42=>boxes.length - i42) 0 s13 h ⟨(.sm O O),⟨⟨_,rfl,.map⟩,⟨_,rfl,.same⟩,⟨_,rfl,.map⟩,⟨_,rfl,.boxL rfl (.sm O O)⟩,⟨_,rfl,.boxL rfl (.sm O O)⟩,ø⟩,rfl⟩ ?_
   clear h
   intro i42 s42 hi42 K42 e42
   refine Jr fun hK43=>(JLh (BL (decide ((i42:Int) < (boxes.length:Int)))) (J0 O O O) O (G7 (hK43 (Js fun hK44=>Gf O (fun hb=>?_) (fun hb=>?_)))))
   ·
    have hk42:=Jk hb
    obtain⟨y42,nx42,hy42,hn42,h⟩:=Hs hi42 hk42
    replace h:=Y4 hb42 h
    refine Gi (hK44 ?_)
    obtain⟨kj45,hkj45,h⟩:=Qo h
    refine Jx (fun j45:(List Stowed)=>kj45 j45=some r) (fun j45=>[(1,E3 boxes),(2,.mp 1021),(3,G0 calls),(4,Ef s),(8,.ptr 1038 0),(10,.ptr 1039 0),(11,.mp 1045),(12,Eo i6),(13,E1 j45),(14,Eo i13),(39,E3 boxes),(40,Eo boxes.length),(41,Eo i42)]) (fun j45=>[(1021,MP 70 (fun n:Int=>Value.int .i64 n) G0 home),(1047,.spare 48 1 s6.1.length s6.1.length),(1045,MP 97 (fun n:Int=>Value.int .i64 n) Slot.av s6.2.2),(1038,.box 41 Ey),(1039,.box 41 [OW 1047 1 (E1) s6.1,LS 1 (E2) s6.2.1])]) (fun Kj45 ej45=>?_) ?_
    ·
     refine Gj (Jr fun hK46=>(JLh (Eh y42) (H3 (f:=Gd.av) (xs:=boxes) (y:=y42) O O O Q4 hy42 O) O (JLh (.agg (Gd.cs y42)) (Gg G08 O O O) O (JLh (.ptr 1040 0) (Hx 1040 9 Rz O O) O (Hw (u:=.junk) (Hd (u:=.agg (Gd.cs y42)) (ds:=(Gd.cs y42)) Zo O O O O O O O O) (G7 (hK46 ?_)))))))
     refine Gq [(1,E3 boxes),(2,.mp 1021),(3,G0 calls),(4,Ef s),(8,.ptr 1038 0),(10,.ptr 1039 0),(11,.mp 1045),(12,Eo i6),(13,E1 s42),(14,Eo i13),(16,Eh y42),(39,E3 boxes),(40,Eo boxes.length),(41,Eo i42)] [(1021,MP 70 (fun n:Int=>Value.int .i64 n) G0 home),(1047,.spare 48 1 s6.1.length s6.1.length),(1045,MP 97 (fun n:Int=>Value.int .i64 n) Slot.av s6.2.2),(1038,.box 41 Ey),(1039,.box 41 [OW 1047 1 (E1) s6.1,LS 1 (E2) s6.2.1])] 1040 rfl rfl rfl ⟨⟨_,rfl,.map⟩,⟨_,rfl,.same⟩,⟨_,rfl,.map⟩,⟨_,rfl,.boxEq rfl rfl⟩,⟨_,rfl,.boxEq rfl rfl⟩,ø⟩ rfl (by repeat' (first | exact .ptr | constructor)) ?_
     refine Jr fun hK47=>(Yb (.mp 1045) O (JLh (Eh y42) (Ga Qf O O O) O (JLh (G0 y42.ID) (Gh Gb O O O) O ?_)))
     obtain⟨v48,hv48,h⟩:=Ge h
     refine JLh (.tup [.agg (Slot.cs v48),BL (H0.has s6.2.2 y42.ID)]) (((Option.some.inj hv48) ▸ Q41 (av:=Slot.av) (m:=s6.2.2) (a:=y42.ID) (Slot.mk 0 0 0) (.agg #[E0,E0,.int .u8 0]) O O O O tk_3 Q52 tf_zv_54 O)) O (Yb (.tup [.agg (Slot.cs v48),BL (H0.has s6.2.2 y42.ID)]) O (JLh (.agg (Slot.cs v48)) (Hk O O O) O (JLh (BL (H0.has s6.2.2 y42.ID)) (Hk O O O) O (JLh (.ptr 1041 0) (Hx 1041 3 G17 O O) O (Hw (u:=.junk) (Hd (u:=.agg (Slot.cs v48)) (ds:=[G0 v48.G4,G0 v48.Tier,U8 v48.Half]) G44 O O O O O O O O) (Yb (BL (H0.has s6.2.2 y42.ID)) O (G7 (hK47 ?_))))))))
     refine Gq [(1,E3 boxes),(2,.mp 1021),(3,G0 calls),(4,Ef s),(8,.ptr 1038 0),(10,.ptr 1039 0),(11,.mp 1045),(12,Eo i6),(13,E1 s42),(14,Eo i13),(16,Eh y42),(17,Ek v48),(18,BL (H0.has s6.2.2 y42.ID)),(39,E3 boxes),(40,Eo boxes.length),(41,Eo i42)] [(1021,MP 70 (fun n:Int=>Value.int .i64 n) G0 home),(1047,.spare 48 1 s6.1.length s6.1.length),(1045,MP 97 (fun n:Int=>Value.int .i64 n) Slot.av s6.2.2),(1038,.box 41 Ey),(1039,.box 41 [OW 1047 1 (E1) s6.1,LS 1 (E2) s6.2.1])] 1041 rfl rfl rfl ⟨⟨_,rfl,.map⟩,⟨_,rfl,.same⟩,⟨_,rfl,.map⟩,⟨_,rfl,.boxEq rfl rfl⟩,⟨_,rfl,.boxEq rfl rfl⟩,ø⟩ rfl (by repeat' (first | exact .ptr | constructor)) ?_
     refine Jr fun hK49=>(Yb (BL (H0.has s6.2.2 y42.ID)) O (Yb (BL (H0.has s6.2.2 y42.ID)) O (JLo (.dptr [G0 v48.Tier,U8 v48.Half]) [] O .sct ø (fun hc=>Ga Qi O O O) O (JLo (G0 v48.Tier) [54] O .sct ⟨Ua,ø⟩ (fun hc=>Gh Gb O O O) O (JLo (Eo i13) [] O .sct ø (fun hc=>G6 O O) O (JLo (BL (decide (v48.Tier=(i13:Int)))) [55,56] O .sct ⟨Ua,Ua,ø⟩ (fun hc=>Jz O O O) O (JLh (BL ((H0.has s6.2.2 y42.ID)&&(decide (v48.Tier=(i13:Int))))) (Qr O O O O) O (Yb (BL ((H0.has s6.2.2 y42.ID)&&(decide (v48.Tier=(i13:Int))))) O (JLo (.dptr ((Gd.cs y42).drop 5)) [] O .sct ø (fun hc=>Ga G02 O O O) O (JLo (G0 y42.Load) [60] O .sct ⟨Ua,ø⟩ (fun hc=>Gh Gb O O O) O (JLo (Eo i6) [] O .sct ø (fun hc=>G6 O O) O (JLo (BL (decide (y42.Load < (i6:Int)))) [61,62] O .sct ⟨Ua,Ua,ø⟩ (fun hc=>J0 O O O) O (JLh (BL (((H0.has s6.2.2 y42.ID)&&(decide (v48.Tier=(i13:Int))))&&(decide (y42.Load < (i6:Int))))) (Qr O O O O) O ?_)))))))))))))
     refine Yb (BL (((H0.has s6.2.2 y42.ID)&&(decide (v48.Tier=(i13:Int))))&&(decide (y42.Load < (i6:Int))))) O (JLo (Eo i6) [] O .sct ø (fun hc=>G6 O O) O (JLo (.dptr ((Gd.cs y42).drop 6)) [] O .sct ø (fun hc=>Ga G27 O O O) O (JLo (G0 y42.Discharge) [67] O .sct ⟨Ua,ø⟩ (fun hc=>Gh Gb O O O) O (JLo (BL (decide ((i6:Int) < y42.Discharge))) [66,68] O .sct ⟨Ua,Ua,ø⟩ (fun hc=>J0 O O O) O (JLh (BL ((((H0.has s6.2.2 y42.ID)&&(decide (v48.Tier=(i13:Int))))&&(decide (y42.Load < (i6:Int))))&&(decide ((i6:Int) < y42.Discharge)))) (Qr O O O O) O (G7 (hK49 (JCc O h (fun h hb=>?_) (fun h hb=>?_)))))))))
     ·
      refine Jr fun hK50=>(Yb (E1 s42) O (JLh (Eh y42) (Ga Qf O O O) O (JLh (G0 y42.ID) (Gh Gb O O O) O (JLh (.agg (Slot.cs v48)) (Gg Jh O O O) O (JLh (.agg [G0 y42.ID,G0 v48.G4,G0 v48.Tier,U8 v48.Half]) (J3 (cs:=[G0 y42.ID,G0 v48.G4,G0 v48.Tier,U8 v48.Half]) [(0,1),(1,3)] [G0 0,G0 0,G0 0,U8 0] [E0,E0,E0,.int .u8 0] Gb8 Gd2 ⟨.inl O,.inl O,.inl O,.inl O,ø⟩ O O) O ?_)))))
      obtain⟨r51,hr51,h⟩:=Ge h
      refine JLh (E1 r51) (Gv O (Gab s42 (Stowed.mk y42.ID v48) r51 hr51) Jfc ⟨O,O,O,O,ø⟩) O (Yb (E1 r51) O (G7 (hK50 (Jr fun hK52=>(JLh (.agg (Gw.cs s)) (Gg Ho O O O) O (Yb (E3 boxes) O (Yb (E1 r51) O ?_)))))))
      obtain⟨r53,hr53,h⟩:=Ge h
      refine JLh (BL r53) (Gv O (G35 s boxes r51 r53 hr53) Gd6 ⟨O,O,O,O,O,O,ø⟩) O (G7 (hK52 (JCc O h (fun h hb=>?_) (fun h hb=>?_))))
      ·
       refine G3 (Yb (E1 r51) O (Yb (E1 r51) O (G7 (ej45 _ _ r51 h ⟨(.sm O O),⟨⟨_,rfl,.map⟩,⟨_,rfl,.same⟩,⟨_,rfl,.map⟩,⟨_,rfl,.boxL rfl (.sm O O)⟩,⟨_,rfl,.boxL rfl (.sm O O)⟩,ø⟩,rfl⟩))))
      ·
       refine Gi (ej45 _ _ s42 h ⟨(.sm O O),⟨⟨_,rfl,.map⟩,⟨_,rfl,.same⟩,⟨_,rfl,.map⟩,⟨_,rfl,.boxL rfl (.sm O O)⟩,⟨_,rfl,.boxL rfl (.sm O O)⟩,ø⟩,rfl⟩)
     ·
      refine Gi (ej45 _ _ s42 h ⟨(.sm O O),⟨⟨_,rfl,.map⟩,⟨_,rfl,.same⟩,⟨_,rfl,.map⟩,⟨_,rfl,.boxL rfl (.sm O O)⟩,⟨_,rfl,.boxL rfl (.sm O O)⟩,ø⟩,rfl⟩)
    ·intro j45 h
     replace h:=app1 hkj45 h
     refine G3 (JLh (G0 ((i42+1:Nat):Int)) (Hu (Hj hk42 hm40) O O O) O (Yb (G0 ((i42+1:Nat):Int)) O (G7 (e42 _ _ (i42+1) j45 (app1 hn42 h) (by omega) ⟨(.sm O O),⟨⟨_,rfl,.map⟩,⟨_,rfl,.same⟩,⟨_,rfl,.map⟩,⟨_,rfl,.boxL rfl (.sm O O)⟩,⟨_,rfl,.boxL rfl (.sm O O)⟩,ø⟩,rfl⟩))))
   ·
    have h:=app1 hkx42 (Ht hi42 (Ha hb))
    refine Hm (hK16 (G3 (Yb (Eo i13) O (JLh (G0 ((i13+1:Nat):Int)) (Hu (Hj hk13 (Ga3 hx13)) O O O) O (Yb (G0 ((i13+1:Nat):Int)) O (G7 (e13 _ _ (i13+1) s42 (app1 hn13 h) (by omega) ⟨(.sm O O),⟨⟨_,rfl,.map⟩,⟨_,rfl,.same⟩,⟨_,rfl,.map⟩,⟨_,rfl,.boxL rfl (.sm O O)⟩,⟨_,rfl,.boxL rfl (.sm O O)⟩,ø⟩,rfl⟩)))))))
  ·
   have h:=app1 hkx13 (Gef hi13 (G1c hb))
   refine Hm (hK11 (Js fun hK54=>Jr fun hK55=>(Yb (E3 boxes) O (JLl Q4 O O O fun hm84=>(Yb (G0 0) O (G7 (hK55 (Gj ?_))))))))
   obtain⟨b56,kx56,hb56,hkx56,h⟩:=J2 h
   refine Hb (fun i56 (s56:(List Stowed))=>each b56 kx56 (List.drop i56 boxes) i56 s56=some r) (fun i56 s56=>[(1,E3 boxes),(2,.mp 1021),(3,G0 calls),(4,Ef s),(8,.ptr 1038 0),(10,.ptr 1039 0),(12,Eo i6),(13,E1 s56),(83,E3 boxes),(84,Eo boxes.length),(85,Eo i56)]) (fun i56 s56=>[(1021,MP 70 (fun n:Int=>Value.int .i64 n) G0 home),(1047,.spare 48 1 s6.1.length s6.1.length),(1045,MP 97 (fun n:Int=>Value.int .i64 n) Slot.av s6.2.2),(1038,.box 41 Ey),(1039,.box 41 [OW 1047 1 (E1) s6.1,LS 1 (E2) s6.2.1])]) (fun i56=>boxes.length - i56) 0 s13 h ⟨(.sm O O),⟨⟨_,rfl,.map⟩,⟨_,rfl,.same⟩,⟨_,rfl,.map⟩,⟨_,rfl,.boxL rfl (.sm O O)⟩,⟨_,rfl,.boxL rfl (.sm O O)⟩,ø⟩,rfl⟩ ?_
   clear h
   intro i56 s56 hi56 K56 e56
   refine Jr fun hK57=>(JLh (BL (decide ((i56:Int) < (boxes.length:Int)))) (J0 O O O) O (G7 (hK57 (Js fun hK58=>Gf O (fun hb=>?_) (fun hb=>?_)))))
   ·
    have hk56:=Jk hb
    obtain⟨y56,nx56,hy56,hn56,h⟩:=Hs hi56 hk56
    replace h:=Y4 hb56 h
    refine Gi (hK58 ?_)
    obtain⟨kj59,hkj59,h⟩:=Qo h
    refine Jx (fun j59:(List Stowed)=>kj59 j59=some r) (fun j59=>[(1,E3 boxes),(2,.mp 1021),(3,G0 calls),(4,Ef s),(8,.ptr 1038 0),(10,.ptr 1039 0),(12,Eo i6),(13,E1 j59),(83,E3 boxes),(84,Eo boxes.length),(85,Eo i56)]) (fun j59=>[(1021,MP 70 (fun n:Int=>Value.int .i64 n) G0 home),(1047,.spare 48 1 s6.1.length s6.1.length),(1045,MP 97 (fun n:Int=>Value.int .i64 n) Slot.av s6.2.2),(1038,.box 41 Ey),(1039,.box 41 [OW 1047 1 (E1) s6.1,LS 1 (E2) s6.2.1])]) (fun Kj59 ej59=>?_) ?_
    ·
     refine Gj (Jr fun hK60=>(JLh (Eh y56) (H3 (f:=Gd.av) (xs:=boxes) (y:=y56) O O O Q4 hy56 O) O (JLh (.agg (Gd.cs y56)) (Gg G08 O O O) O (JLh (.ptr 1042 0) (Hx 1042 9 Rz O O) O (Hw (u:=.junk) (Hd (u:=.agg (Gd.cs y56)) (ds:=(Gd.cs y56)) Zo O O O O O O O O) (G7 (hK60 ?_)))))))
     refine Gq [(1,E3 boxes),(2,.mp 1021),(3,G0 calls),(4,Ef s),(8,.ptr 1038 0),(10,.ptr 1039 0),(12,Eo i6),(13,E1 s56),(21,Eh y56),(83,E3 boxes),(84,Eo boxes.length),(85,Eo i56)] [(1021,MP 70 (fun n:Int=>Value.int .i64 n) G0 home),(1047,.spare 48 1 s6.1.length s6.1.length),(1045,MP 97 (fun n:Int=>Value.int .i64 n) Slot.av s6.2.2),(1038,.box 41 Ey),(1039,.box 41 [OW 1047 1 (E1) s6.1,LS 1 (E2) s6.2.1])] 1042 rfl rfl rfl ⟨⟨_,rfl,.map⟩,⟨_,rfl,.same⟩,⟨_,rfl,.map⟩,⟨_,rfl,.boxEq rfl rfl⟩,⟨_,rfl,.boxEq rfl rfl⟩,ø⟩ rfl (by repeat' (first | exact .ptr | constructor)) ?_
     refine Js fun hK61=>?_
     refine Jr fun hK62=>(JLh (.dptr ((Gd.cs y56).drop 5)) (Ga G02 O O O) O (JLh (G0 y56.Load) (Gh Gb O O O) O (Yb (Eo i6) O (JLh (BL (decide ((i6:Int) < y56.Load))) (G43 O O O) O (Yb (BL (decide ((i6:Int) < y56.Load))) O (JLo (Eo i6) [] O .scf ø (fun hc=>G6 O O) O (JLo (.dptr ((Gd.cs y56).drop 6)) [] O .scf ø (fun hc=>Ga G27 O O O) O (JLo (G0 y56.Discharge) [95] O .scf ⟨Ua,ø⟩ (fun hc=>Gh Gb O O O) O (JLo (BL (decide (y56.Discharge≤(i6:Int)))) [94,96] O .scf ⟨Ua,Ua,ø⟩ (fun hc=>G2f O O O) O (JLh (BL ((decide ((i6:Int) < y56.Load))||(decide (y56.Discharge≤(i6:Int))))) (G0b O O O O) O (Yb (BL ((decide ((i6:Int) < y56.Load))||(decide (y56.Discharge≤(i6:Int))))) O (JLo (E1 s56) [] O .scf ø (fun hc=>G6 O O) O (JLo (Eh y56) [] O .scf ø (fun hc=>Ga Qf O O O) O ?_)))))))))))))
     refine JLo (G0 y56.ID) [101] O .scf ⟨Ua,ø⟩ (fun hc=>Gh Gb O O O) O ?_
     obtain⟨r63,hr63,h⟩:=Ge h
     refine JLo (BL r63) [100,102] O .scf ⟨Ua,Ua,ø⟩ (fun hc=>Gv (args:=[E1 s56,G0 y56.ID]) O (H71 s56 y56.ID r63 (Gx hc hr63)) Qd5 ⟨O,O,O,O,ø⟩) O (JLh (BL (((decide ((i6:Int) < y56.Load))||(decide (y56.Discharge≤(i6:Int))))||r63)) (G0b O O O O) O (G7 (hK62 (JCc O h (fun h hb=>?_) (fun h hb=>?_)))))
     ·
      refine Hm (ej59 _ _ s56 h ⟨(.sm O O),⟨⟨_,rfl,.map⟩,⟨_,rfl,.same⟩,⟨_,rfl,.map⟩,⟨_,rfl,.boxL rfl (.sm O O)⟩,⟨_,rfl,.boxL rfl (.sm O O)⟩,ø⟩,rfl⟩)
     ·
      refine Gi (hK61 (Jr fun hK64=>(Yb (BL false) O (G7 (hK64 (Js fun hK65=>Jr fun hK66=>(Yb (G0 0) O (G7 (hK66 (Gj ?_))))))))))
      obtain⟨b67,hb67,h⟩:=G48 h
      refine Hb (fun i67 (s67:(List Stowed)×Bool×Int)=>loop b67 i67 s67=some r) (fun i67 s67=>[(1,E3 boxes),(2,.mp 1021),(3,G0 calls),(4,Ef s),(8,.ptr 1038 0),(10,.ptr 1039 0),(12,Eo i6),(13,E1 s67.1),(21,Eh y56),(22,BL s67.2.1),(23,G0 s67.2.2),(83,E3 boxes),(84,Eo boxes.length),(85,Eo i56)]) (fun i67 s67=>[(1021,MP 70 (fun n:Int=>Value.int .i64 n) G0 home),(1047,.spare 48 1 s6.1.length s6.1.length),(1045,MP 97 (fun n:Int=>Value.int .i64 n) Slot.av s6.2.2),(1038,.box 41 Ey),(1039,.box 41 [OW 1047 1 (E1) s6.1,LS 1 (E2) s6.2.1])]) (fun i67=>i67) F (s56,false,0) h ⟨(.sm O O),⟨⟨_,rfl,.map⟩,⟨_,rfl,.same⟩,⟨_,rfl,.map⟩,⟨_,rfl,.boxL rfl (.sm O O)⟩,⟨_,rfl,.boxL rfl (.sm O O)⟩,ø⟩,rfl⟩ ?_
      clear h
      intro i67 s67 hi67 K67 e67
      obtain⟨m67,nx67,hm_67,hn67,h⟩:=G0c hi67
      replace h:=J35 hb67 h
      refine Js fun hK68=>Jr fun hK69=>(Yb (G0 s67.2.2) O (JLh (Ef s) (Ga J6 O O O) O (JLh (E4 s.Columns) (Gh Jj O O O) O (JLl Je O O O fun hm108=>(JLh (BL (decide (s67.2.2 < (s.Columns.length:Int)))) (J0 O O O) O (Yb (BL (decide (s67.2.2 < (s.Columns.length:Int)))) O (JLo (BL s67.2.1) [] O .sct ø (fun hc=>G6 O O) O (JLo (BL (!s67.2.1)) [111] O .sct ⟨Ua,ø⟩ (fun hc=>Rv (b:=s67.2.1) O O) O (JLh (BL ((decide (s67.2.2 < (s.Columns.length:Int)))&&(!s67.2.1))) (Qr O O O O) O (G7 (hK69 ?_)))))))))))
      refine JCc O h ?_ ?_<;>intro h hb
      ·
       refine Gi (hK68 ?_)
       obtain⟨kj70,hkj70,h⟩:=Qo h
       refine Jx (fun j70:(List Stowed)×Bool=>kj70 j70=some r) (fun j70=>[(1,E3 boxes),(2,.mp 1021),(3,G0 calls),(4,Ef s),(8,.ptr 1038 0),(10,.ptr 1039 0),(12,Eo i6),(13,E1 j70.1),(21,Eh y56),(22,BL j70.2),(23,G0 s67.2.2),(83,E3 boxes),(84,Eo boxes.length),(85,Eo i56)]) (fun j70=>[(1021,MP 70 (fun n:Int=>Value.int .i64 n) G0 home),(1047,.spare 48 1 s6.1.length s6.1.length),(1045,MP 97 (fun n:Int=>Value.int .i64 n) Slot.av s6.2.2),(1038,.box 41 Ey),(1039,.box 41 [OW 1047 1 (E1) s6.1,LS 1 (E2) s6.2.1])]) (fun Kj70 ej70=>?_) ?_
       ·
        refine Gj (Jr fun hK71=>(JLh (.agg (Gw.cs s)) (Gg Ho O O O) O (JLh (.dptr ((Gd.cs y56).drop 2)) (Ga G03 O O O) O (JLh (U8 y56.Size) (Gh Hz O O O) O ?_))))
        obtain⟨r72,hr72,h⟩:=Ge h
        refine JLh (Ea r72) (Gv O (M_slot_All_w s y56.Size r72 hr72) Qd4 ⟨O,O,O,O,ø⟩) O (JLl Yg O O O fun hm120=>(Yb (G0 0) O (G7 (hK71 (Gj ?_)))))
        obtain⟨b99,kx99,hb99,hkx99,h⟩:=J2 h
        refine Hb (fun i99 (s99:(List Stowed)×Bool)=>each b99 kx99 (List.drop i99 r72) i99 s99=some r) (fun i99 s99=>[(1,E3 boxes),(2,.mp 1021),(3,G0 calls),(4,Ef s),(8,.ptr 1038 0),(10,.ptr 1039 0),(12,Eo i6),(13,E1 s99.1),(21,Eh y56),(22,BL s99.2),(23,G0 s67.2.2),(83,E3 boxes),(84,Eo boxes.length),(85,Eo i56),(119,Ea r72),(120,Eo r72.length),(121,Eo i99)]) (fun i99 s99=>[(1021,MP 70 (fun n:Int=>Value.int .i64 n) G0 home),(1047,.spare 48 1 s6.1.length s6.1.length),(1045,MP 97 (fun n:Int=>Value.int .i64 n) Slot.av s6.2.2),(1038,.box 41 Ey),(1039,.box 41 [OW 1047 1 (E1) s6.1,LS 1 (E2) s6.2.1])]) (fun i99=>r72.length - i99) 0 (s67.1,s67.2.1) h ⟨(.sm O O),⟨⟨_,rfl,.map⟩,⟨_,rfl,.same⟩,⟨_,rfl,.map⟩,⟨_,rfl,.boxL rfl (.sm O O)⟩,⟨_,rfl,.boxL rfl (.sm O O)⟩,ø⟩,rfl⟩ ?_
        clear h
        intro i99 s99 hi99 K99 e99
        refine Jr fun hK100=>(JLh (BL (decide ((i99:Int) < (r72.length:Int)))) (J0 O O O) O (G7 (hK100 (Js fun hK101=>Gf O (fun hb=>?_) (fun hb=>?_)))))
        ·
         have hk99:=Jk hb
         obtain⟨y99,nx99,hy99,hn99,h⟩:=Hs hi99 hk99
         replace h:=Y4 hb99 h
         refine Gi (hK101 (Js fun hK102=>Gj (Jr fun hK103=>(JLh (Ek y99) (H3 (f:=Slot.av) (xs:=r72) (y:=y99) O O O Yg hy99 O) O (JLh (.agg (Slot.cs y99)) (Gg Jh O O O) O (JLh (.ptr 1043 0) (Hx 1043 3 G17 O O) O (Hw (u:=.junk) (Hd (u:=.agg (Slot.cs y99)) (ds:=[G0 y99.G4,G0 y99.Tier,U8 y99.Half]) G44 O O O O O O O O) (G7 (hK103 ?_)))))))))
         refine Gq [(1,E3 boxes),(2,.mp 1021),(3,G0 calls),(4,Ef s),(8,.ptr 1038 0),(10,.ptr 1039 0),(12,Eo i6),(13,E1 s99.1),(21,Eh y56),(22,BL s99.2),(23,G0 s67.2.2),(25,Ek y99),(83,E3 boxes),(84,Eo boxes.length),(85,Eo i56),(119,Ea r72),(120,Eo r72.length),(121,Eo i99)] [(1021,MP 70 (fun n:Int=>Value.int .i64 n) G0 home),(1047,.spare 48 1 s6.1.length s6.1.length),(1045,MP 97 (fun n:Int=>Value.int .i64 n) Slot.av s6.2.2),(1038,.box 41 Ey),(1039,.box 41 [OW 1047 1 (E1) s6.1,LS 1 (E2) s6.2.1])] 1043 rfl rfl rfl ⟨⟨_,rfl,.map⟩,⟨_,rfl,.same⟩,⟨_,rfl,.map⟩,⟨_,rfl,.boxEq rfl rfl⟩,⟨_,rfl,.boxEq rfl rfl⟩,ø⟩ rfl (by repeat' (first | exact .ptr | constructor)) ?_
         refine Jr fun hK104=>(Yb (E1 s99.1) O (JLh (Eh y56) (Ga Qf O O O) O (JLh (G0 y56.ID) (Gh Gb O O O) O (JLh (.agg (Slot.cs y99)) (Gg Jh O O O) O (JLh (.agg [G0 y56.ID,G0 y99.G4,G0 y99.Tier,U8 y99.Half]) (J3 (cs:=[G0 y56.ID,G0 y99.G4,G0 y99.Tier,U8 y99.Half]) [(0,1),(1,3)] [G0 0,G0 0,G0 0,U8 0] [E0,E0,E0,.int .u8 0] Gb8 Gd2 ⟨.inl O,.inl O,.inl O,.inl O,ø⟩ O O) O ?_)))))
         obtain⟨r105,hr105,h⟩:=Ge h
         refine JLh (E1 r105) (Gv O (Gab s99.1 (Stowed.mk y56.ID y99) r105 hr105) Jfc ⟨O,O,O,O,ø⟩) O (Yb (E1 r105) O (G7 (hK104 (Js fun hK106=>?_))))
         refine Rm (l':=[(1,E3 boxes),(2,.mp 1021),(3,G0 calls),(4,Ef s),(8,.ptr 1038 0),(10,.ptr 1039 0),(12,Eo i6),(13,E1 s99.1),(21,Eh y56),(22,BL s99.2),(23,G0 s67.2.2),(25,Ek y99),(26,E1 r105),(83,E3 boxes),(84,Eo boxes.length),(85,Eo i56),(119,Ea r72),(120,Eo r72.length),(121,Eo i99)]) (L':=[(1021,MP 70 (fun n:Int=>Value.int .i64 n) G0 home),(1047,.spare 48 1 s6.1.length s6.1.length),(1045,MP 97 (fun n:Int=>Value.int .i64 n) Slot.av s6.2.2),(1038,.box 41 Ey),(1039,.box 41 [OW 1047 1 (E1) s6.1,LS 1 (E2) s6.2.1])]) ⟨(.sm O O),⟨⟨_,rfl,.map⟩,⟨_,rfl,.same⟩,⟨_,rfl,.map⟩,⟨_,rfl,.boxL rfl (.sm O O)⟩,⟨_,rfl,.boxL rfl (.sm O O)⟩,ø⟩,rfl⟩ ?_
         obtain⟨v107,hv107,h⟩:=Ge h
         obtain⟨v108,hv108,h⟩:=Hv h
         obtain⟨v109,hv109,h⟩:=Ge h
         obtain⟨r110,hr110,h⟩:=Ge h
         refine JC_d0 Q6 (by kernel_rfl) (Dq (Ek y99) (Ga J9 O O O) O (Dq (G0 y99.G4) (Gh Gb O O O) O (Dq (.mp 1021) (G6 O O) O (Dq (Eh y56) (Ga Qf O O O) O (Dq (G0 y56.ID) (Gh Gb O O O) O (Dq (G0 v107) (((Option.some.inj hv107) ▸ Ge1 (av:=G0) (m:=home) (a:=y56.ID) 0 E0 O O O O tk_3 Q53 H8e O)) O (Dq (G0 s67.2.2) (G6 O O) O (Dq (G0 v108) (Hu hv108 O O O) O (Dq (Ef s) (Ga J6 O O O) O (Dq (E4 s.Columns) (Gh Jj O O O) O (Dq (Eo s.Columns.length) (Yv (f:=G4.av) (xs:=s.Columns) Je O O) O (Dq (G0 v109) (J6d (Rn hv109).1 (Rn hv109).2 O O O) O (Dq (BL (decide (y99.G4=v109))) (Jz O O O) O ?_)))))))))))))
         refine Dq (BL (decide (y99.G4=v109))) (G6 O O) O (Do (.agg (Gw.cs s)) [] O .sct ø (fun hc=>Gg Ho O O O) O (Do (E3 boxes) [] O .sct ø (fun hc=>G6 O O) O (Do (E1 r105) [] O .sct ø (fun hc=>G6 O O) O (Do (BL r110) [145,146,147] O .sct ⟨Ua,Ua,Ua,ø⟩ (fun hc=>Gv (args:=[.agg (Gw.cs s),E3 boxes,E1 r105]) O (G35 s boxes r105 r110 (Gx hc hr110)) Gd6 ⟨O,O,O,O,O,O,ø⟩) O (Dq (BL ((decide (y99.G4=v109))&&r110)) (Qr O O O O) O (Dnil ?_))))))
         refine hK106 (JCc O h (fun h hb=>?_) (fun h hb=>?_))
         ·
          refine Jr fun hK111=>(Yb (E1 r105) O (Yb (E1 r105) O (Yb (BL true) O (G7 (hK111 (Hm (ej70 _ _ (r105,true) h ⟨(.sm O O),⟨⟨_,rfl,.map⟩,⟨_,rfl,.same⟩,⟨_,rfl,.map⟩,⟨_,rfl,.boxL rfl (.sm O O)⟩,⟨_,rfl,.boxL rfl (.sm O O)⟩,ø⟩,rfl⟩)))))))
         ·
          refine Gi (hK102 (G3 (JLh (G0 ((i99+1:Nat):Int)) (Hu (Hj hk99 hm120) O O O) O (Yb (G0 ((i99+1:Nat):Int)) O (G7 (e99 _ _ (i99+1) (s99.1,s99.2) (app1 hn99 h) (by omega) ⟨(.sm O O),⟨⟨_,rfl,.map⟩,⟨_,rfl,.same⟩,⟨_,rfl,.map⟩,⟨_,rfl,.boxL rfl (.sm O O)⟩,⟨_,rfl,.boxL rfl (.sm O O)⟩,ø⟩,rfl⟩))))))
        ·
         have h:=app1 hkx99 (Ht hi99 (Ha hb))
         refine Hm (ej70 _ _ (s99.1,s99.2) h ⟨(.sm O O),⟨⟨_,rfl,.map⟩,⟨_,rfl,.same⟩,⟨_,rfl,.map⟩,⟨_,rfl,.boxL rfl (.sm O O)⟩,⟨_,rfl,.boxL rfl (.sm O O)⟩,ø⟩,rfl⟩)
       ·intro j70 h
        replace h:=app1 hkj70 h
        refine G3 (Yb (G0 s67.2.2) O ?_)
        obtain⟨v112,hv112,h⟩:=Hv h
        refine JLh (G0 v112) (Hu hv112 O O O) O (Yb (G0 v112) O (G7 (e67 _ _ m67 (j70.1,j70.2,v112) (app1 hn67 h) (by omega) ⟨(.sm O O),⟨⟨_,rfl,.map⟩,⟨_,rfl,.same⟩,⟨_,rfl,.map⟩,⟨_,rfl,.boxL rfl (.sm O O)⟩,⟨_,rfl,.boxL rfl (.sm O O)⟩,ø⟩,rfl⟩)))
      ·
       refine Hm (hK65 (Jr fun hK113=>(Yb (BL s67.2.1) O (JLh (BL (!s67.2.1)) (Rv (b:=s67.2.1) O O) O (G7 (hK113 (JCc O h (fun h hb=>?_) (fun h hb=>?_))))))))
       ·
        refine Js fun hK114=>Rm (l':=[(8,.ptr 1038 0),(21,Eh y56)]) (L':=[(1021,MP 70 (fun n:Int=>Value.int .i64 n) G0 home),(1047,.spare 48 1 s6.1.length s6.1.length),(1045,MP 97 (fun n:Int=>Value.int .i64 n) Slot.av s6.2.2),(1038,.box 41 Ey),(1039,.box 41 [OW 1047 1 (E1) s6.1,LS 1 (E2) s6.2.1])]) ⟨(.sm O O),⟨⟨_,O,.map⟩,⟨_,O,.same⟩,⟨_,O,.map⟩,⟨_,O,.boxL O (.sm O O)⟩,⟨_,O,.boxL O (.sm O O)⟩,ø⟩,O⟩ ?_
        refine Jy [3] [0,0,0,0,1] [0,1,1,0,1] [[(1021,MP 70 (fun n:Int=>Value.int .i64 n) G0 home),(1047,.spare 48 1 s6.1.length s6.1.length),(1045,MP 97 (fun n:Int=>Value.int .i64 n) Slot.av s6.2.2),(1038,.box 41 Ey),(1039,.box 41 [OW 1047 1 (E1) s6.1,LS 1 (E2) s6.2.1])],((1038,.box 41 Ey)::[(1021,MP 70 (fun n:Int=>Value.int .i64 n) G0 home),(1047,.spare 48 1 s6.1.length s6.1.length),(1045,MP 97 (fun n:Int=>Value.int .i64 n) Slot.av s6.2.2),(1038,.box 41 Ey),(1039,.box 41 [OW 1047 1 (E1) s6.1,LS 1 (E2) s6.2.1])])] Q6 (by kernel_rfl) rfl rfl ?_
        refine Gp (u:=.agg Ey) O O ⟨Gr (J3 (cs:=Ey) [(0,1),(1,1)] Ey [.slice none 0 0,.slice none 0 0] J43 H23 ⟨.inr ⟨_,O,O⟩,.inr ⟨_,O,O⟩,ø⟩ O O) O,ø⟩ (Gp (u:=Eh y56) O O ⟨Gr (Ga Qf O O O) O,Gr (Ga Qf O O O) O,ø⟩ (Gp (u:=G0 y56.ID) O O ⟨Gr (Gh Gb O O O) O,Gr (Gh Gb O O O) O,ø⟩ (J08 (u:=.junk) O O O O (Gr (Hd (u:=.agg Ey) (ds:=Ey) Gd4 O O O O O O O O) O) (Gp (u:=G0 y56.ID) O O ⟨Gr (G8 O O) O,ø⟩ (Yd ?_)))))
        refine hK114 (Rm (l':=[(8,.ptr 1038 0),(9,G0 y56.ID)]) (L':=[(1021,MP 70 (fun n:Int=>Value.int .i64 n) G0 home),(1045,MP 97 (fun n:Int=>Value.int .i64 n) Slot.av s6.2.2),(1038,.box 41 Ey),(1039,.box 41 [LS 1 (E1) s6.1,LS 1 (E2) s6.2.1])]) ⟨(.sm O O),⟨⟨_,O,.map⟩,⟨_,O,.map⟩,⟨_,O,.boxL O (.sm O O)⟩,⟨_,O,.boxL O ⟨.list O,.same O,ø⟩⟩,ø⟩,O⟩ ?_)
        refine Gq [(8,.ptr 1038 0),(9,G0 y56.ID)] [(1021,MP 70 (fun n:Int=>Value.int .i64 n) G0 home),(1045,MP 97 (fun n:Int=>Value.int .i64 n) Slot.av s6.2.2),(1038,.box 41 Ey)] 1039 rfl rfl rfl ⟨⟨_,rfl,.map⟩,⟨_,rfl,.map⟩,⟨_,rfl,.boxEq rfl rfl⟩,ø⟩ rfl (by exact⟨.conv (.same rfl),.conv (.same rfl),ø⟩) (Gs ?_)
        obtain rfl:=Option.some.inj h
        exact⟨[.agg Ey,G0 y56.ID],[(1021,MP 70 (fun n:Int=>Value.int .i64 n) G0 home)],⟨⟨_,O,.map⟩,ø⟩,O,⟨⟨_,⟨_,_,_,_,O,O,O,.inl ⟨Ga6,O⟩⟩,.conv (.same O)⟩,⟨_,O,.conv (.same O)⟩,ø⟩,O,O⟩
       ·
        refine Gi (ej59 _ _ s67.1 h ⟨(.sm O O),⟨⟨_,rfl,.map⟩,⟨_,rfl,.same⟩,⟨_,rfl,.map⟩,⟨_,rfl,.boxL rfl (.sm O O)⟩,⟨_,rfl,.boxL rfl (.sm O O)⟩,ø⟩,rfl⟩)
    ·intro j59 h
     replace h:=app1 hkj59 h
     refine G3 (JLh (G0 ((i56+1:Nat):Int)) (Hu (Hj hk56 hm84) O O O) O (Yb (G0 ((i56+1:Nat):Int)) O (G7 (e56 _ _ (i56+1) j59 (app1 hn56 h) (by omega) ⟨(.sm O O),⟨⟨_,rfl,.map⟩,⟨_,rfl,.same⟩,⟨_,rfl,.map⟩,⟨_,rfl,.boxL rfl (.sm O O)⟩,⟨_,rfl,.boxL rfl (.sm O O)⟩,ø⟩,rfl⟩))))
   ·
    have h:=app1 hkx56 (Ht hi56 (Ha hb))
    refine Hm (hK54 (Jr fun hK115=>(JLh (.mp 1046) (Ge0 1046 (fun n:Int=>Value.int .i64 n) Slot.av O O) O (Yb (.mp 1046) O ?_))))
    refine JL_rename 1045 1046 (MP 97 (fun n:Int=>Value.int .i64 n) Slot.av (H0.empty:H0 Int Slot)) [(1,E3 boxes),(2,.mp 1021),(3,G0 calls),(4,Ef s),(8,.ptr 1038 0),(10,.ptr 1039 0),(12,Eo i6),(13,E1 s56),(83,E3 boxes),(84,Eo boxes.length),(85,Eo i56),(86,BL (decide ((i56:Int) < (boxes.length:Int)))),(158,.mp 1046),(11,.mp 1046)] [(1,E3 boxes),(2,.mp 1021),(3,G0 calls),(4,Ef s),(8,.ptr 1038 0),(10,.ptr 1039 0),(12,Eo i6),(13,E1 s56),(83,E3 boxes),(84,Eo boxes.length),(85,Eo i56),(86,BL (decide ((i56:Int) < (boxes.length:Int)))),(158,.mp 1045),(11,.mp 1045)] [(1021,MP 70 (fun n:Int=>Value.int .i64 n) G0 home),(1047,.spare 48 1 s6.1.length s6.1.length),(1038,.box 41 Ey),(1039,.box 41 [OW 1047 1 (E1) s6.1,LS 1 (E2) s6.2.1])] ⟨_,_,rfl⟩ ⟨(.sm O O),⟨⟨_,rfl,.map⟩,⟨_,rfl,.map⟩,⟨_,rfl,.same⟩,⟨_,rfl,.boxL rfl (.sm O O)⟩,⟨_,rfl,.boxL rfl (.sm O O)⟩,ø⟩,rfl⟩ rfl rfl rfl rfl rfl ⟨⟨_,rfl,.map⟩,⟨_,rfl,.same⟩,⟨_,rfl,.boxEq rfl rfl⟩,⟨_,rfl,.boxEq rfl rfl⟩,ø⟩ ⟨.inr ⟨rfl,rfl⟩,⟨.inr ⟨rfl,rfl⟩,⟨.inr ⟨rfl,rfl⟩,⟨.inr ⟨rfl,rfl⟩,⟨.inr ⟨rfl,rfl⟩,⟨.inr ⟨rfl,rfl⟩,⟨.inr ⟨rfl,rfl⟩,⟨.inr ⟨rfl,rfl⟩,⟨.inr ⟨rfl,rfl⟩,⟨.inr ⟨rfl,rfl⟩,⟨.inr ⟨rfl,rfl⟩,⟨.inr ⟨rfl,rfl⟩,⟨.inl ⟨rfl,rfl⟩,⟨.inl ⟨rfl,rfl⟩,ø⟩⟩⟩⟩⟩⟩⟩⟩⟩⟩⟩⟩⟩⟩ ?_
    refine G7 (hK115 (Js fun hK116=>Jr fun hK117=>(Yb (E1 s56) O (JLl Gy O O O fun hm160=>(Yb (G0 0) O (G7 (hK117 (Gj ?_))))))))
    obtain⟨b138,kx138,hb138,hkx138,h⟩:=J2 h
    refine Hb (fun i138 (s138:(H0 Int Slot))=>each b138 kx138 (List.drop i138 s56) i138 s138=some r) (fun i138 s138=>[(1,E3 boxes),(2,.mp 1021),(3,G0 calls),(4,Ef s),(8,.ptr 1038 0),(10,.ptr 1039 0),(11,.mp 1045),(12,Eo i6),(13,E1 s56),(159,E1 s56),(160,Eo s56.length),(161,Eo i138)]) (fun i138 s138=>[(1045,MP 97 (fun n:Int=>Value.int .i64 n) Slot.av s138),(1021,MP 70 (fun n:Int=>Value.int .i64 n) G0 home),(1047,.spare 48 1 s6.1.length s6.1.length),(1038,.box 41 Ey),(1039,.box 41 [OW 1047 1 (E1) s6.1,LS 1 (E2) s6.2.1])]) (fun i138=>s56.length - i138) 0 (H0.empty:H0 Int Slot) h ⟨(.sm O O),⟨⟨_,rfl,.map⟩,⟨_,rfl,.map⟩,⟨_,rfl,.same⟩,⟨_,rfl,.boxL rfl (.sm O O)⟩,⟨_,rfl,.boxL rfl (.sm O O)⟩,ø⟩,rfl⟩ ?_
    clear h
    intro i138 s138 hi138 K138 e138
    refine Jr fun hK139=>(JLh (BL (decide ((i138:Int) < (s56.length:Int)))) (J0 O O O) O (G7 (hK139 (Js fun hK140=>Gf O (fun hb=>?_) (fun hb=>?_)))))
    ·
     have hk138:=Jk hb
     obtain⟨y138,nx138,hy138,hn138,h⟩:=Hs hi138 hk138
     replace h:=Y4 hb138 h
     refine Gi (hK140 (Js fun hK141=>Gj (Jr fun hK142=>(JLh (Eg y138) (H3 (f:=Stowed.av) (xs:=s56) (y:=y138) O O O Gy hy138 O) O (JLh (.agg (Stowed.cs y138)) (Gg Jg O O O) O (JLh (.ptr 1044 0) (Hx 1044 4 Jo O O) O (Hw (u:=.junk) (Hd (u:=.agg (Stowed.cs y138)) (ds:=[G0 y138.Gd,G0 y138.Slot.G4,G0 y138.Slot.Tier,U8 y138.Slot.Half]) Qh O O O O O O O O) (G7 (hK142 ?_)))))))))
     refine Gq [(1,E3 boxes),(2,.mp 1021),(3,G0 calls),(4,Ef s),(8,.ptr 1038 0),(10,.ptr 1039 0),(11,.mp 1045),(12,Eo i6),(13,E1 s56),(28,Eg y138),(159,E1 s56),(160,Eo s56.length),(161,Eo i138)] [(1045,MP 97 (fun n:Int=>Value.int .i64 n) Slot.av s138),(1021,MP 70 (fun n:Int=>Value.int .i64 n) G0 home),(1047,.spare 48 1 s6.1.length s6.1.length),(1038,.box 41 Ey),(1039,.box 41 [OW 1047 1 (E1) s6.1,LS 1 (E2) s6.2.1])] 1044 rfl rfl rfl ⟨⟨_,rfl,.map⟩,⟨_,rfl,.map⟩,⟨_,rfl,.same⟩,⟨_,rfl,.boxEq rfl rfl⟩,⟨_,rfl,.boxEq rfl rfl⟩,ø⟩ rfl (by repeat' (first | exact .ptr | constructor)) ?_
     refine G3 (Yb (.mp 1045) O (JLh (Eg y138) (Ga J5 O O O) O (JLh (G0 y138.Gd) (Gh Gb O O O) O (JLh (.dptr ((Stowed.cs y138).drop 1)) (Ga Hr O O O) O (JLh (.agg ((Stowed.cs y138).drop 1)) (Gg Jh O O O) O (Hw (u:=.junk) (H1c (m:=s138) (a:=y138.Gd) (v:=y138.Slot) O O O O O O tk_3 Q52) (G7 (hK141 (G3 (JLh (G0 ((i138+1:Nat):Int)) (Hu (Hj hk138 hm160) O O O) O (Yb (G0 ((i138+1:Nat):Int)) O (G7 (e138 _ _ (i138+1) (H0.put s138 y138.Gd y138.Slot) (app1 hn138 h) (by omega) ⟨(.sm O O),⟨⟨_,rfl,.map⟩,⟨_,rfl,.map⟩,⟨_,rfl,.same⟩,⟨_,rfl,.boxL rfl (.sm O O)⟩,⟨_,rfl,.boxL rfl (.sm O O)⟩,ø⟩,rfl⟩)))))))))))))
    ·
     have h:=app1 hkx138 (Ht hi138 (Ha hb))
     refine Hm (hK116 (G3 (JLh (.ptr 1039 0) (Jp G28 O O) O (JLh (OW 1047 1 (E1) s6.1) (Qu Zy O O O O) O (Yb (E1 s56) O (JLh (LS 1 (E1) [s56]) (H6 (xs:=[E1 s56]) O ⟨O,O,ø⟩ Qd Hc2 O O O O) O ?_))))))
     obtain⟨ha143,h⟩:=Jd h
     refine JLh (OW 1047 1 (E1) (s6.1++[s56])) (Qk (f:=(E1)) (xs:=s6.1) (ys:=[s56]) O O O O Qd Jeb ha143 (fun _=>O) (.inl O) O) O (JLh (.ptr 1039 0) (Jp G28 O O) O (Hw (u:=.junk) (Hd (u:=OW 1047 1 (E1) (s6.1++[s56])) (ds:=[OW 1047 1 (E1) (s6.1++[s56]),LS 1 (E2) s6.2.1]) Jde O O O O O O O O) (G7 (hK9 (G3 (Yb (Eo i6) O (JLh (G0 ((i6+1:Nat):Int)) (Hu (Hj hk6 (Ga3 hx6)) O O O) O (Yb (G0 ((i6+1:Nat):Int)) O (G7 (e6 _ _ (i6+1) ((s6.1++[s56]),s6.2.1,s138) (app1 hn6 h) (by omega) ⟨(.sm O O),⟨⟨_,rfl,.map⟩,⟨_,rfl,.same⟩,⟨_,rfl,.map⟩,⟨_,rfl,.boxL rfl (.sm O O)⟩,⟨_,rfl,.boxL rfl (.sm O O)⟩,ø⟩,rfl⟩))))))))))
 ·
  have h:=app1 hkx6 (Gef hi6 (G1c hb))
  refine Hm (hK4 (Jr fun hK144=>(JLh (.agg [OW 1047 1 (E1) s6.1,LS 1 (E2) s6.2.1]) (Hae Ga6 O O O O) O (Hw (u:=.junk) (Hd (u:=.agg [OW 1047 1 (E1) s6.1,LS 1 (E2) s6.2.1]) (ds:=[OW 1047 1 (E1) s6.1,LS 1 (E2) s6.2.1]) Gd4 O O O O O O O O) (Yb (G0 0) O (G7 (hK144 (Gs ?_))))))))
  obtain rfl:=Option.some.inj h
  exact⟨[.agg [LS 1 (E1) s6.1,LS 1 (E2) s6.2.1],G0 0],[(1021,MP 70 (fun n:Int=>Value.int .i64 n) G0 home)],⟨⟨_,O,.map⟩,ø⟩,O,⟨⟨_,⟨_,_,_,_,O,O,O,.inl ⟨Ga6,O⟩⟩,.agg ⟨.list O,.same O,ø⟩⟩,⟨_,O,.conv (.same O)⟩,ø⟩,O,O⟩

def Y6 (F:Nat) (s:Gw) (l:List Hi) (calls:Int) (most:Int):Option ((List Gd)×H4e):=
 bnd (J54 (min (l.length:Int) most) l.length) fun m6=>
 each (fun y119 i119 (s119:(List Gd)×(H0 Int Int)) nx119=>
  Rc (5*((i119+1:Nat):Int)) fun v125=>
  Rc (y119.Kilos) fun v126=>
  Rc (100*v126) fun v127=>
  Rc (1000+v127) fun v128=>
  Rc (y119.Load) fun v129=>
  Rc (calls - 1) fun v130=>
  bnd (Hb1 v129 v130) fun v131=>
  Rc (v131+1) fun v133=>
  Rc (y119.Stay) fun v134=>
  Rc (calls - 1) fun v135=>
  Rc (v135 - v131) fun v136=>
  bnd (Hb1 v134 v136) fun v137=>
  Rc (v133+v137) fun v138=>
  jp (fun kj139=>
   bif y119.Small then
   (kj139 (20,false))
   else
   (kj139 (40,y119.High))) fun(j139:Int×Bool)=>
  Rc (y119.G4) fun v142=>
  bnd (Hb1 v142 (s.Columns.length:Int)) fun v143=>
  need (decide ((s119.1.length+[(Gd.mk v125 ByteArray.empty j139.1 j139.2 v128 v131 v138 0 false)].length)*64≤140737488355328∧s119.1.length+[(Gd.mk v125 ByteArray.empty j139.1 j139.2 v128 v131 v138 0 false)].length≤maxLen)) <|
  nx119 ((s119.1++[(Gd.mk v125 ByteArray.empty j139.1 j139.2 v128 v131 v138 0 false)]),(H0.put s119.2 v125 v143)))
 (fun(s119:(List Gd)×(H0 Int Int))=>
  Rc ((s119.1.length:Int)+1) fun v147=>
  need (decide (v147≤9223372036854775807)) <|
  upto (fun i148 (s148:(List Gd)×(H0 Int Int)) nx148=>
   bnd (Y5 F s s148.1 s148.2 calls) fun r153=>
   bif decide (r153.2.1=0) then
   (some (s148.1,r153.1))
   else
   (each (fun y174 i174 (s174:(List Gd)) nx174=>
     jp (fun kj177=>
      bif decide (y174.ID≠r153.2.1) then
      (need (decide ((s174.length+[y174].length)*64≤140737488355328∧s174.length+[y174].length≤maxLen)) <|
       kj177 (s174++[y174]))
      else
      (kj177 s174)) fun(j177:(List Gd))=>
     nx174 j177)
    (fun(s174:(List Gd))=>
     nx148 (s174,r153.2.2)) s148.1 0 []))
  (fun(s148:(List Gd)×(H0 Int Int))=>
   bnd (natOf calls) fun m182=>
   need (decide (24*m182≤281474976710656∧m182≤maxLen∧m182*1≤16777216)) <|
   some ([],(H4e.mk (List.replicate m182 ([]:List Stowed)) []))) v147.toNat 0 (s119.1,s119.2)) (l.take m6) 0 ([],(H0.empty:H0 Int Int))
abbrev Ez:List AV:=[LS 1 (E1) ([]:List (List Stowed)),LS 1 (E2) ([]:List (List Int))]
theorem H4f (F:Nat) (s:Gw) (l:List Hi) (calls:Int) (most:Int) (r:(List Gd)×H4e) (h:Y6 F s l calls most=some r):Pure Ep 5 [.agg (Gw.cs s),Ed l,G0 calls,G0 most] (·=.tup [E3 r.1,.agg [LS 1 (E1) r.2.States,LS 1 (E2) r.2.Water]]):=by
 unfold Y6 at h
 refine Gz [.tmp 8,.cell 9 41] Tryz.func5 O O (Jr fun hK1=>(JLh (.ptr 1013 0) (Jm (cs:=(Gw.cs s)) 1013 O O O O O) O (JLh (E3 ([]:List Gd)) (Hf 9 O O) O (JLh (.ptr 1014 0) (G54 1014 Ez [.slice none 0 0,.slice none 0 0] H23 ⟨.inr ⟨_,O,O⟩,.inr ⟨_,O,O⟩,ø⟩ O O) O (G7 (hK1 ?_))))))
 refine Gq [(1,Ed l),(2,G0 calls),(3,G0 most),(4,Ef s),(9,.ptr 1014 0)] [(1014,.box 41 Ez)] 1013 rfl rfl rfl ⟨⟨_,rfl,.boxEq rfl rfl⟩,ø⟩ rfl (by repeat' (first | exact .ptr | constructor)) (Jr fun hK2=>(JLh (OW 1015 9 Gd.av ([]:List Gd)) (G24 1015 52 9 O O O) O (G7 (hK2 (Jr fun hK3=>(JLh (.mp 1021) (Ge0 1021 (fun n:Int=>Value.int .i64 n) G0 O O) O (Yb (.mp 1021) O (G7 (hK3 (Js fun hK4=>?_))))))))))
 refine Jr fun hK5=>(Yb (Ed l) O (Yb (Ed l) O (JLl H53 O O O fun hm23=>(Yb (G0 most) O (JLh (G0 (min (l.length:Int) most)) (A_min O O O) O ?_)))))
 obtain⟨m6,hm6,h⟩:=Ge h
 refine JLh (Ed (l.take m6)) (J3d (f:=Hi.av) (xs:=l) O O O H53 (H7e hm6)) O (JLl H53 O O O fun hm27=>(Yb (G0 0) O (G7 (hK5 (Gj ?_)))))
 obtain⟨b119,kx119,hb119,hkx119,h⟩:=J2 h
 refine Hb (fun i119 (s119:(List Gd)×(H0 Int Int))=>each b119 kx119 (List.drop i119 (l.take m6)) i119 s119=some r) (fun i119 s119=>[(2,G0 calls),(4,Ef s),(9,.ptr 1014 0),(10,OW 1015 9 Gd.av s119.1),(11,.mp 1021),(26,Ed (l.take m6)),(27,G0 ((l.take m6).length:Int)),(28,Eo i119)]) (fun i119 s119=>[(1015,.spare 52 9 s119.1.length s119.1.length),(1021,MP 70 (fun n:Int=>Value.int .i64 n) G0 s119.2),(1014,.box 41 Ez)]) (fun i119=>(l.take m6).length - i119) 0 ([],(H0.empty:H0 Int Int)) h ⟨(.sm O O),⟨⟨_,rfl,.same⟩,⟨_,rfl,.map⟩,⟨_,rfl,.boxL rfl (.sm O O)⟩,ø⟩,rfl⟩ ?_
 clear h
 intro i119 s119 hi119 K119 e119
 refine Jr fun hK120=>(JLh (BL (decide ((i119:Int) < ((l.take m6).length:Int)))) (J0 O O O) O (G7 (hK120 (Js fun hK121=>Gf O (fun hb=>?_) (fun hb=>?_)))))
 ·
  have hk119:=Jk hb
  obtain⟨y119,nx119,hy119,hn119,h⟩:=Hs hi119 hk119
  replace h:=Y4 hb119 h
  refine Gi (hK121 (Js fun hK122=>Gj (Jr fun hK123=>(Yb (Eo i119) O (JLh (.dptr (Hi.cs y119)) (H3 (f:=Hi.av) (xs:=(l.take m6)) (y:=y119) O O O H53 hy119 O) O (JLh (.agg (Hi.cs y119)) (Gg tf_agg_72 O O O) O (JLh (.ptr 1016 0) (Hx 1016 6 Q68 O O) O (Yb (Eo i119) O (Hw (u:=.junk) (Hd (u:=.agg (Hi.cs y119)) (ds:=[U8 y119.G4,U8 y119.Kilos,U8 y119.Load,U8 y119.Stay,BL y119.Small,BL y119.High]) Qa8 O O O O O O O O) (G7 (hK123 ?_)))))))))))
  refine Gq [(2,G0 calls),(4,Ef s),(9,.ptr 1014 0),(10,OW 1015 9 Gd.av s119.1),(11,.mp 1021),(12,Eo i119),(13,.dptr (Hi.cs y119)),(26,Ed (l.take m6)),(27,G0 ((l.take m6).length:Int)),(28,Eo i119)] [(1015,.spare 52 9 s119.1.length s119.1.length),(1021,MP 70 (fun n:Int=>Value.int .i64 n) G0 s119.2),(1014,.box 41 Ez)] 1016 rfl rfl rfl ⟨⟨_,rfl,.same⟩,⟨_,rfl,.map⟩,⟨_,rfl,.boxEq rfl rfl⟩,ø⟩ rfl (by repeat' (first | exact .ptr | constructor)) ?_
  refine Js fun hK124=>?_
  refine Rm (l':=[(2,G0 calls),(4,Ef s),(9,.ptr 1014 0),(10,OW 1015 9 Gd.av s119.1),(11,.mp 1021),(12,Eo i119),(13,.dptr (Hi.cs y119)),(26,Ed (l.take m6)),(27,G0 ((l.take m6).length:Int)),(28,Eo i119)]) (L':=[(1015,.spare 52 9 s119.1.length s119.1.length),(1021,MP 70 (fun n:Int=>Value.int .i64 n) G0 s119.2),(1014,.box 41 Ez)]) ⟨(.sm O O),⟨⟨_,rfl,.same⟩,⟨_,rfl,.map⟩,⟨_,rfl,.boxL rfl (.sm O O)⟩,ø⟩,rfl⟩ ?_
  obtain⟨v125,hv125,h⟩:=Hv h
  obtain⟨v126,hv126,h⟩:=Hv h
  obtain⟨v127,hv127,h⟩:=Hv h
  obtain⟨v128,hv128,h⟩:=Hv h
  obtain⟨v129,hv129,h⟩:=Hv h
  obtain⟨v130,hv130,h⟩:=Hv h
  obtain⟨v131,hv131,h⟩:=Ge h
  refine Jy [17,18] [0,0,0,0,0,0,0,0,0,0,0,0,0,0,0,0,0,0,0] [1,1,1,1,1,1,1,1,1,1,1,1,1,1,1,1,1,0,0] [[(1015,.spare 52 9 s119.1.length s119.1.length),(1021,MP 70 (fun n:Int=>Value.int .i64 n) G0 s119.2),(1014,.box 41 Ez)],((1017,.box 52 [.junk,.junk,.junk,.junk,.junk,.junk,.junk,.junk,.junk])::[(1015,.spare 52 9 s119.1.length s119.1.length),(1021,MP 70 (fun n:Int=>Value.int .i64 n) G0 s119.2),(1014,.box 41 Ez)]),((1017,.box 52 [G0 v125,ST ByteArray.empty,U8 40,BL y119.High,G0 v128,G0 v131,G0 0,U8 0,BL false])::((1017,.box 52 [.junk,.junk,.junk,.junk,.junk,.junk,.junk,.junk,.junk])::[(1015,.spare 52 9 s119.1.length s119.1.length),(1021,MP 70 (fun n:Int=>Value.int .i64 n) G0 s119.2),(1014,.box 41 Ez)]))] Q6 (by kernel_rfl) rfl rfl ?_
  refine Gp (u:=Eo i119) O O ⟨Gr (G6 O O) O,Gr (G6 O O) O,ø⟩ (Gp (u:=G0 ((i119+1:Nat):Int)) O O ⟨Gr (Hu (Hj hk119 hm27) O O O) O,Gr (Hu (Hj hk119 hm27) O O O) O,ø⟩ (Gp (u:=G0 v125) O O ⟨Gr (J1c hv125 O O O) O,Gr (J1c hv125 O O O) O,ø⟩ (Gp (u:=.dptr [BL y119.High]) O O ⟨Gr (Ga J0a O O O) O,Gr (Ga J0a O O O) O,ø⟩ (Gp (u:=BL y119.High) O O ⟨Gr (Gh Qm O O O) O,Gr (Gh Qm O O O) O,ø⟩ (Gp (u:=.dptr ((Hi.cs y119).drop 1)) O O ⟨Gr (Ga J0c O O O) O,Gr (Ga J0c O O O) O,ø⟩ (Gp (u:=U8 y119.Kilos) O O ⟨Gr (Gh Hz O O O) O,Gr (Gh Hz O O O) O,ø⟩ (Gp (u:=G0 v126) O O ⟨Gr (G4e Zf G18 hv126 O O) O,Gr (G4e Zf G18 hv126 O O) O,ø⟩ (Gp (u:=G0 v127) O O ⟨Gr (J1c hv127 O O O) O,Gr (J1c hv127 O O O) O,ø⟩ (Gp (u:=G0 v128) O O ⟨Gr (Hu hv128 O O O) O,Gr (Hu hv128 O O O) O,ø⟩ (Gp (u:=.dptr ((Hi.cs y119).drop 2)) O O ⟨Gr (Ga J0b O O O) O,Gr (Ga J0b O O O) O,ø⟩ (Gp (u:=U8 y119.Load) O O ⟨Gr (Gh Hz O O O) O,Gr (Gh Hz O O O) O,ø⟩ (Gp (u:=G0 v129) O O ⟨Gr (G4e Zf G18 hv129 O O) O,Gr (G4e Zf G18 hv129 O O) O,ø⟩ (Gp (u:=G0 calls) O O ⟨Gr (G6 O O) O,Gr (G6 O O) O,ø⟩ ?_)))))))))))))
  refine Gp (u:=G0 v130) O O ⟨Gr (Zn hv130 O O O) O,Gr (Zn hv130 O O O) O,ø⟩ (Gp (u:=G0 v131) O O ⟨Gr (J6d (Rn hv131).1 (Rn hv131).2 O O O) O,Gr (J6d (Rn hv131).1 (Rn hv131).2 O O O) O,ø⟩ (Gp (u:=.agg [G0 v125,ST ByteArray.empty,U8 40,BL y119.High,G0 v128,G0 v131,G0 0,U8 0,BL false]) O O ⟨Gr (J3 (cs:=[G0 v125,ST ByteArray.empty,U8 40,BL y119.High,G0 v128,G0 v131,G0 0,U8 0,BL false]) [(0,1),(1,1),(2,1),(3,1),(4,1),(5,1),(6,1),(7,1),(8,1)] [G0 0,ST ByteArray.empty,U8 0,BL false,G0 0,G0 0,G0 0,U8 0,BL false] [E0,.string ByteArray.empty,.int .u8 0,.bool false,E0,E0,E0,.int .u8 0,.bool false] Gb9 Gd3 ⟨.inl O,.inl O,.inl O,.inl O,.inl O,.inl O,.inl O,.inl O,.inl O,ø⟩ O O) O,Gr (J3 (cs:=[G0 v125,ST ByteArray.empty,U8 40,BL y119.High,G0 v128,G0 v131,G0 0,U8 0,BL false]) [(0,1),(1,1),(2,1),(3,1),(4,1),(5,1),(6,1),(7,1),(8,1)] [G0 0,ST ByteArray.empty,U8 0,BL false,G0 0,G0 0,G0 0,U8 0,BL false] [E0,.string ByteArray.empty,.int .u8 0,.bool false,E0,E0,E0,.int .u8 0,.bool false] Gb9 Gd3 ⟨.inl O,.inl O,.inl O,.inl O,.inl O,.inl O,.inl O,.inl O,.inl O,ø⟩ O O) O,ø⟩ (D_w (u:=.ptr 1017 0) O O O O (Gr (Hx 1017 9 Rz O O) O) (J08 (u:=.junk) O O O O (Gr (Hd (u:=.agg [G0 v125,ST ByteArray.empty,U8 40,BL y119.High,G0 v128,G0 v131,G0 0,U8 0,BL false]) (ds:=[G0 v125,ST ByteArray.empty,U8 40,BL y119.High,G0 v128,G0 v131,G0 0,U8 0,BL false]) Zo O O O O O O O O) O) (Yd ?_)))))
  refine hK124 (Js fun hK132=>?_)
  refine Rm (l':=[(2,G0 calls),(4,Ef s),(9,.ptr 1014 0),(10,OW 1015 9 Gd.av s119.1),(11,.mp 1021),(13,.dptr (Hi.cs y119)),(14,.ptr 1017 0),(26,Ed (l.take m6)),(27,G0 ((l.take m6).length:Int)),(28,Eo i119)]) (L':=[(1015,.spare 52 9 s119.1.length s119.1.length),(1021,MP 70 (fun n:Int=>Value.int .i64 n) G0 s119.2),(1014,.box 41 Ez),(1017,.box 52 [G0 v125,ST ByteArray.empty,U8 40,BL y119.High,G0 v128,G0 v131,G0 0,U8 0,BL false])]) ⟨(.sm O O),⟨⟨_,rfl,.same⟩,⟨_,rfl,.map⟩,⟨_,rfl,.boxL rfl (.sm O O)⟩,⟨_,rfl,.boxL rfl (.sm O O)⟩,ø⟩,rfl⟩ ?_
  obtain⟨v133,hv133,h⟩:=Hv h
  obtain⟨v134,hv134,h⟩:=Hv h
  obtain⟨v135,hv135,h⟩:=Hv h
  obtain⟨v136,hv136,h⟩:=Hv h
  obtain⟨v137,hv137,h⟩:=Ge h
  obtain⟨v138,hv138,h⟩:=Hv h
  refine Jy [14] [0,0,0,0,0,0,0,0,0,0,0,0,0,0,0] [0,0,0,0,0,0,0,0,0,0,0,0,0,0,0] [[(1015,.spare 52 9 s119.1.length s119.1.length),(1021,MP 70 (fun n:Int=>Value.int .i64 n) G0 s119.2),(1014,.box 41 Ez),(1017,.box 52 [G0 v125,ST ByteArray.empty,U8 40,BL y119.High,G0 v128,G0 v131,G0 0,U8 0,BL false])],((1017,.box 52 [G0 v125,ST ByteArray.empty,U8 40,BL y119.High,G0 v128,G0 v131,G0 v138,U8 0,BL false])::[(1015,.spare 52 9 s119.1.length s119.1.length),(1021,MP 70 (fun n:Int=>Value.int .i64 n) G0 s119.2),(1014,.box 41 Ez),(1017,.box 52 [G0 v125,ST ByteArray.empty,U8 40,BL y119.High,G0 v128,G0 v131,G0 0,U8 0,BL false])])] Q6 (by kernel_rfl) rfl rfl ?_
  refine Gp (u:=.ptr 1017 5) O O ⟨Gr (Jp G02 O O) O,ø⟩ (Gp (u:=G0 v131) O O ⟨Gr (Qu Gb O O O O) O,ø⟩ (Gp (u:=G0 v133) O O ⟨Gr (Hu hv133 O O O) O,ø⟩ (Gp (u:=.dptr ((Hi.cs y119).drop 3)) O O ⟨Gr (Ga Q49 O O O) O,ø⟩ (Gp (u:=U8 y119.Stay) O O ⟨Gr (Gh Hz O O O) O,ø⟩ (Gp (u:=G0 v134) O O ⟨Gr (G4e Zf G18 hv134 O O) O,ø⟩ (Gp (u:=G0 calls) O O ⟨Gr (G6 O O) O,ø⟩ (Gp (u:=G0 v135) O O ⟨Gr (Zn hv135 O O O) O,ø⟩ (Gp (u:=.ptr 1017 5) O O ⟨Gr (Jp G02 O O) O,ø⟩ (Gp (u:=G0 v131) O O ⟨Gr (Qu Gb O O O O) O,ø⟩ (Gp (u:=G0 v136) O O ⟨Gr (Zn hv136 O O O) O,ø⟩ (Gp (u:=G0 v137) O O ⟨Gr (J6d (Rn hv137).1 (Rn hv137).2 O O O) O,ø⟩ (Gp (u:=G0 v138) O O ⟨Gr (Hu hv138 O O O) O,ø⟩ (Gp (u:=.ptr 1017 6) O O ⟨Gr (Jp G27 O O) O,ø⟩ ?_)))))))))))))
  refine J08 (u:=.junk) O O O O (Gr (Hd (u:=G0 v138) (ds:=[G0 v125,ST ByteArray.empty,U8 40,BL y119.High,G0 v128,G0 v131,G0 v138,U8 0,BL false]) Zj O O O O O O O O) O) (Yd (hK132 ?_))
  obtain⟨kj139,hkj139,h⟩:=Qo h
  refine Jx (fun j139:Int×Bool=>kj139 j139=some r) (fun j139=>[(2,G0 calls),(4,Ef s),(9,.ptr 1014 0),(10,OW 1015 9 Gd.av s119.1),(11,.mp 1021),(13,.dptr (Hi.cs y119)),(14,.ptr 1017 0),(26,Ed (l.take m6)),(27,G0 ((l.take m6).length:Int)),(28,Eo i119)]) (fun j139=>[(1015,.spare 52 9 s119.1.length s119.1.length),(1021,MP 70 (fun n:Int=>Value.int .i64 n) G0 s119.2),(1014,.box 41 Ez),(1017,.box 52 [G0 v125,ST ByteArray.empty,U8 j139.1,BL j139.2,G0 v128,G0 v131,G0 v138,U8 0,BL false])]) (fun Kj139 ej139=>?_) ?_
  ·
   refine Jr fun hK140=>(JLh (.dptr [BL y119.Small,BL y119.High]) (Ga Q48 O O O) O (JLh (BL y119.Small) (Gh Qm O O O) O (G7 (hK140 (JCc O h (fun h hb=>?_) (fun h hb=>?_))))))
   ·
    refine G3 (JLh (.ptr 1017 2) (Jp G03 O O) O (Hw (u:=.junk) (Hd (u:=U8 20) (ds:=[G0 v125,ST ByteArray.empty,U8 20,BL y119.High,G0 v128,G0 v131,G0 v138,U8 0,BL false]) tf_size_5 O O O O O O O O) (JLh (.ptr 1017 3) (Jp H6b O O) O (Hw (u:=.junk) (Hd (u:=BL false) (ds:=[G0 v125,ST ByteArray.empty,U8 20,BL false,G0 v128,G0 v131,G0 v138,U8 0,BL false]) tf_size_4 O O O O O O O O) (G7 (ej139 _ _ (20,false) h ⟨(.sm O O),⟨⟨_,rfl,.same⟩,⟨_,rfl,.map⟩,⟨_,rfl,.boxL rfl (.sm O O)⟩,⟨_,rfl,.boxL rfl (.sm O O)⟩,ø⟩,rfl⟩))))))
   ·
    refine Gi (ej139 _ _ (40,y119.High) h ⟨(.sm O O),⟨⟨_,rfl,.same⟩,⟨_,rfl,.map⟩,⟨_,rfl,.boxL rfl (.sm O O)⟩,⟨_,rfl,.boxL rfl (.sm O O)⟩,ø⟩,rfl⟩)
  ·intro j139 h
   replace h:=app1 hkj139 h
   refine Js fun hK141=>?_
   refine Rm (l':=[(2,G0 calls),(4,Ef s),(9,.ptr 1014 0),(10,OW 1015 9 Gd.av s119.1),(11,.mp 1021),(13,.dptr (Hi.cs y119)),(14,.ptr 1017 0),(26,Ed (l.take m6)),(27,G0 ((l.take m6).length:Int)),(28,Eo i119)]) (L':=[(1015,.spare 52 9 s119.1.length s119.1.length),(1021,MP 70 (fun n:Int=>Value.int .i64 n) G0 s119.2),(1014,.box 41 Ez),(1017,.box 52 [G0 v125,ST ByteArray.empty,U8 j139.1,BL j139.2,G0 v128,G0 v131,G0 v138,U8 0,BL false])]) ⟨(.sm O O),⟨⟨_,rfl,.same⟩,⟨_,rfl,.map⟩,⟨_,rfl,.boxL rfl (.sm O O)⟩,⟨_,rfl,.boxL rfl (.sm O O)⟩,ø⟩,rfl⟩ ?_
   obtain⟨v142,hv142,h⟩:=Hv h
   obtain⟨v143,hv143,h⟩:=Ge h
   refine Jy [10] [0,0,0,0,0,0,0,0,0,0,0] [0,0,0,0,0,0,0,0,0,0,0] [[(1015,.spare 52 9 s119.1.length s119.1.length),(1021,MP 70 (fun n:Int=>Value.int .i64 n) G0 s119.2),(1014,.box 41 Ez),(1017,.box 52 [G0 v125,ST ByteArray.empty,U8 j139.1,BL j139.2,G0 v128,G0 v131,G0 v138,U8 0,BL false])],((1021,MP 70 (fun n:Int=>Value.int .i64 n) G0 (H0.put s119.2 v125 v143))::[(1015,.spare 52 9 s119.1.length s119.1.length),(1021,MP 70 (fun n:Int=>Value.int .i64 n) G0 s119.2),(1014,.box 41 Ez),(1017,.box 52 [G0 v125,ST ByteArray.empty,U8 j139.1,BL j139.2,G0 v128,G0 v131,G0 v138,U8 0,BL false])])] Q6 (by kernel_rfl) rfl rfl ?_
   refine Gp (u:=.mp 1021) O O ⟨Gr (G6 O O) O,ø⟩ (Gp (u:=.ptr 1017 0) O O ⟨Gr (Jp Qf O O) O,ø⟩ (Gp (u:=G0 v125) O O ⟨Gr (Qu Gb O O O O) O,ø⟩ (Gp (u:=.dptr (Hi.cs y119)) O O ⟨Gr (Ga Q4a O O O) O,ø⟩ (Gp (u:=U8 y119.G4) O O ⟨Gr (Gh Hz O O O) O,ø⟩ (Gp (u:=G0 v142) O O ⟨Gr (G4e Zf G18 hv142 O O) O,ø⟩ (Gp (u:=Ef s) O O ⟨Gr (Ga J6 O O O) O,ø⟩ (Gp (u:=E4 s.Columns) O O ⟨Gr (Gh Jj O O O) O,ø⟩ (Gp (u:=Eo s.Columns.length) O O ⟨Gr (Yv (f:=G4.av) (xs:=s.Columns) Je O O) O,ø⟩ (Gp (u:=G0 v143) O O ⟨Gr (J6d (Rn hv143).1 (Rn hv143).2 O O O) O,ø⟩ (J08 (u:=.junk) O O O O (Gr (H1c (m:=s119.2) (a:=v125) (v:=v143) O O O O O O tk_3 Q53) O) (Yd ?_)))))))))))
   refine hK141 ?_
   refine Gq [(2,G0 calls),(4,Ef s),(9,.ptr 1014 0),(10,OW 1015 9 Gd.av s119.1),(11,.mp 1021),(14,.dptr [G0 v125,ST ByteArray.empty,U8 j139.1,BL j139.2,G0 v128,G0 v131,G0 v138,U8 0,BL false]),(26,Ed (l.take m6)),(27,G0 ((l.take m6).length:Int)),(28,Eo i119)] [(1015,.spare 52 9 s119.1.length s119.1.length),(1021,MP 70 (fun n:Int=>Value.int .i64 n) G0 (H0.put s119.2 v125 v143)),(1014,.box 41 Ez)] 1017 rfl rfl rfl ⟨⟨_,rfl,.same⟩,⟨_,rfl,.map⟩,⟨_,rfl,.boxEq rfl rfl⟩,ø⟩ rfl (by repeat' (first | exact .ptr | constructor)) ?_
   refine G3 (Yb (OW 1015 9 Gd.av s119.1) O (JLh (.agg [G0 v125,ST ByteArray.empty,U8 j139.1,BL j139.2,G0 v128,G0 v131,G0 v138,U8 0,BL false]) (Gg G08 O O O) O (JLh (E3 [(Gd.mk v125 ByteArray.empty j139.1 j139.2 v128 v131 v138 0 false)]) (H6 (xs:=[.agg [G0 v125,ST ByteArray.empty,U8 j139.1,BL j139.2,G0 v128,G0 v131,G0 v138,U8 0,BL false]]) O ⟨O,O,ø⟩ Q4 Rz O O O O) O ?_)))
   obtain⟨ha144,h⟩:=Jd h
   refine JLh (OW 1015 9 Gd.av (s119.1++[(Gd.mk v125 ByteArray.empty j139.1 j139.2 v128 v131 v138 0 false)])) (Qk (f:=Gd.av) (xs:=s119.1) (ys:=[(Gd.mk v125 ByteArray.empty j139.1 j139.2 v128 v131 v138 0 false)]) O O O O Q4 Jea ha144 (fun _=>O) (.inl O) O) O (Yb (OW 1015 9 Gd.av (s119.1++[(Gd.mk v125 ByteArray.empty j139.1 j139.2 v128 v131 v138 0 false)])) O (G7 (hK122 (G3 (JLh (G0 ((i119+1:Nat):Int)) (Hu (Hj hk119 hm27) O O O) O (Yb (G0 ((i119+1:Nat):Int)) O (G7 (e119 _ _ (i119+1) ((s119.1++[(Gd.mk v125 ByteArray.empty j139.1 j139.2 v128 v131 v138 0 false)]),(H0.put s119.2 v125 v143)) (app1 hn119 h) (by omega) ⟨(.sm O O),⟨⟨_,rfl,.same⟩,⟨_,rfl,.map⟩,⟨_,rfl,.boxL rfl (.sm O O)⟩,ø⟩,rfl⟩))))))))
 ·
  have h:=app1 hkx119 (Ht hi119 (Ha hb))
  refine Hm (hK4 (Js fun hK145=>Jr fun hK146=>(Yb (OW 1015 9 Gd.av s119.1) O (JLl Q4 O O O fun hm84=>?_))))
  obtain⟨v147,hv147,h⟩:=Hv h
  refine JLh (G0 v147) (Hu hv147 O O O) O (Yb (G0 0) O (G7 (hK146 (Gj ?_))))
  obtain⟨hx148,h⟩:=Jd h
  obtain⟨b148,kx148,hb148,hkx148,h⟩:=H52 h
  refine Hb (fun i148 (s148:(List Gd)×(H0 Int Int))=>upto b148 kx148 (v147.toNat - i148) i148 s148=some r) (fun i148 s148=>[(2,G0 calls),(4,Ef s),(9,.ptr 1014 0),(10,E3 s148.1),(11,.mp 1021),(85,G0 v147),(86,Eo i148)]) (fun i148 s148=>[(1021,MP 70 (fun n:Int=>Value.int .i64 n) G0 s148.2),(1014,.box 41 Ez)]) (fun i148=>v147.toNat - i148) 0 (s119.1,s119.2) h ⟨⟨.same O,.same O,.same O,.list O,.same O,.same O,.same O,ø⟩,⟨⟨_,O,.map⟩,⟨_,O,.boxL O (.sm O O)⟩,ø⟩,O⟩ ?_
  clear h
  intro i148 s148 hi148 K148 e148
  refine Jr fun hK149=>(JLh (BL (decide ((i148:Int) < v147))) (J0 O O O) O (G7 (hK149 (Js fun hK150=>Gf O (fun hb=>?_) (fun hb=>?_)))))
  ·
   have hk148:=Gf4 hb
   obtain⟨nx148,hn148,h⟩:=Gee hi148 hk148
   replace h:=app3 hb148 h
   refine Gi (hK150 (Js fun hK151=>Gj (Jr fun hK152=>(JLh (.agg (Gw.cs s)) (Gg Ho O O O) O (Yb (E3 s148.1) O (Yb (.mp 1021) O (Yb (G0 calls) O ?_)))))))
   obtain⟨r153,hr153,h⟩:=Ge h
   refine JLh (.tup [.agg [LS 1 (E1) r153.1.States,LS 1 (E2) r153.1.Water],G0 r153.2.1]) (Ry (args:=[.agg (Gw.cs s),E3 s148.1,.mp 1021,G0 calls]) (L0:=[(1021,MP 70 (fun n:Int=>Value.int .i64 n) G0 s148.2)]) (Lr:=[(1021,MP 70 (fun n:Int=>Value.int .i64 n) G0 r153.2.2)]) O (Gb4 F s s148.1 s148.2 calls r153 hr153) Qe0 ⟨.inl O,O,.inl O,O,.inl O,O,.inl O,O,ø⟩ ⟨O,ø⟩ O O O) O (Yb (.tup [.agg [LS 1 (E1) r153.1.States,LS 1 (E2) r153.1.Water],G0 r153.2.1]) O (JLh (.agg [LS 1 (E1) r153.1.States,LS 1 (E2) r153.1.Water]) (Hk O O O) O (JLh (G0 r153.2.1) (Hk O O O) O (JLh (.ptr 1018 0) (Hx 1018 2 J8e O O) O (Hw (u:=.junk) (Hd (u:=.agg [LS 1 (E1) r153.1.States,LS 1 (E2) r153.1.Water]) (ds:=[LS 1 (E1) r153.1.States,LS 1 (E2) r153.1.Water]) Gd4 O O O O O O O O) (Yb (G0 r153.2.1) O (G7 (hK152 ?_))))))))
   refine Gq [(2,G0 calls),(4,Ef s),(9,.ptr 1014 0),(10,E3 s148.1),(11,.mp 1021),(15,.dptr [LS 1 (E1) r153.1.States,LS 1 (E2) r153.1.Water]),(16,G0 r153.2.1),(85,G0 v147),(86,Eo i148)] [(1021,MP 70 (fun n:Int=>Value.int .i64 n) G0 r153.2.2),(1014,.box 41 Ez)] 1018 rfl rfl rfl ⟨⟨_,rfl,.map⟩,⟨_,rfl,.boxEq rfl rfl⟩,ø⟩ rfl (by repeat' (first | exact .ptr | constructor)) (Js fun hK154=>?_)
   refine Jr fun hK155=>(Yb (G0 r153.2.1) O (JLh (BL (decide (r153.2.1=0))) (Jz O O O) O (G7 (hK155 (JCc O h (fun h hb=>?_) (fun h hb=>?_))))))
   ·
    refine Js fun hK156=>Rm (l':=[(9,.ptr 1014 0),(10,E3 s148.1),(15,.dptr [LS 1 (E1) r153.1.States,LS 1 (E2) r153.1.Water])]) (L':=[(1021,MP 70 (fun n:Int=>Value.int .i64 n) G0 r153.2.2),(1014,.box 41 Ez)]) ⟨(.sm O O),⟨⟨_,O,.map⟩,⟨_,O,.boxL O (.sm O O)⟩,ø⟩,O⟩ ?_
    refine Jy [3] [0,0,0,0] [0,0,0,0] [[(1021,MP 70 (fun n:Int=>Value.int .i64 n) G0 r153.2.2),(1014,.box 41 Ez)],((1014,.box 41 [LS 1 (E1) r153.1.States,LS 1 (E2) r153.1.Water])::[(1021,MP 70 (fun n:Int=>Value.int .i64 n) G0 r153.2.2),(1014,.box 41 Ez)])] Q6 (by kernel_rfl) rfl rfl ?_
    refine Gp (u:=E3 s148.1) O O ⟨Gr (G6 O O) O,ø⟩ (Gp (u:=.agg [LS 1 (E1) r153.1.States,LS 1 (E2) r153.1.Water]) O O ⟨Gr (Gg Ga6 O O O) O,ø⟩ (Gp (u:=E3 s148.1) O O ⟨Gr (G8 O O) O,ø⟩ (J08 (u:=.junk) O O O O (Gr (Hd (u:=.agg [LS 1 (E1) r153.1.States,LS 1 (E2) r153.1.Water]) (ds:=[LS 1 (E1) r153.1.States,LS 1 (E2) r153.1.Water]) Gd4 O O O O O O O O) O) (Yd (hK156 (Gs (⟨[E3 s148.1,.agg [LS 1 (E1) r153.1.States,LS 1 (E2) r153.1.Water]],[],ø,O,⟨⟨_,O,.conv (.same O)⟩,⟨_,⟨_,_,_,_,O,O,O,.inl ⟨Ga6,O⟩⟩,.conv (.same O)⟩,ø⟩,O,congrArg (fun r:(List Gd)×H4e=>(.tup [E3 r.1,.agg [LS 1 (E1) r.2.States,LS 1 (E2) r.2.Water]]:AV)) (Option.some.inj h)⟩)))))))
   ·
    refine Gi (hK154 (Jr fun hK157=>(JLh (OW 1019 9 Gd.av ([]:List Gd)) (G24 1019 52 9 O O O) O (G7 (hK157 (Js fun hK158=>Jr fun hK159=>(Yb (E3 s148.1) O (JLl Q4 O O O fun hm101=>(Yb (G0 0) O (G7 (hK159 (Gj ?_))))))))))))
    obtain⟨b174,kx174,hb174,hkx174,h⟩:=J2 h
    refine Hb (fun i174 (s174:(List Gd))=>each b174 kx174 (List.drop i174 s148.1) i174 s174=some r) (fun i174 s174=>[(2,G0 calls),(4,Ef s),(9,.ptr 1014 0),(11,.mp 1021),(16,G0 r153.2.1),(17,OW 1019 9 Gd.av s174),(85,G0 v147),(86,Eo i148),(100,E3 s148.1),(101,Eo s148.1.length),(102,Eo i174)]) (fun i174 s174=>[(1021,MP 70 (fun n:Int=>Value.int .i64 n) G0 r153.2.2),(1019,.spare 52 9 s174.length s174.length),(1014,.box 41 Ez)]) (fun i174=>s148.1.length - i174) 0 [] h ⟨(.sm O O),⟨⟨_,rfl,.map⟩,⟨_,rfl,.same⟩,⟨_,rfl,.boxL rfl (.sm O O)⟩,ø⟩,rfl⟩ ?_
    clear h
    intro i174 s174 hi174 K174 e174
    refine Jr fun hK175=>(JLh (BL (decide ((i174:Int) < (s148.1.length:Int)))) (J0 O O O) O (G7 (hK175 (Js fun hK176=>Gf O (fun hb=>?_) (fun hb=>?_)))))
    ·
     have hk174:=Jk hb
     obtain⟨y174,nx174,hy174,hn174,h⟩:=Hs hi174 hk174
     replace h:=Y4 hb174 h
     refine Gi (hK176 ?_)
     obtain⟨kj177,hkj177,h⟩:=Qo h
     refine Jx (fun j177:(List Gd)=>kj177 j177=some r) (fun j177=>[(2,G0 calls),(4,Ef s),(9,.ptr 1014 0),(11,.mp 1021),(16,G0 r153.2.1),(17,OW 1019 9 Gd.av j177),(85,G0 v147),(86,Eo i148),(100,E3 s148.1),(101,Eo s148.1.length),(102,Eo i174)]) (fun j177=>[(1021,MP 70 (fun n:Int=>Value.int .i64 n) G0 r153.2.2),(1019,.spare 52 9 j177.length j177.length),(1014,.box 41 Ez)]) (fun Kj177 ej177=>?_) ?_
     ·
      refine Gj (Jr fun hK178=>(JLh (Eh y174) (H3 (f:=Gd.av) (xs:=s148.1) (y:=y174) O O O Q4 hy174 O) O (JLh (.agg (Gd.cs y174)) (Gg G08 O O O) O (JLh (.ptr 1020 0) (Hx 1020 9 Rz O O) O (Hw (u:=.junk) (Hd (u:=.agg (Gd.cs y174)) (ds:=(Gd.cs y174)) Zo O O O O O O O O) (G7 (hK178 ?_)))))))
      refine Gq [(2,G0 calls),(4,Ef s),(9,.ptr 1014 0),(11,.mp 1021),(16,G0 r153.2.1),(17,OW 1019 9 Gd.av s174),(19,Eh y174),(85,G0 v147),(86,Eo i148),(100,E3 s148.1),(101,Eo s148.1.length),(102,Eo i174)] [(1021,MP 70 (fun n:Int=>Value.int .i64 n) G0 r153.2.2),(1019,.spare 52 9 s174.length s174.length),(1014,.box 41 Ez)] 1020 rfl rfl rfl ⟨⟨_,rfl,.map⟩,⟨_,rfl,.same⟩,⟨_,rfl,.boxEq rfl rfl⟩,ø⟩ rfl (by repeat' (first | exact .ptr | constructor)) ?_
      refine Jr fun hK179=>(JLh (Eh y174) (Ga Qf O O O) O (JLh (G0 y174.ID) (Gh Gb O O O) O (Yb (G0 r153.2.1) O (JLh (BL (decide (y174.ID≠r153.2.1))) (G71 O O O) O (G7 (hK179 (JCc O h (fun h hb=>?_) (fun h hb=>?_))))))))
      ·
       refine G3 (Yb (OW 1019 9 Gd.av s174) O (JLh (.agg (Gd.cs y174)) (Gg G08 O O O) O (JLh (E3 [y174]) (H6 (xs:=[.agg (Gd.cs y174)]) O ⟨O,O,ø⟩ Q4 Rz O O O O) O ?_)))
       obtain⟨ha180,h⟩:=Jd h
       refine JLh (OW 1019 9 Gd.av (s174++[y174])) (Qk (f:=Gd.av) (xs:=s174) (ys:=[y174]) O O O O Q4 Jea ha180 (fun _=>O) (.inl O) O) O (Yb (OW 1019 9 Gd.av (s174++[y174])) O (G7 (ej177 _ _ (s174++[y174]) h ⟨(.sm O O),⟨⟨_,rfl,.map⟩,⟨_,rfl,.same⟩,⟨_,rfl,.boxL rfl (.sm O O)⟩,ø⟩,rfl⟩)))
      ·
       refine Gi (ej177 _ _ s174 h ⟨(.sm O O),⟨⟨_,rfl,.map⟩,⟨_,rfl,.same⟩,⟨_,rfl,.boxL rfl (.sm O O)⟩,ø⟩,rfl⟩)
     ·intro j177 h
      replace h:=app1 hkj177 h
      refine G3 (JLh (G0 ((i174+1:Nat):Int)) (Hu (Hj hk174 hm101) O O O) O (Yb (G0 ((i174+1:Nat):Int)) O (G7 (e174 _ _ (i174+1) j177 (app1 hn174 h) (by omega) ⟨(.sm O O),⟨⟨_,rfl,.map⟩,⟨_,rfl,.same⟩,⟨_,rfl,.boxL rfl (.sm O O)⟩,ø⟩,rfl⟩))))
    ·
     have h:=app1 hkx174 (Ht hi174 (Ha hb))
     refine Hm (hK158 (G3 (Yb (OW 1019 9 Gd.av s174) O (Yb (OW 1019 9 Gd.av s174) O (G7 (hK151 (G3 (JLh (G0 ((i148+1:Nat):Int)) (Hu (Hj hk148 (Ga3 hx148)) O O O) O (Yb (G0 ((i148+1:Nat):Int)) O (G7 (e148 _ _ (i148+1) (s174,r153.2.2) (app1 hn148 h) (by omega) ⟨⟨.same rfl,.same rfl,.same rfl,.list rfl,.same rfl,.same rfl,.same rfl,ø⟩,⟨⟨_,rfl,.map⟩,⟨_,rfl,.boxL rfl (.sm O O)⟩,ø⟩,rfl⟩)))))))))))
  ·
   have h:=app1 hkx148 (Gef hi148 (G1c hb))
   refine Hm (hK145 (Js fun hK181=>Rm (l':=[(2,G0 calls),(9,.ptr 1014 0)]) (L':=[(1021,MP 70 (fun n:Int=>Value.int .i64 n) G0 s148.2),(1014,.box 41 Ez)]) ⟨(.sm O O),⟨⟨_,O,.map⟩,⟨_,O,.boxL O (.sm O O)⟩,ø⟩,O⟩ ?_))
   obtain⟨m182,hm182,h⟩:=Ge h
   obtain⟨ha183,h⟩:=Jd h
   refine Jy [4] [0,0,0,0,0] [0,0,0,0,0] [[(1021,MP 70 (fun n:Int=>Value.int .i64 n) G0 s148.2),(1014,.box 41 Ez)],((1014,.box 41 [LS 1 (E1) (List.replicate m182 ([]:List Stowed)),LS 1 (E2) ([]:List (List Int))])::[(1021,MP 70 (fun n:Int=>Value.int .i64 n) G0 s148.2),(1014,.box 41 Ez)])] Q6 (by kernel_rfl) rfl rfl ?_
   refine Gp (u:=G0 calls) O O ⟨Gr (G6 O O) O,ø⟩ (Gp (u:=LS 1 (E1) (List.replicate m182 ([]:List Stowed))) O O ⟨Gr (A_makeDM (f:=(E1)) (n:=m182) [] [.slice none 0 0] O O O Qd Jeb Qa7 (natOf_out hm182) (natOf_out hm182) ha183 ⟨.inr ⟨_,O,O⟩,ø⟩ O) O,ø⟩ (Gp (u:=.agg [LS 1 (E1) (List.replicate m182 ([]:List Stowed)),LS 1 (E2) ([]:List (List Int))]) O O ⟨Gr (J3 (cs:=[LS 1 (E1) (List.replicate m182 ([]:List Stowed)),LS 1 (E2) ([]:List (List Int))]) [(0,1),(1,1)] Ez [.slice none 0 0,.slice none 0 0] J43 H23 ⟨.inr ⟨_,O,O⟩,.inr ⟨_,O,O⟩,ø⟩ O O) O,ø⟩ (Gp (u:=E3 ([]:List Gd)) O O ⟨Gr (Hf 9 O O) O,ø⟩ (J08 (u:=.junk) O O O O (Gr (Hd (u:=.agg [LS 1 (E1) (List.replicate m182 ([]:List Stowed)),LS 1 (E2) ([]:List (List Int))]) (ds:=[LS 1 (E1) (List.replicate m182 ([]:List Stowed)),LS 1 (E2) ([]:List (List Int))]) Gd4 O O O O O O O O) O) (Yd ?_)))))
   refine hK181 (Gs (⟨[E3 ([]:List Gd),.agg [LS 1 (E1) (List.replicate m182 ([]:List Stowed)),LS 1 (E2) ([]:List (List Int))]],[],ø,O,⟨⟨_,O,.conv (.same O)⟩,⟨_,⟨_,_,_,_,O,O,O,.inl ⟨Ga6,O⟩⟩,.conv (.same O)⟩,ø⟩,O,congrArg (fun r:(List Gd)×H4e=>(.tup [E3 r.1,.agg [LS 1 (E1) r.2.States,LS 1 (E2) r.2.Water]]:AV)) (Option.some.inj h)⟩))

def G92 (x:Stowed) (p1:Int):Option Bool:=
 some (decide (x.Gd=p1))
theorem Jc4 (x:Stowed) (p1:Int) (r:Bool) (h:G92 x p1=some r):Pure Ep 121 [.agg (Stowed.cs x),.dptr [G0 p1]] (·=BL r):=by
 unfold G92 at h
 refine Gz [.tmp 3] Tryz.func121 O O (Jr fun hK1=>(JLh (.ptr 1189 0) (Jm (cs:=[G0 x.Gd,G0 x.Slot.G4,G0 x.Slot.Tier,U8 x.Slot.Half]) 1189 O O O O O) O (Yb (BL false) O (G7 (hK1 (Gq [(1,.dptr [G0 p1]),(2,Eg x)] [] 1189 rfl rfl rfl ø rfl (by exact⟨.conv (.same rfl),.ptr,ø⟩) (Jr fun hK2=>(JLh (Eg x) (Ga J5 O O O) O (JLh (G0 x.Gd) (Gh Gb O O O) O (JLh (G0 p1) (Gh Gb O O O) O (JLh (BL (decide (x.Gd=p1))) (Jz O O O) O (Yb (BL (decide (x.Gd=p1))) O (G7 (hK2 (Gs (fin1 BL h))))))))))))))))

def Q2 (s:List Stowed) (f:Stowed→Option Bool):Option Int:=
 each (fun y20 i20 (s20:Unit) nx20=>
  bnd (f y20) fun r26=>
  bif r26 then
  (some (i20:Int))
  else
  (nx20 ()))
 (fun(s20:Unit)=>
  some (-1)) s 0 ()
theorem Z0 (s:List Stowed) (f:Stowed→Option Bool) (f_f:FuncId) (f_c:List AV) (f_B:H5 Ep f_f=true) (f_d:R0 (fun _=>false) f_c=true) (f_w:∀ a0 q,f a0=some q→Pure Ep f_f ([.agg (Stowed.cs a0)]++f_c) (·=BL q)) (r:Int) (h:Q2 s f=some r):Pure Ep 79 [E1 s,.fn f_f f_c] (·=G0 r):=by
 unfold Q2 at h
 refine Gz [.tmp 4] Tryz.func79 O O (Jr fun hK1=>(Yb (G0 0) O (G7 (hK1 (Js fun hK2=>Jr fun hK3=>(Yb (E1 s) O (JLl Gy O O O fun hm7=>(Yb (G0 0) O (G7 (hK3 (Gj ?_)))))))))))
 obtain⟨b20,kx20,hb20,hkx20,h⟩:=J2 h
 refine Hb (fun i20 (s20:Unit)=>each b20 kx20 (List.drop i20 s) i20 s20=some r) (fun i20 s20=>[(0,E1 s),(1,.fn f_f f_c),(7,Eo s.length),(8,Eo i20)]) (fun i20 s20=>[]) (fun i20=>s.length - i20) 0 () h ⟨⟨.same O,.same (He _ _ f_d),.same O,.same O,ø⟩,ø,O⟩ ?_
 clear h
 intro i20 s20 hi20 K20 e20
 refine Jr fun hK21=>(JLh (BL (decide ((i20:Int) < (s.length:Int)))) (J0 O O O) O (G7 (hK21 (Js fun hK22=>Gf O (fun hb=>?_) (fun hb=>?_)))))
 ·
  have hk20:=Jk hb
  obtain⟨y20,nx20,hy20,hn20,h⟩:=Hs hi20 hk20
  replace h:=Y4 hb20 h
  refine Gi (hK22 (Js fun hK23=>Gj (Jr fun hK24=>(Yb (Eo i20) O (Yb (Eo i20) O (G7 (hK24 (Jr fun hK25=>(Yb (.fn f_f f_c) O (Yb (E1 s) O (Yb (Eo i20) O (JLh (Eg y20) (H3 (f:=Stowed.av) (xs:=s) (y:=y20) O O O Gy hy20 O) O (JLh (.agg (Stowed.cs y20)) (Gg Jg O O O) O ?_)))))))))))))
  obtain⟨r26,hr26,h⟩:=Ge h
  refine JLh (BL r26) (G25 (args:=[.agg (Stowed.cs y20)]) (caps:=f_c) O O (f_w y20 _ hr26) f_B ⟨O,O,ø⟩ f_d) O (G7 (hK25 (JCc O h (fun h hb=>?_) (fun h hb=>?_))))
  ·
   refine Jr fun hK27=>(Yb (Eo i20) O (Yb (Eo i20) O (G7 (hK27 (Gs (fin1 G0 h))))))
  ·
   refine Gi (hK23 (G3 (JLh (G0 ((i20+1:Nat):Int)) (Hu (Hj hk20 hm7) O O O) O (Yb (G0 ((i20+1:Nat):Int)) O (G7 (e20 _ _ (i20+1) () (app1 hn20 h) (by omega) ⟨⟨.same rfl,.same (He _ _ f_d),.same rfl,.same rfl,ø⟩,ø,rfl⟩))))))
 ·
  have h:=app1 hkx20 (Ht hi20 (Ha hb))
  refine Hm (hK2 (Jr fun hK28=>(Yb (G0 (-1)) O (G7 (hK28 (Gs (fin1 G0 h)))))))

def G6d (l:List Stowed) (id_:Int):Option (Slot×Bool):=
 bnd (Q2 l (fun z0=>G92 z0 id_)) fun r3=>
 bif decide (r3 < 0) then
 (some ((Slot.mk 0 0 0),false))
 else
 (Q9 l r3 fun y8=>
  some (y8.Slot,true))
theorem H77 (l:List Stowed) (id_:Int) (r:Slot×Bool) (h:G6d l id_=some r):Pure Ep 99 [E1 l,G0 id_] (·=.tup [.agg (Slot.cs r.1),BL r.2]):=by
 unfold G6d at h
 refine Gz [.cell 4 54,.tmp 5] Tryz.func99 O O (Jr fun hK1=>(JLh (.ptr 1167 0) (Jm (cs:=[G0 id_]) 1167 O O O O O) O (JLh (.ptr 1168 0) (G54 1168 [G0 0,G0 0,U8 0] [E0,E0,.int .u8 0] H22 ⟨.inl O,.inl O,.inl O,ø⟩ O O) O (Yb (BL false) O (G7 (hK1 (Gq [(0,E1 l),(3,.dptr [G0 id_]),(4,.ptr 1168 0)] [(1168,.box 54 [G0 0,G0 0,U8 0])] 1167 rfl rfl rfl ⟨⟨_,rfl,.boxEq rfl rfl⟩,ø⟩ rfl (by exact⟨.conv (.same rfl),.ptr,.conv (.same rfl),ø⟩) (Jr fun hK2=>(Yb (E1 l) O (JLh (.fn 121 [.dptr [G0 id_]]) (Z1 (cs:=[.dptr [G0 id_]]) O O) O ?_))))))))))
 obtain⟨r3,hr3,h⟩:=Ge h
 refine JLh (G0 r3) (Gv O (Z0 l (fun z0=>G92 z0 id_) 121 [.dptr [G0 id_]] Q85 O (fun z0 q hq=>Jc4 z0 id_ q hq) r3 hr3) J24 ⟨O,O,O,O,ø⟩) O (Yb (G0 r3) O (G7 (hK2 (Js fun hK4=>Jr fun hK5=>(Yb (G0 r3) O (JLh (BL (decide (r3 < 0))) (J0 O O O) O (G7 (hK5 (JCc O h (fun h hb=>?_) (fun h hb=>?_))))))))))
 ·
  refine Jr fun hK6=>(JLh (.agg [G0 0,G0 0,U8 0]) (J3 (cs:=[G0 0,G0 0,U8 0]) [(0,1),(1,1),(2,1)] [G0 0,G0 0,U8 0] [E0,E0,.int .u8 0] H11 H22 ⟨.inl O,.inl O,.inl O,ø⟩ O O) O (Hw (u:=.junk) (Hd (u:=.agg [G0 0,G0 0,U8 0]) (ds:=[G0 0,G0 0,U8 0]) G44 O O O O O O O O) (Yb (BL false) O (G7 (hK6 (Gs (⟨[.agg [G0 0,G0 0,U8 0],BL false],[],ø,O,⟨⟨_,⟨_,_,_,_,O,O,O,.inl ⟨Jh,O⟩⟩,.conv (.same O)⟩,⟨_,O,.conv (.same O)⟩,ø⟩,O,congrArg (fun r:Slot×Bool=>(.tup [.agg (Slot.cs r.1),BL r.2]:AV)) (Option.some.inj h)⟩)))))))
 ·
  refine Gi (hK4 (Jr fun hK7=>(Yb (E1 l) O (Yb (G0 r3) O ?_))))
  obtain⟨m9,y8,hm9,hy8,h⟩:=Y0 h
  refine JLh (Eg y8) (H3 (f:=Stowed.av) (xs:=l) (y:=y8) O O O Gy hy8 hm9) O (JLh (.dptr ((Stowed.cs y8).drop 1)) (Ga Hr O O O) O (JLh (.agg ((Stowed.cs y8).drop 1)) (Gg Jh O O O) O (Hw (u:=.junk) (Hd (u:=.agg ((Stowed.cs y8).drop 1)) (ds:=[G0 y8.Slot.G4,G0 y8.Slot.Tier,U8 y8.Slot.Half]) G44 O O O O O O O O) (Yb (BL true) O (G7 (hK7 (Gs (⟨[.agg ((Stowed.cs y8).drop 1),BL true],[],ø,O,⟨⟨_,⟨_,_,_,_,O,O,O,.inl ⟨Jh,O⟩⟩,.conv (.same O)⟩,⟨_,O,.conv (.same O)⟩,ø⟩,O,congrArg (fun r:Slot×Bool=>(.tup [.agg (Slot.cs r.1),BL r.2]:AV)) (Option.some.inj h)⟩))))))))

def G52 (r_:Int) (p1:G4):Option Bool:=
 some (decide (r_=p1.Row))
theorem J64 (r_:Int) (p1:G4) (r:Bool) (h:G52 r_ p1=some r):Pure Ep 130 [G0 r_,Ei p1] (·=BL r):=by
 unfold G52 at h
 refine Gz [.tmp 3] Tryz.func130 O O (Jr fun hK1=>(Yb (BL false) O (G7 (hK1 (Jr fun hK2=>(Yb (G0 r_) O (JLh (.dptr ((G4.cs p1).drop 1)) (Ga G55 O O O) O (JLh (G0 p1.Row) (Gh Gb O O O) O (JLh (BL (decide (r_=p1.Row))) (Jz O O O) O (Yb (BL (decide (r_=p1.Row))) O (G7 (hK2 (Gs (fin1 BL h))))))))))))))

def G21 (l:List Int) (wanted:Int→Option Bool):Option (List Int):=
 each (fun y21 i21 (s21:(List Int)) nx21=>
  jp (fun kj24=>
   bnd (wanted y21) fun r27=>
   bif r27 then
   (need (decide ((s21.length+[(i21:Int)].length)*8≤140737488355328∧s21.length+[(i21:Int)].length≤maxLen)) <|
    kj24 (s21++[(i21:Int)]))
   else
   (kj24 s21)) fun(j24:(List Int))=>
  nx21 j24)
 (fun(s21:(List Int))=>
  some s21) l 0 []
theorem J05 (l:List Int) (wanted:Int→Option Bool) (wanted_f:FuncId) (wanted_c:List AV) (wanted_B:H5 Ep wanted_f=true) (wanted_d:R0 (fun _=>false) wanted_c=true) (wanted_w:∀ a0 q,wanted a0=some q→Pure Ep wanted_f ([G0 a0]++wanted_c) (·=BL q)) (r:(List Int)) (h:G21 l wanted=some r):Pure Ep 129 [E2 l,.fn wanted_f wanted_c] (·=E2 r):=by
 unfold G21 at h
 refine Gz [.tmp 4] Tryz.func129 O O (Jr fun hK1=>(JLh (E2 ([]:List Int)) (Hf 1 O O) O (G7 (hK1 (Jr fun hK2=>(JLh (OW 1191 1 G0 ([]:List Int)) (G24 1191 3 1 O O O) O (G7 (hK2 (Js fun hK3=>Jr fun hK4=>(Yb (E2 l) O (JLl Gt O O O fun hm9=>(Yb (G0 0) O (G7 (hK4 (Gj ?_)))))))))))))))
 obtain⟨b21,kx21,hb21,hkx21,h⟩:=J2 h
 refine Hb (fun i21 (s21:(List Int))=>each b21 kx21 (List.drop i21 l) i21 s21=some r) (fun i21 s21=>[(1,.fn wanted_f wanted_c),(5,OW 1191 1 G0 s21),(8,E2 l),(9,Eo l.length),(10,Eo i21)]) (fun i21 s21=>[(1191,.spare 3 1 s21.length s21.length)]) (fun i21=>l.length - i21) 0 [] h ⟨⟨.same (He _ _ wanted_d),.same O,.same O,.same O,.same O,ø⟩,⟨⟨_,O,.same⟩,ø⟩,O⟩ ?_
 clear h
 intro i21 s21 hi21 K21 e21
 refine Jr fun hK22=>(JLh (BL (decide ((i21:Int) < (l.length:Int)))) (J0 O O O) O (G7 (hK22 (Js fun hK23=>Gf O (fun hb=>?_) (fun hb=>?_)))))
 ·
  have hk21:=Jk hb
  obtain⟨y21,nx21,hy21,hn21,h⟩:=Hs hi21 hk21
  replace h:=Y4 hb21 h
  refine Gi (hK23 ?_)
  obtain⟨kj24,hkj24,h⟩:=Qo h
  refine Jx (fun j24:(List Int)=>kj24 j24=some r) (fun j24=>[(1,.fn wanted_f wanted_c),(5,OW 1191 1 G0 j24),(8,E2 l),(9,Eo l.length),(10,Eo i21)]) (fun j24=>[(1191,.spare 3 1 j24.length j24.length)]) (fun Kj24 ej24=>?_) ?_
  ·
   refine Gj (Jr fun hK25=>(Yb (Eo i21) O (JLh (.dptr [G0 y21]) (H3 (f:=G0) (xs:=l) (y:=y21) O O O Gt hy21 O) O (JLh (G0 y21) (Gh Gb O O O) O (Yb (Eo i21) O (Yb (G0 y21) O (G7 (hK25 (Jr fun hK26=>(Yb (.fn wanted_f wanted_c) O (Yb (G0 y21) O ?_)))))))))))
   obtain⟨r27,hr27,h⟩:=Ge h
   refine JLh (BL r27) (G25 (args:=[G0 y21]) (caps:=wanted_c) O O (wanted_w y21 _ hr27) wanted_B ⟨O,O,ø⟩ wanted_d) O (G7 (hK26 (JCc O h (fun h hb=>?_) (fun h hb=>?_))))
   ·
    refine G3 (Yb (OW 1191 1 G0 s21) O (Yb (Eo i21) O (JLh (E2 [(i21:Int)]) (H6 (xs:=[Eo i21]) O ⟨O,O,ø⟩ Gt Qn O O O O) O ?_)))
    obtain⟨ha28,h⟩:=Jd h
    refine JLh (OW 1191 1 G0 (s21++[(i21:Int)])) (Qk (f:=G0) (xs:=s21) (ys:=[(i21:Int)]) O O O O Gt Yy ha28 (fun _=>O) (.inl O) O) O (Yb (OW 1191 1 G0 (s21++[(i21:Int)])) O (G7 (ej24 _ _ (s21++[(i21:Int)]) h ⟨⟨.same (He _ _ wanted_d),.same O,.same O,.same O,.same O,ø⟩,⟨⟨_,O,.same⟩,ø⟩,O⟩)))
   ·
    refine Gi (ej24 _ _ s21 h ⟨⟨.same (He _ _ wanted_d),.same O,.same O,.same O,.same O,ø⟩,⟨⟨_,O,.same⟩,ø⟩,O⟩)
  ·intro j24 h
   replace h:=app1 hkj24 h
   refine G3 (JLh (G0 ((i21+1:Nat):Int)) (Hu (Hj hk21 hm9) O O O) O (Yb (G0 ((i21+1:Nat):Int)) O (G7 (e21 _ _ (i21+1) j24 (app1 hn21 h) (by omega) ⟨⟨.same (He _ _ wanted_d),.same rfl,.same rfl,.same rfl,.same rfl,ø⟩,⟨⟨_,rfl,.same⟩,ø⟩,rfl⟩))))
 ·
  have h:=app1 hkx21 (Ht hi21 (Ha hb))
  refine Hm (hK3 (Jr fun hK29=>(Yb (OW 1191 1 G0 s21) O (Yb (OW 1191 1 G0 s21) O (G7 (hK29 (Gs (fin1l (fun r:(List Int)=>(E2 r:AV)) h))))))))

def G59 (x:G9) (c:G4):Option Bool:=
 bnd (bif decide (x.Bay=c.Bay) then G21 x.Rows (fun z0=>G52 z0 c) else some default) fun r3=>
 some ((decide (x.Bay=c.Bay))&&(decide (0 < (r3.length:Int))))
theorem Hb6 (x:G9) (c:G4) (r:Bool) (h:G59 x c=some r):Pure Ep 115 [.agg [G0 x.Bay,E2 x.Rows],.agg (G4.cs c)] (·=BL r):=by
 unfold G59 at h
 refine Gz [.tmp 4] Tryz.func115 O O (Jr fun hK1=>(JLh (.ptr 1185 0) (Jm (cs:=[G0 x.Bay,E2 x.Rows]) 1185 O O O O O) O (JLh (.ptr 1186 0) (Jm (cs:=(G4.cs c)) 1186 O O O O O) O (Yb (BL false) O (G7 (hK1 (Gq [(2,.dptr [G0 x.Bay,E2 x.Rows]),(3,.ptr 1186 0)] [(1186,.box 65 (G4.cs c))] 1185 rfl rfl rfl ⟨⟨_,rfl,.boxEq rfl rfl⟩,ø⟩ rfl (by exact⟨.ptr,.conv (.same rfl),ø⟩) ?_)))))))
 refine Gq [(2,.dptr [G0 x.Bay,E2 x.Rows]),(3,Ei c)] [] 1186 rfl rfl rfl ø rfl (by exact⟨.conv (.same rfl),.ptr,ø⟩) ?_
 refine Jr fun hK2=>(JLh (.dptr [G0 x.Bay,E2 x.Rows]) (Ga G87 O O O) O (JLh (G0 x.Bay) (Gh Gb O O O) O (JLh (Ei c) (Ga G00 O O O) O (JLh (G0 c.Bay) (Gh Gb O O O) O (JLh (BL (decide (x.Bay=c.Bay))) (Jz O O O) O (Yb (BL (decide (x.Bay=c.Bay))) O (JLo (.dptr [E2 x.Rows]) [] O .sct ø (fun hc=>Ga Ge4 O O O) O (JLo (E2 x.Rows) [11] O .sct ⟨Ua,ø⟩ (fun hc=>Gh Z3 O O O) O (JLo (.fn 130 [.dptr (G4.cs c)]) [] O .sct ø (fun hc=>Z1 (cs:=[.dptr (G4.cs c)]) O O) O ?_)))))))))
 obtain⟨r3,hr3,h⟩:=Ge h
 refine JLo (E2 r3) [12,13] O .sct ⟨Ua,Ua,ø⟩ (fun hc=>Gv (args:=[E2 x.Rows,.fn 130 [.dptr (G4.cs c)]]) O (J05 x.Rows (fun z0=>G52 z0 c) 130 [.dptr (G4.cs c)] Q7e O (fun z0 q hq=>J64 z0 c q hq) r3 (Gx hc hr3)) Q7f ⟨O,O,O,O,ø⟩) O (JLo (Eo r3.length) [14] O .sct ⟨Ua,ø⟩ (fun hc=>Yv (f:=G0) (xs:=r3) Gt O O) O (JLo (BL (decide (0 < (r3.length:Int)))) [15] O .sct ⟨Ua,ø⟩ (fun hc=>G43 O O O) O (JLh (BL ((decide (x.Bay=c.Bay))&&(decide (0 < (r3.length:Int))))) (Qr O O O O) O (Yb (BL ((decide (x.Bay=c.Bay))&&(decide (0 < (r3.length:Int))))) O (G7 (hK2 ?_))))))
 refine Gs (fin1 BL h)

def G09 (x:G9) (p1:Gw) (p2:Int):Option Bool:=
 Q9 p1.Columns p2 fun y3=>
 bnd (G59 x y3) fun r5=>
 some r5
theorem J39 (x:G9) (p1:Gw) (p2:Int) (r:Bool) (h:G09 x p1 p2=some r):Pure Ep 114 [.agg [G0 x.Bay,E2 x.Rows],Ef p1,.dptr [G0 p2]] (·=BL r):=by
 unfold G09 at h
 refine Gz [.tmp 4] Tryz.func114 O O (Jr fun hK1=>(JLh (.ptr 1184 0) (Jm (cs:=[G0 x.Bay,E2 x.Rows]) 1184 O O O O O) O (Yb (BL false) O (G7 (hK1 (Gq [(1,Ef p1),(2,.dptr [G0 p2]),(3,.dptr [G0 x.Bay,E2 x.Rows])] [] 1184 rfl rfl rfl ø rfl (by exact⟨.conv (.same rfl),.conv (.same rfl),.ptr,ø⟩) (Js fun hK2=>?_)))))))
 obtain⟨m4,y3,hm4,hy3,h⟩:=Y0 h
 obtain⟨r5,hr5,h⟩:=Ge h
 refine JC_d0 Q6 (by kernel_rfl) (Dq (.agg [G0 x.Bay,E2 x.Rows]) (Gg H7b O O O) O (Dq (Ef p1) (Ga J6 O O O) O (Dq (E4 p1.Columns) (Gh Jj O O O) O (Dq (G0 p2) (Gh Gb O O O) O (Dq (Ei y3) (H3 (f:=G4.av) (xs:=p1.Columns) (y:=y3) O O O Je hy3 hm4) O (Dq (.agg (G4.cs y3)) (Gg G74 O O O) O (Dq (BL r5) (Gv (args:=[.agg [G0 x.Bay,E2 x.Rows],.agg (G4.cs y3)]) O (Hb6 x y3 r5 hr5) J92 ⟨O,O,O,O,ø⟩) O (Dq (BL r5) (G8 O O) O (Dnil (hK2 (Gs (fin1 BL h))))))))))))

def Yn (l:List G9) (wanted:G9→Option Bool):Option (List Int):=
 each (fun y21 i21 (s21:(List Int)) nx21=>
  jp (fun kj24=>
   bnd (wanted y21) fun r27=>
   bif r27 then
   (need (decide ((s21.length+[(i21:Int)].length)*8≤140737488355328∧s21.length+[(i21:Int)].length≤maxLen)) <|
    kj24 (s21++[(i21:Int)]))
   else
   (kj24 s21)) fun(j24:(List Int))=>
  nx21 j24)
 (fun(s21:(List Int))=>
  some s21) l 0 []
theorem H76 (l:List G9) (wanted:G9→Option Bool) (wanted_f:FuncId) (wanted_c:List AV) (wanted_B:H5 Ep wanted_f=true) (wanted_d:R0 (fun _=>false) wanted_c=true) (wanted_w:∀ a0 q,wanted a0=some q→Pure Ep wanted_f ([.agg [G0 a0.Bay,E2 a0.Rows]]++wanted_c) (·=BL q)) (r:(List Int)) (h:Yn l wanted=some r):Pure Ep 113 [E5 l,.fn wanted_f wanted_c] (·=E2 r):=by
 unfold Yn at h
 refine Gz [.tmp 4] Tryz.func113 O O (Jr fun hK1=>(JLh (E2 ([]:List Int)) (Hf 1 O O) O (G7 (hK1 (Jr fun hK2=>(JLh (OW 1182 1 G0 ([]:List Int)) (G24 1182 3 1 O O O) O (G7 (hK2 (Js fun hK3=>Jr fun hK4=>(Yb (E5 l) O (JLl Qs O O O fun hm9=>(Yb (G0 0) O (G7 (hK4 (Gj ?_)))))))))))))))
 obtain⟨b21,kx21,hb21,hkx21,h⟩:=J2 h
 refine Hb (fun i21 (s21:(List Int))=>each b21 kx21 (List.drop i21 l) i21 s21=some r) (fun i21 s21=>[(1,.fn wanted_f wanted_c),(5,OW 1182 1 G0 s21),(8,E5 l),(9,Eo l.length),(10,Eo i21)]) (fun i21 s21=>[(1182,.spare 3 1 s21.length s21.length)]) (fun i21=>l.length - i21) 0 [] h ⟨⟨.same (He _ _ wanted_d),.same O,.same O,.same O,.same O,ø⟩,⟨⟨_,O,.same⟩,ø⟩,O⟩ ?_
 clear h
 intro i21 s21 hi21 K21 e21
 refine Jr fun hK22=>(JLh (BL (decide ((i21:Int) < (l.length:Int)))) (J0 O O O) O (G7 (hK22 (Js fun hK23=>Gf O (fun hb=>?_) (fun hb=>?_)))))
 ·
  have hk21:=Jk hb
  obtain⟨y21,nx21,hy21,hn21,h⟩:=Hs hi21 hk21
  replace h:=Y4 hb21 h
  refine Gi (hK23 ?_)
  obtain⟨kj24,hkj24,h⟩:=Qo h
  refine Jx (fun j24:(List Int)=>kj24 j24=some r) (fun j24=>[(1,.fn wanted_f wanted_c),(5,OW 1182 1 G0 j24),(8,E5 l),(9,Eo l.length),(10,Eo i21)]) (fun j24=>[(1182,.spare 3 1 j24.length j24.length)]) (fun Kj24 ej24=>?_) ?_
  ·
   refine Gj (Jr fun hK25=>(Yb (Eo i21) O (JLh (.dptr [G0 y21.Bay,E2 y21.Rows]) (H3 (f:=G9.av) (xs:=l) (y:=y21) O O O Qs hy21 O) O (JLh (.agg [G0 y21.Bay,E2 y21.Rows]) (Gg H7b O O O) O (JLh (.ptr 1183 0) (Hx 1183 2 Gf0 O O) O (Yb (Eo i21) O (Hw (u:=.junk) (Hd (u:=.agg [G0 y21.Bay,E2 y21.Rows]) (ds:=[G0 y21.Bay,E2 y21.Rows]) Jdc O O O O O O O O) (G7 (hK25 ?_)))))))))
   refine Gq [(1,.fn wanted_f wanted_c),(5,OW 1182 1 G0 s21),(6,Eo i21),(7,.dptr [G0 y21.Bay,E2 y21.Rows]),(8,E5 l),(9,Eo l.length),(10,Eo i21)] [(1182,.spare 3 1 s21.length s21.length)] 1183 rfl rfl rfl ⟨⟨_,rfl,.same⟩,ø⟩ rfl (by exact⟨.conv (.same (He _ _ wanted_d)),.conv (.same rfl),.conv (.same rfl),.ptr,.conv (.same rfl),.conv (.same rfl),.conv (.same rfl),ø⟩) (Jr fun hK26=>(Yb (.fn wanted_f wanted_c) O (JLh (.agg [G0 y21.Bay,E2 y21.Rows]) (Gg H7b O O O) O ?_)))
   obtain⟨r27,hr27,h⟩:=Ge h
   refine JLh (BL r27) (G25 (args:=[.agg [G0 y21.Bay,E2 y21.Rows]]) (caps:=wanted_c) O O (wanted_w y21 _ hr27) wanted_B ⟨O,O,ø⟩ wanted_d) O (G7 (hK26 (JCc O h (fun h hb=>?_) (fun h hb=>?_))))
   ·
    refine G3 (Yb (OW 1182 1 G0 s21) O (Yb (Eo i21) O (JLh (E2 [(i21:Int)]) (H6 (xs:=[Eo i21]) O ⟨O,O,ø⟩ Gt Qn O O O O) O ?_)))
    obtain⟨ha28,h⟩:=Jd h
    refine JLh (OW 1182 1 G0 (s21++[(i21:Int)])) (Qk (f:=G0) (xs:=s21) (ys:=[(i21:Int)]) O O O O Gt Yy ha28 (fun _=>O) (.inl O) O) O (Yb (OW 1182 1 G0 (s21++[(i21:Int)])) O (G7 (ej24 _ _ (s21++[(i21:Int)]) h ⟨⟨.same (He _ _ wanted_d),.same O,.same O,.same O,.same O,ø⟩,⟨⟨_,O,.same⟩,ø⟩,O⟩)))
   ·
    refine Gi (ej24 _ _ s21 h ⟨⟨.same (He _ _ wanted_d),.same O,.same O,.same O,.same O,ø⟩,⟨⟨_,O,.same⟩,ø⟩,O⟩)
  ·intro j24 h
   replace h:=app1 hkj24 h
   refine G3 (JLh (G0 ((i21+1:Nat):Int)) (Hu (Hj hk21 hm9) O O O) O (Yb (G0 ((i21+1:Nat):Int)) O (G7 (e21 _ _ (i21+1) j24 (app1 hn21 h) (by omega) ⟨⟨.same (He _ _ wanted_d),.same rfl,.same rfl,.same rfl,.same rfl,ø⟩,⟨⟨_,rfl,.same⟩,ø⟩,rfl⟩))))
 ·
  have h:=app1 hkx21 (Ht hi21 (Ha hb))
  refine Hm (hK3 (Jr fun hK29=>(Yb (OW 1182 1 G0 s21) O (Yb (OW 1182 1 G0 s21) O (G7 (hK29 (Gs (fin1l (fun r:(List Int)=>(E2 r:AV)) h))))))))

def Qv (s:Gw) (column:Int):Option Int:=
 bif ((decide (column < 0))||(decide ((s.Columns.length:Int)≤column))) then
 (some (-1))
 else
 (bnd (Yn s.Covers (fun z0=>G09 z0 s column)) fun r6=>
  bif decide ((r6.length:Int)=0) then
  (some (-1))
  else
  (Q9 r6 0 fun y11=>
   some y11))
theorem G3a (s:Gw) (column:Int) (r:Int) (h:Qv s column=some r):Pure Ep 85 [.agg (Gw.cs s),G0 column] (·=G0 r):=by
 unfold Qv at h
 refine Gz [.tmp 4] Tryz.func85 O O (Jr fun hK1=>(JLh (.ptr 1155 0) (Jm (cs:=(Gw.cs s)) 1155 O O O O O) O (JLh (.ptr 1156 0) (Jm (cs:=[G0 column]) 1156 O O O O O) O (Yb (G0 0) O (G7 (hK1 ?_))))))
 refine Gq [(2,Ef s),(3,.ptr 1156 0)] [(1156,.box 3 [G0 column])] 1155 rfl rfl rfl ⟨⟨_,rfl,.boxEq rfl rfl⟩,ø⟩ rfl (by exact⟨.ptr,.conv (.same rfl),ø⟩) (Gq [(2,Ef s),(3,.dptr [G0 column])] [] 1156 rfl rfl rfl ø rfl (by exact⟨.conv (.same rfl),.ptr,ø⟩) (Js fun hK2=>?_))
 refine Jr fun hK3=>(JLh (G0 column) (Gh Gb O O O) O (JLh (BL (decide (column < 0))) (J0 O O O) O (Yb (BL (decide (column < 0))) O (JLo (G0 column) [] O .scf ø (fun hc=>Gh Gb O O O) O (JLo (Ef s) [] O .scf ø (fun hc=>Ga J6 O O O) O (JLo (E4 s.Columns) [10] O .scf ⟨Ua,ø⟩ (fun hc=>Gh Jj O O O) O (JLo (Eo s.Columns.length) [11] O .scf ⟨Ua,ø⟩ (fun hc=>Yv (f:=G4.av) (xs:=s.Columns) Je O O) O (JLo (BL (decide ((s.Columns.length:Int)≤column))) [9,12] O .scf ⟨Ua,Ua,ø⟩ (fun hc=>G2f O O O) O (JLh (BL ((decide (column < 0))||(decide ((s.Columns.length:Int)≤column)))) (G0b O O O O) O (G7 (hK3 ?_)))))))))))
 refine JCc O h ?_ ?_<;>intro h hb
 ·
  refine Jr fun hK4=>(Yb (G0 (-1)) O (G7 (hK4 (Gs (fin1 G0 h)))))
 ·
  refine Gi (hK2 ?_)
  refine Jr fun hK5=>(JLh (.dptr [E5 s.Covers,G0 s.Light.Kilos,G0 s.Light.X,G0 s.Light.Y,G0 s.Light.Z,E7 s.Rows,E8 s.Frames,E9 s.Tanks,G0 s.G2.Tolerance,G0 s.G2.Trim,G0 s.G2.List_,G0 s.G2.Stability]) (Ga Qq O O O) O (JLh (E5 s.Covers) (Gh Rx O O O) O (JLh (.fn 114 [.dptr (Gw.cs s),.dptr [G0 column]]) (Z1 (cs:=[.dptr (Gw.cs s),.dptr [G0 column]]) O O) O ?_)))
  obtain⟨r6,hr6,h⟩:=Ge h
  refine JLh (E2 r6) (Gv O (H76 s.Covers (fun z0=>G09 z0 s column) 114 [.dptr (Gw.cs s),.dptr [G0 column]] Q89 O (fun z0 q hq=>J39 z0 s column q hq) r6 hr6) Q8a ⟨O,O,O,O,ø⟩) O (Yb (E2 r6) O (G7 (hK5 (Js fun hK7=>Jr fun hK8=>(Yb (E2 r6) O (JLl Gt O O O fun hm20=>(JLh (BL (decide ((r6.length:Int)=0))) (Jz O O O) O (G7 (hK8 (JCc O h (fun h hb=>?_) (fun h hb=>?_)))))))))))
  ·
   refine Jr fun hK9=>(Yb (G0 (-1)) O (G7 (hK9 (Gs (fin1 G0 h)))))
  ·
   refine Gi (hK7 (Jr fun hK10=>(Yb (E2 r6) O ?_)))
   obtain⟨m12,y11,hm12,hy11,h⟩:=Y0 h
   refine JLh (.dptr [G0 y11]) (H3 (f:=G0) (xs:=r6) (y:=y11) O O O Gt hy11 hm12) O (JLh (G0 y11) (Gh Gb O O O) O (Yb (G0 y11) O (G7 (hK10 (Gs (fin1 G0 h))))))

def Gae (a:Slot) (b:Slot):Option Bool:=
 bnd (bif ((decide (a.G4=b.G4))&&(decide (b.Tier < a.Tier))) then G58 a.Half b.Half else some default) fun r3=>
 some (((decide (a.G4=b.G4))&&(decide (b.Tier < a.Tier)))&&r3)
theorem J18 (a:Slot) (b:Slot) (r:Bool) (h:Gae a b=some r):Pure Ep 100 [.agg [G0 a.G4,G0 a.Tier,U8 a.Half],.agg [G0 b.G4,G0 b.Tier,U8 b.Half]] (·=BL r):=by
 unfold Gae at h
 refine Gz [.tmp 4] Tryz.func100 O O (Jr fun hK1=>(JLh (.ptr 1169 0) (Jm (cs:=[G0 a.G4,G0 a.Tier,U8 a.Half]) 1169 O O O O O) O (JLh (.ptr 1170 0) (Jm (cs:=[G0 b.G4,G0 b.Tier,U8 b.Half]) 1170 O O O O O) O (Yb (BL false) O (G7 (hK1 (Gq [(2,.dptr [G0 a.G4,G0 a.Tier,U8 a.Half]),(3,.ptr 1170 0)] [(1170,.box 54 [G0 b.G4,G0 b.Tier,U8 b.Half])] 1169 rfl rfl rfl ⟨⟨_,rfl,.boxEq rfl rfl⟩,ø⟩ rfl (by exact⟨.ptr,.conv (.same rfl),ø⟩) (Gq [(2,.dptr [G0 a.G4,G0 a.Tier,U8 a.Half]),(3,.dptr [G0 b.G4,G0 b.Tier,U8 b.Half])] [] 1170 rfl rfl rfl ø rfl (by exact⟨.conv (.same rfl),.ptr,ø⟩) ?_))))))))
 refine Jr fun hK2=>(JLh (.dptr [G0 a.G4,G0 a.Tier,U8 a.Half]) (Ga J9 O O O) O (JLh (G0 a.G4) (Gh Gb O O O) O (JLh (.dptr [G0 b.G4,G0 b.Tier,U8 b.Half]) (Ga J9 O O O) O (JLh (G0 b.G4) (Gh Gb O O O) O (JLh (BL (decide (a.G4=b.G4))) (Jz O O O) O (Yb (BL (decide (a.G4=b.G4))) O (JLo (.dptr [G0 a.Tier,U8 a.Half]) [] O .sct ø (fun hc=>Ga Qi O O O) O (JLo (G0 a.Tier) [11] O .sct ⟨Ua,ø⟩ (fun hc=>Gh Gb O O O) O (JLo (.dptr [G0 b.Tier,U8 b.Half]) [] O .sct ø (fun hc=>Ga Qi O O O) O (JLo (G0 b.Tier) [13] O .sct ⟨Ua,ø⟩ (fun hc=>Gh Gb O O O) O (JLo (BL (decide (b.Tier < a.Tier))) [12,14] O .sct ⟨Ua,Ua,ø⟩ (fun hc=>G43 O O O) O (JLh (BL ((decide (a.G4=b.G4))&&(decide (b.Tier < a.Tier)))) (Qr O O O O) O (Yb (BL ((decide (a.G4=b.G4))&&(decide (b.Tier < a.Tier)))) O ?_)))))))))))))
 refine JLo (.dptr [U8 a.Half]) [] O .sct ø (fun hc=>Ga Rt O O O) O (JLo (U8 a.Half) [18] O .sct ⟨Ua,ø⟩ (fun hc=>Gh Hz O O O) O (JLo (.dptr [U8 b.Half]) [] O .sct ø (fun hc=>Ga Rt O O O) O (JLo (U8 b.Half) [20] O .sct ⟨Ua,ø⟩ (fun hc=>Gh Hz O O O) O ?_)))
 obtain⟨r3,hr3,h⟩:=Ge h
 refine JLo (BL r3) [19,21] O .sct ⟨Ua,Ua,ø⟩ (fun hc=>Gv (args:=[U8 a.Half,U8 b.Half]) O (Hb4 a.Half b.Half r3 (Gx hc hr3)) Jee ⟨O,O,O,O,ø⟩) O (JLh (BL (((decide (a.G4=b.G4))&&(decide (b.Tier < a.Tier)))&&r3)) (Qr O O O O) O (Yb (BL (((decide (a.G4=b.G4))&&(decide (b.Tier < a.Tier)))&&r3)) O (G7 (hK2 (Gs (fin1 BL h))))))

def G10 (m:H0 Int Unit) (k:Int):Option (Bool×(H0 Int Unit)):=
 bif (H0.has m k) then
 (some (false,m))
 else
 (some (true,(H0.put m k ())))
theorem H01 (m:H0 Int Unit) (k:Int) (r:Bool×(H0 Int Unit)) (h:G10 m k=some r):Jn Ep 98 [.mp 1136,G0 k] [(1136,MP 178 (fun n:Int=>Value.int .i64 n) (fun _:Unit=>.agg []) m)] (fun av L'=>av=BL r.1∧L'=[(1136,MP 178 (fun n:Int=>Value.int .i64 n) (fun _:Unit=>.agg []) r.2)]):=by
 unfold G10 at h
 refine Jq [1136] [.tmp 4] Tryz.func98 O O (G2e O) (Jr fun hK1=>(Yb (BL false) O (G7 (hK1 (Js fun hK2=>Jr fun hK3=>(Yb (.mp 1136) O (Yb (G0 k) O (JLh (.tup [.agg [],BL (H0.has m k)]) (Q41 (av:=(fun _:Unit=>.agg [])) (m:=m) (a:=k) () (.agg #[]) O O O O tk_3 Je1 tf_zv_200 O) O (Yb (.tup [.agg [],BL (H0.has m k)]) O (JLh (.agg []) (Hk O O O) O (JLh (BL (H0.has m k)) (Hk O O O) O (JLh (.ptr 1166 0) (Hx 1166 0 Q5c O O) O (Hw (u:=.junk) (A_store0 (u:=.agg []) Q72 O O O O O O) (Yb (BL (H0.has m k)) O (G7 (hK3 ?_))))))))))))))))
 refine Gq [(0,.mp 1136),(1,G0 k),(6,BL (H0.has m k))] [(1136,MP 178 (fun n:Int=>Value.int .i64 n) (fun _:Unit=>.agg []) m)] 1166 rfl rfl rfl ⟨⟨_,rfl,.map⟩,ø⟩ rfl (by exact⟨.conv (.same rfl),.conv (.same rfl),.conv (.same rfl),ø⟩) (Jr fun hK5=>(Yb (BL (H0.has m k)) O (G7 (hK5 (JCc O h (fun h hb=>?_) (fun h hb=>?_))))))
 ·
  refine Jr fun hK6=>(Yb (BL false) O (G7 (hK6 (Gs ?_))))
  obtain rfl:=Option.some.inj h
  exact⟨[BL false],[(1136,MP 178 (fun n:Int=>Value.int .i64 n) (fun _:Unit=>.agg []) m)],⟨⟨_,O,.map⟩,ø⟩,O,⟨⟨_,O,.conv (.same O)⟩,ø⟩,O,O⟩
 ·
  refine Gi (hK2 (Jr fun hK7=>(Yb (.mp 1136) O (Yb (G0 k) O (JLh (.agg []) (J3 (cs:=[]) [] [] [] Q46 Q6c ø O O) O (Hw (u:=.junk) (H1c (m:=m) (a:=k) (v:=()) O O O O O O tk_3 Je1) (G7 (hK7 (Jr fun hK8=>(Yb (BL true) O (G7 (hK8 (Gs ?_)))))))))))))
  obtain rfl:=Option.some.inj h
  exact⟨[BL true],[(1136,MP 178 (fun n:Int=>Value.int .i64 n) (fun _:Unit=>.agg []) (H0.put m k ()))],⟨⟨_,O,.map⟩,ø⟩,O,⟨⟨_,O,.conv (.same O)⟩,ø⟩,O,O⟩
end
end Go.Proofs.YtknalejjpofoaaaGreat
