/-
 Models of functions of the program,and that they return what the models say.
-/
import Derived.Test.YtkcdjcgifgdanaaGreatXVa
set_option linter.unnecessarySimpa false
set_option maxRecDepth 100000
set_option maxHeartbeats 1000000
set_option linter.unusedVariables false
set_option linter.unusedSimpArgs false
namespace Go.Proofs.YtkcdjcgifgdanaaGreat
open Go.RowKit
noncomputable section
open XAF
open XCF
open XVF

def Ge5 (s:Gw) (size:Int):Option (List Slot):=
 bnd (Gc5 s size) fun r5=>
 bnd (G82 s size) fun ys8=>
 each (fun y8 i8 (s8:(List Slot)) nx8=>
  need (decide ((s8.length+[y8].length)*24≤140737488355328∧s8.length+[y8].length≤maxLen)) <|
  nx8 (s8++[y8]))
 (fun(s8:(List Slot))=>
  some s8) ys8 0 []
theorem M_slot_All_w (s:Gw) (size:Int) (r:(List Slot)) (h:Ge5 s size=some r):Pure Ej 39 [.agg (Gw.cs s),U8 size] (·=E8 r):=by
 unfold Ge5 at h
 refine H1 [.tmp 4] Tryz.func39 O O (Jr fun hK1=>(JLh (.ptr 1100 0) (Jm (cs:=(Gw.cs s)) 1100 O O O O O) O (JLh (E8 ([]:List Slot)) (Ht 3 O O) O (G7 (hK1 (Gp [(1,U8 size),(2,Ec s)] [] 1100 rfl rfl rfl G rfl (by exact⟨.conv (.same rfl),.ptr,G⟩) ?_))))))
 refine Jr fun hK2=>(JLh (.ptr 1101 0) (G16 1101 [.sc (.slice none 0 0)] [.slice none 0 0] Jd4 ⟨.inl O,G⟩ O O) O (Ge8 1101 0 1103 78 3 O O O (cs':=[OW 1103 3 Slot.av ([]:List Slot)]) O (G7 (hK2 (Js fun hK3=>Jr fun hK4=>(JLh (.agg (Gw.cs s)) (Gi Hq O O O) O (Ru (U8 size) O ?_)))))))
 obtain⟨r5,hr5,h⟩:=Ge h
 refine JLh (.fn 99 [.dptr (Gw.cs s),.dptr [U8 size]]) (Gt O (J99 s size r5 hr5) Q01 ⟨O,O,O,O,G⟩) O (G7 (hK4 (Gq ?_)))
 obtain⟨ys8,hy_8,h⟩:=Ge h
 obtain⟨b8,kx8,hb8,hkx8,h⟩:=Hx h
 refine He7 (ps:=[10]) [(5,.ptr 1101 0),(9,.fn 99 [.dptr (Gw.cs s),.dptr [U8 size]])] (ys8.map (fun y:Slot=>[.agg [G0 y.G4,G0 y.Tier,U8 y.Half]])) (fun i8 (s8:(List Slot))=>each b8 kx8 (List.drop i8 ys8) i8 s8=some r) (fun s8=>[(1103,.spare 78 3 s8.length s8.length),(1101,.box 104 [OW 1103 3 Slot.av s8])]) [] rfl rfl rfl Jf2 (J04.down s size ys8 hy_8) h ⟨⟨.same rfl,.same rfl,trivial⟩,⟨⟨_,rfl,.same⟩,⟨_,rfl,.boxL rfl ⟨.same rfl,trivial⟩⟩,trivial⟩,rfl⟩ rfl (fun us_ hus_=>by obtain⟨_,_,rfl⟩:=List.mem_map.1 hus_; rfl) (fun p_ hp_=>Nat.blt_eq.mp (by revert p_; decide)) (fun _=>⟨.same rfl,.same rfl,trivial⟩) (fun _=>rfl) ?_ ?_
 ·
  intro i8 us_ s8 hu_ hi8 lr_ K8 e8
  obtain⟨hk8,rfl⟩:=mapf_at hu_
  obtain⟨y8,nx8,hy8,hn8,h⟩:=Ho hi8 hk8
  replace h:=Rw hb8 h
  obtain⟨_,rfl⟩:=List.getElem?_eq_some_iff.1 hy8
  generalize ys8[i8]=y8 at h ⊢
  change JC _ _ _ _ [(10,.agg [G0 y8.G4,G0 y8.Tier,U8 y8.Half]),(5,.ptr 1101 0),(9,.fn 99 [.dptr (Gw.cs s),.dptr [U8 size]])] [(1103,.spare 78 3 s8.length s8.length),(1101,.box 104 [OW 1103 3 Slot.av s8])]
  refine G3 (JLh (.ptr 1102 0) (Hn 1102 3 Rm O O) O (Hs (u:=.junk) (Ha (u:=.agg [G0 y8.G4,G0 y8.Tier,U8 y8.Half]) (ds:=[G0 y8.G4,G0 y8.Tier,U8 y8.Half]) Ye O O O O O O O O) (G7 (J95 [(5,.ptr 1101 0),(6,.dptr [G0 y8.G4,G0 y8.Tier,U8 y8.Half])] [(1103,.spare 78 3 s8.length s8.length),(1101,.box 104 [OW 1103 3 Slot.av s8])] 1102 rfl rfl rfl ⟨⟨_,rfl,.same⟩,⟨_,rfl,.boxEq rfl rfl⟩,G⟩ rfl (by exact⟨.conv (.same rfl),.ptr,G⟩) (Mid_go (Gq (G3 (JLh (OW 1103 3 Slot.av s8) (Qj H06 O O O O) O (JLh (.agg [G0 y8.G4,G0 y8.Tier,U8 y8.Half]) (Gi Jp O O O) O (JLh (E8 [y8]) (H9 (xs:=[.agg [G0 y8.G4,G0 y8.Tier,U8 y8.Half]]) O ⟨O,O,G⟩ Y1 Rm O O O O) O ?_))))))))))
  obtain⟨ha9,h⟩:=Jj h
  refine JLh (OW 1103 3 Slot.av (s8++[y8])) (Rc (f:=Slot.av) (xs:=s8) (ys:=[y8]) O O O O Y1 J54 ha9 (fun _=>O) (.inl O) O) O (Hs (u:=.junk) (Ha (u:=OW 1103 3 Slot.av (s8++[y8])) (ds:=[OW 1103 3 Slot.av (s8++[y8])]) Jd8 O O O O O O O O) (G7 (e8 _ _ (s8++[y8]) (app1 hn8 h) ⟨G,⟨⟨_,O,.same⟩,⟨_,O,.boxL O ⟨.same O,G⟩⟩,G⟩,O⟩)))
 ·
  intro s8 h
  rw [List.length_map] at h
  replace h:=app1 hkx8 (Hp h (Nat.lt_irrefl _))
  refine hK3 (Jr fun hK10=>(JLh (OW 1103 3 Slot.av s8) (Qj H06 O O O O) O (Ru (OW 1103 3 Slot.av s8) O (G7 (hK10 (Yj (l':=[(4,E8 s8)]) (L':=[(1101,.box 104 [E8 s8])]) ⟨⟨.list O,G⟩,⟨⟨_,O,.boxL O ⟨.list O,G⟩⟩,G⟩,O⟩ (Gp [(4,E8 s8)] [] 1101 rfl rfl rfl G rfl (by exact⟨.conv (.same rfl),G⟩) (Gr (fin1 (fun r:(List Slot)=>(E8 r:AV)) h)))))))))

def Rq (F:Nat) (s:Gw) (boxes:List Gd) (home:H5 Int Int) (calls:Int):Option (G2f×Int×(H5 Int Int)):=
 need (decide (calls≤9223372036854775807)) <|
 upto (fun i6 (s6:(List (List Stowed))×(List (List Int))×(H5 Int Slot)) nx6=>
  need (decide (10≤9223372036854775807)) <|
  upto (fun i13 (s13:(List Stowed)) nx13=>
   each (fun y42 i42 (s42:(List Stowed)) nx42=>
    jp (fun kj45=>
     bnd (some (H5.get s6.2.2 y42.ID (Slot.mk 0 0 0))) fun v48=>
     bif ((((H5.has s6.2.2 y42.ID)&&(decide (v48.Tier=(i13:Int))))&&(decide (y42.Load < (i6:Int))))&&(decide ((i6:Int) < y42.Discharge))) then
     (bnd (Ra s42 (Stowed.mk y42.ID v48)) fun r51=>
      bnd (R2 s boxes r51) fun r53=>
      bif r53 then
      (kj45 r51)
      else
      (kj45 s42))
     else
     (kj45 s42)) fun(j45:(List Stowed))=>
    nx42 j45)
   (fun(s42:(List Stowed))=>
    nx13 s42) boxes 0 s13)
  (fun(s13:(List Stowed))=>
   each (fun y56 i56 (s56:(List Stowed)) nx56=>
    jp (fun kj59=>
     bnd (bif (!((decide ((i6:Int) < y56.Load))||(decide (y56.Discharge≤(i6:Int))))) then M_twistlocklaw23_holds s56 y56.ID else some default) fun r63=>
     bif (((decide ((i6:Int) < y56.Load))||(decide (y56.Discharge≤(i6:Int))))||r63) then
     (kj59 s56)
     else
     (loop (fun nx67 (s67:(List Stowed)×Bool×Int)=>
       bif ((decide (s67.2.2 < (s.Columns.length:Int)))&&(!s67.2.1)) then
       (jp (fun kj70=>
         bnd (Ge5 s y56.Size) fun r72=>
         each (fun y99 i99 (s99:(List Stowed)×Bool) nx99=>
          bnd (Ra s99.1 (Stowed.mk y56.ID y99)) fun r105=>
          bnd (some (H5.get home y56.ID 0)) fun v107=>
          G0d (v107+s67.2.2) fun v108=>
          bnd (H46 v108 (s.Columns.length:Int)) fun v109=>
          bnd (bif decide (y99.G4=v109) then R2 s boxes r105 else some default) fun r110=>
          bif ((decide (y99.G4=v109))&&r110) then
          (kj70 (r105,true))
          else
          (nx99 (s99.1,s99.2)))
         (fun(s99:(List Stowed)×Bool)=>
          kj70 (s99.1,s99.2)) r72 0 (s67.1,s67.2.1)) fun(j70:(List Stowed)×Bool)=>
        G0d (s67.2.2+1) fun v112=>
        nx67 (j70.1,j70.2,v112))
       else
       (bif (!s67.2.1) then
        (some ((G2f.mk [] []),y56.ID,home))
        else
        (kj59 s67.1))) F (s56,false,0))) fun(j59:(List Stowed))=>
    nx56 j59)
   (fun(s56:(List Stowed))=>
    each (fun y138 i138 (s138:(H5 Int Slot)) nx138=>
     nx138 (H5.put s138 y138.Gd y138.Slot))
    (fun(s138:(H5 Int Slot))=>
     need (decide ((s6.1.length+[s56].length)*24≤140737488355328∧s6.1.length+[s56].length≤maxLen)) <|
     nx6 ((s6.1++[s56]),s6.2.1,s138)) s56 0 (H5.empty:H5 Int Slot)) boxes 0 s13) (10:Int).toNat 0 [])
 (fun(s6:(List (List Stowed))×(List (List Int))×(H5 Int Slot))=>
  some ((G2f.mk s6.1 s6.2.1),0,home)) calls.toNat 0 ([],[],(H5.empty:H5 Int Slot))
theorem G79 (F:Nat) (s:Gw) (boxes:List Gd) (home:H5 Int Int) (calls:Int) (r:G2f×Int×(H5 Int Int)) (h:Rq F s boxes home calls=some r):Qc Ej 14 [.agg (Gw.cs s),E2 boxes,.mp 1018,G0 calls] [(1018,MP 68 (fun n:Int=>Value.int .i64 n) G0 home)] (fun av L'=>av=.tup [.agg [LS 1 (E0) r.1.States,LS 1 (E1) r.1.Water],G0 r.2.1]∧L'=[(1018,MP 68 (fun n:Int=>Value.int .i64 n) G0 r.2.2)]):=by
 unfold Rq at h
 refine Yy [1018] [.cell 8 41,.tmp 9] Tryz.func14 O O (H47 O) (Jr fun hK1=>(JLh (.ptr 1037 0) (Jm (cs:=(Gw.cs s)) 1037 O O O O O) O (JLh (.ptr 1038 0) (G16 1038 [LS 1 (E0) ([]:List (List Stowed)),LS 1 (E1) ([]:List (List Int))] [.slice none 0 0,.slice none 0 0] G8f ⟨.inr ⟨_,O,O⟩,.inr ⟨_,O,O⟩,G⟩ O O) O (Ru (G0 0) O (G7 (hK1 ?_))))))
 refine Gp [(1,E2 boxes),(2,.mp 1018),(3,G0 calls),(4,Ec s),(8,.ptr 1038 0)] [(1018,MP 68 (fun n:Int=>Value.int .i64 n) G0 home),(1038,.box 41 [LS 1 (E0) ([]:List (List Stowed)),LS 1 (E1) ([]:List (List Int))])] 1037 rfl rfl rfl ⟨⟨_,rfl,.map⟩,⟨_,rfl,.boxEq rfl rfl⟩,G⟩ rfl (by repeat' (first | exact .ptr | constructor)) (Jr fun hK2=>(JLh (.ptr 1039 0) (G16 1039 [.sc (.slice none 0 0),LS 1 (E1) ([]:List (List Int))] [.slice none 0 0,.slice none 0 0] G8f ⟨.inl O,.inr ⟨_,O,O⟩,G⟩ O O) O ?_))
 refine Ge8 1039 0 1047 47 1 O O O (cs':=[OW 1047 1 (E0) ([]:List (List Stowed)),LS 1 (E1) ([]:List (List Int))]) O (G7 (hK2 (Jr fun hK3=>(JLh (.mp 1045) (G9a 1045 (fun n:Int=>Value.int .i64 n) Slot.av O O) O (Ru (.mp 1045) O (G7 (hK3 (Js fun hK4=>Jr fun hK5=>(Ru (G0 0) O (G7 (hK5 (Gq ?_))))))))))))
 obtain⟨hx6,h⟩:=Jj h
 obtain⟨b6,kx6,hb6,hkx6,h⟩:=Gf3 h
 refine Hg (fun i6 (s6:(List (List Stowed))×(List (List Int))×(H5 Int Slot))=>upto b6 kx6 (calls.toNat - i6) i6 s6=some r) (fun i6 s6=>[(1,E2 boxes),(2,.mp 1018),(3,G0 calls),(4,Ec s),(8,.ptr 1038 0),(10,.ptr 1039 0),(11,.mp 1045),(12,Ei i6)]) (fun i6 s6=>[(1018,MP 68 (fun n:Int=>Value.int .i64 n) G0 home),(1047,.spare 47 1 s6.1.length s6.1.length),(1045,MP 102 (fun n:Int=>Value.int .i64 n) Slot.av s6.2.2),(1038,.box 41 [LS 1 (E0) ([]:List (List Stowed)),LS 1 (E1) ([]:List (List Int))]),(1039,.box 41 [OW 1047 1 (E0) s6.1,LS 1 (E1) s6.2.1])]) (fun i6=>calls.toNat - i6) 0 ([],[],(H5.empty:H5 Int Slot)) h ⟨(by repeat' constructor),⟨⟨_,rfl,.map⟩,⟨_,rfl,.same⟩,⟨_,rfl,.map⟩,⟨_,rfl,.boxL rfl ⟨.same rfl,.same rfl,G⟩⟩,⟨_,rfl,.boxL rfl ⟨.same rfl,.same rfl,G⟩⟩,G⟩,rfl⟩ ?_
 clear h
 intro i6 s6 hi6 K6 e6
 refine Js fun hK7=>Jr fun hK8=>(Ru (Ei i6) O (Ru (G0 calls) O (JLh (BL (decide ((i6:Int) < calls))) (Hz O O O) O (G7 (hK8 (Gk O (fun hb=>?_) (fun hb=>?_)))))))
 ·
  have hk6:=Ga7 hb
  obtain⟨nx6,hn6,h⟩:=Ga3 hi6 hk6
  replace h:=app3 hb6 h
  refine Gn (hK7 (Js fun hK9=>Gq (Jr fun hK10=>(JLh (E0 ([]:List Stowed)) (Ht 4 O O) O (G7 (hK10 (Js fun hK11=>Jr fun hK12=>(Ru (G0 0) O (G7 (hK12 (Gq ?_)))))))))))
  obtain⟨hx13,h⟩:=Jj h
  obtain⟨b13,kx13,hb13,hkx13,h⟩:=Gf3 h
  refine Hg (fun i13 (s13:(List Stowed))=>upto b13 kx13 ((10:Int).toNat - i13) i13 s13=some r) (fun i13 s13=>[(1,E2 boxes),(2,.mp 1018),(3,G0 calls),(4,Ec s),(8,.ptr 1038 0),(10,.ptr 1039 0),(11,.mp 1045),(12,Ei i6),(13,E0 s13),(14,Ei i13)]) (fun i13 s13=>[(1018,MP 68 (fun n:Int=>Value.int .i64 n) G0 home),(1047,.spare 47 1 s6.1.length s6.1.length),(1045,MP 102 (fun n:Int=>Value.int .i64 n) Slot.av s6.2.2),(1038,.box 41 [LS 1 (E0) ([]:List (List Stowed)),LS 1 (E1) ([]:List (List Int))]),(1039,.box 41 [OW 1047 1 (E0) s6.1,LS 1 (E1) s6.2.1])]) (fun i13=>(10:Int).toNat - i13) 0 [] h ⟨(by repeat' constructor),⟨⟨_,rfl,.map⟩,⟨_,rfl,.same⟩,⟨_,rfl,.map⟩,⟨_,rfl,.boxL rfl ⟨.same rfl,.same rfl,G⟩⟩,⟨_,rfl,.boxL rfl ⟨.same rfl,.same rfl,G⟩⟩,G⟩,rfl⟩ ?_
  clear h
  intro i13 s13 hi13 K13 e13
  refine Js fun hK14=>Jr fun hK15=>(Ru (Ei i13) O (JLh (BL (decide ((i13:Int) < 10))) (Hz O O O) O (G7 (hK15 (Gk O (fun hb=>?_) (fun hb=>?_))))))
  ·
   have hk13:=Ga7 hb
   obtain⟨nx13,hn13,h⟩:=Ga3 hi13 hk13
   replace h:=app3 hb13 h
   refine Gn (hK14 (Js fun hK16=>Gq (Jr fun hK17=>(Ru (E2 boxes) O (JLl Jw O O O fun hm40=>(Ru (G0 0) O (G7 (hK17 (Gq ?_)))))))))
   obtain⟨b42,kx42,hb42,hkx42,h⟩:=Hx h
   refine Hg (fun i42 (s42:(List Stowed))=>each b42 kx42 (List.drop i42 boxes) i42 s42=some r) (fun i42 s42=>[(1,E2 boxes),(2,.mp 1018),(3,G0 calls),(4,Ec s),(8,.ptr 1038 0),(10,.ptr 1039 0),(11,.mp 1045),(12,Ei i6),(13,E0 s42),(14,Ei i13),(39,E2 boxes),(40,Ei boxes.length),(41,Ei i42)]) (fun i42 s42=>[(1018,MP 68 (fun n:Int=>Value.int .i64 n) G0 home),(1047,.spare 47 1 s6.1.length s6.1.length),(1045,MP 102 (fun n:Int=>Value.int .i64 n) Slot.av s6.2.2),(1038,.box 41 [LS 1 (E0) ([]:List (List Stowed)),LS 1 (E1) ([]:List (List Int))]),(1039,.box 41 [OW 1047 1 (E0) s6.1,LS 1 (E1) s6.2.1])]) (fun i42=>boxes.length - i42) 0 s13 h ⟨(by repeat' constructor),⟨⟨_,rfl,.map⟩,⟨_,rfl,.same⟩,⟨_,rfl,.map⟩,⟨_,rfl,.boxL rfl ⟨.same rfl,.same rfl,G⟩⟩,⟨_,rfl,.boxL rfl ⟨.same rfl,.same rfl,G⟩⟩,G⟩,rfl⟩ ?_
   clear h
   intro i42 s42 hi42 K42 e42
   refine Jr fun hK43=>(JLh (BL (decide ((i42:Int) < (boxes.length:Int)))) (Hz O O O) O (G7 (hK43 (Js fun hK44=>Gk O (fun hb=>?_) (fun hb=>?_)))))
   ·
    have hk42:=Jb hb
    obtain⟨y42,nx42,hy42,hn42,h⟩:=Ho hi42 hk42
    replace h:=Rw hb42 h
    refine Gn (hK44 ?_)
    obtain⟨kj45,hkj45,h⟩:=Rg h
    refine Qg (fun j45:(List Stowed)=>kj45 j45=some r) (fun j45=>[(1,E2 boxes),(2,.mp 1018),(3,G0 calls),(4,Ec s),(8,.ptr 1038 0),(10,.ptr 1039 0),(11,.mp 1045),(12,Ei i6),(13,E0 j45),(14,Ei i13),(39,E2 boxes),(40,Ei boxes.length),(41,Ei i42)]) (fun j45=>[(1018,MP 68 (fun n:Int=>Value.int .i64 n) G0 home),(1047,.spare 47 1 s6.1.length s6.1.length),(1045,MP 102 (fun n:Int=>Value.int .i64 n) Slot.av s6.2.2),(1038,.box 41 [LS 1 (E0) ([]:List (List Stowed)),LS 1 (E1) ([]:List (List Int))]),(1039,.box 41 [OW 1047 1 (E0) s6.1,LS 1 (E1) s6.2.1])]) (fun Kj45 ej45=>?_) ?_
    ·
     refine Gq (Jr fun hK46=>(JLh (Ee y42) (H4 (f:=Gd.av) (xs:=boxes) (y:=y42) O O O Jw hy42 O) O (JLh (.agg (Gd.cs y42)) (Gi Zc O O O) O (JLh (.ptr 1040 0) (Hn 1040 9 Rn O O) O (Hs (u:=.junk) (Ha (u:=.agg (Gd.cs y42)) (ds:=(Gd.cs y42)) Yv O O O O O O O O) (G7 (hK46 ?_)))))))
     refine Gp [(1,E2 boxes),(2,.mp 1018),(3,G0 calls),(4,Ec s),(8,.ptr 1038 0),(10,.ptr 1039 0),(11,.mp 1045),(12,Ei i6),(13,E0 s42),(14,Ei i13),(16,Ee y42),(39,E2 boxes),(40,Ei boxes.length),(41,Ei i42)] [(1018,MP 68 (fun n:Int=>Value.int .i64 n) G0 home),(1047,.spare 47 1 s6.1.length s6.1.length),(1045,MP 102 (fun n:Int=>Value.int .i64 n) Slot.av s6.2.2),(1038,.box 41 [LS 1 (E0) ([]:List (List Stowed)),LS 1 (E1) ([]:List (List Int))]),(1039,.box 41 [OW 1047 1 (E0) s6.1,LS 1 (E1) s6.2.1])] 1040 rfl rfl rfl ⟨⟨_,rfl,.map⟩,⟨_,rfl,.same⟩,⟨_,rfl,.map⟩,⟨_,rfl,.boxEq rfl rfl⟩,⟨_,rfl,.boxEq rfl rfl⟩,G⟩ rfl (by repeat' (first | exact .ptr | constructor)) ?_
     refine Jr fun hK47=>(Ru (.mp 1045) O (JLh (Ee y42) (Ga Jq O O O) O (JLh (G0 y42.ID) (Gf Gc O O O) O ?_)))
     obtain⟨v48,hv48,h⟩:=Ge h
     refine JLh (.tup [.agg (Slot.cs v48),BL (H5.has s6.2.2 y42.ID)]) (((Option.some.inj hv48) ▸ Jaa (av:=Slot.av) (m:=s6.2.2) (a:=y42.ID) (Slot.mk 0 0 0) (.agg #[.int .i64 0,.int .i64 0,.int .u8 0]) O O O O tk_3 J4e tf_zv_78 O)) O (Ru (.tup [.agg (Slot.cs v48),BL (H5.has s6.2.2 y42.ID)]) O (JLh (.agg (Slot.cs v48)) (H6 O O O) O (JLh (BL (H5.has s6.2.2 y42.ID)) (H6 O O O) O (JLh (.ptr 1041 0) (Hn 1041 3 Rm O O) O (Hs (u:=.junk) (Ha (u:=.agg (Slot.cs v48)) (ds:=[G0 v48.G4,G0 v48.Tier,U8 v48.Half]) Ye O O O O O O O O) (Ru (BL (H5.has s6.2.2 y42.ID)) O (G7 (hK47 ?_))))))))
     refine Gp [(1,E2 boxes),(2,.mp 1018),(3,G0 calls),(4,Ec s),(8,.ptr 1038 0),(10,.ptr 1039 0),(11,.mp 1045),(12,Ei i6),(13,E0 s42),(14,Ei i13),(16,Ee y42),(17,Eg v48),(18,BL (H5.has s6.2.2 y42.ID)),(39,E2 boxes),(40,Ei boxes.length),(41,Ei i42)] [(1018,MP 68 (fun n:Int=>Value.int .i64 n) G0 home),(1047,.spare 47 1 s6.1.length s6.1.length),(1045,MP 102 (fun n:Int=>Value.int .i64 n) Slot.av s6.2.2),(1038,.box 41 [LS 1 (E0) ([]:List (List Stowed)),LS 1 (E1) ([]:List (List Int))]),(1039,.box 41 [OW 1047 1 (E0) s6.1,LS 1 (E1) s6.2.1])] 1041 rfl rfl rfl ⟨⟨_,rfl,.map⟩,⟨_,rfl,.same⟩,⟨_,rfl,.map⟩,⟨_,rfl,.boxEq rfl rfl⟩,⟨_,rfl,.boxEq rfl rfl⟩,G⟩ rfl (by repeat' (first | exact .ptr | constructor)) ?_
     refine Jr fun hK49=>(Ru (BL (H5.has s6.2.2 y42.ID)) O (Ru (BL (H5.has s6.2.2 y42.ID)) O (JLo (.dptr [G0 v48.Tier,U8 v48.Half]) [] O .sct G (fun hc=>Ga Ry O O O) O (JLo (G0 v48.Tier) [54] O .sct ⟨Ua,G⟩ (fun hc=>Gf Gc O O O) O (JLo (Ei i13) [] O .sct G (fun hc=>G6 O O) O (JLo (BL (decide (v48.Tier=(i13:Int)))) [55,56] O .sct ⟨Ua,Ua,G⟩ (fun hc=>Qh O O O) O (JLh (BL ((H5.has s6.2.2 y42.ID)&&(decide (v48.Tier=(i13:Int))))) (Qa O O O O) O (Ru (BL ((H5.has s6.2.2 y42.ID)&&(decide (v48.Tier=(i13:Int))))) O (JLo (.dptr ((Gd.cs y42).drop 5)) [] O .sct G (fun hc=>Ga G00 O O O) O (JLo (G0 y42.Load) [60] O .sct ⟨Ua,G⟩ (fun hc=>Gf Gc O O O) O (JLo (Ei i6) [] O .sct G (fun hc=>G6 O O) O (JLo (BL (decide (y42.Load < (i6:Int)))) [61,62] O .sct ⟨Ua,Ua,G⟩ (fun hc=>Hz O O O) O (JLh (BL (((H5.has s6.2.2 y42.ID)&&(decide (v48.Tier=(i13:Int))))&&(decide (y42.Load < (i6:Int))))) (Qa O O O O) O ?_)))))))))))))
     refine Ru (BL (((H5.has s6.2.2 y42.ID)&&(decide (v48.Tier=(i13:Int))))&&(decide (y42.Load < (i6:Int))))) O (JLo (Ei i6) [] O .sct G (fun hc=>G6 O O) O (JLo (.dptr ((Gd.cs y42).drop 6)) [] O .sct G (fun hc=>Ga G27 O O O) O (JLo (G0 y42.Discharge) [67] O .sct ⟨Ua,G⟩ (fun hc=>Gf Gc O O O) O (JLo (BL (decide ((i6:Int) < y42.Discharge))) [66,68] O .sct ⟨Ua,Ua,G⟩ (fun hc=>Hz O O O) O (JLh (BL ((((H5.has s6.2.2 y42.ID)&&(decide (v48.Tier=(i13:Int))))&&(decide (y42.Load < (i6:Int))))&&(decide ((i6:Int) < y42.Discharge)))) (Qa O O O O) O (G7 (hK49 (JCc O h (fun h hb=>?_) (fun h hb=>?_)))))))))
     ·
      refine Jr fun hK50=>(Ru (E0 s42) O (JLh (Ee y42) (Ga Jq O O O) O (JLh (G0 y42.ID) (Gf Gc O O O) O (JLh (.agg (Slot.cs v48)) (Gi Jp O O O) O (JLh (.agg [G0 y42.ID,G0 v48.G4,G0 v48.Tier,U8 v48.Half]) (J8 (cs:=[G0 y42.ID,G0 v48.G4,G0 v48.Tier,U8 v48.Half]) [(0,1),(1,3)] [G0 0,G0 0,G0 0,U8 0] [.int .i64 0,.int .i64 0,.int .i64 0,.int .u8 0] H26 H23 ⟨.inl O,.inl O,.inl O,.inl O,G⟩ O O) O ?_)))))
      obtain⟨r51,hr51,h⟩:=Ge h
      refine JLh (E0 r51) (Gt O (G70 s42 (Stowed.mk y42.ID v48) r51 hr51) J68 ⟨O,O,O,O,G⟩) O (Ru (E0 r51) O (G7 (hK50 (Jr fun hK52=>(JLh (.agg (Gw.cs s)) (Gi Hq O O O) O (Ru (E2 boxes) O (Ru (E0 r51) O ?_)))))))
      obtain⟨r53,hr53,h⟩:=Ge h
      refine JLh (BL r53) (Gt O (G11 s boxes r51 r53 hr53) G90 ⟨O,O,O,O,O,O,G⟩) O (G7 (hK52 (JCc O h (fun h hb=>?_) (fun h hb=>?_))))
      ·
       refine G3 (Ru (E0 r51) O (Ru (E0 r51) O (G7 (ej45 _ _ r51 h ⟨(by repeat' constructor),⟨⟨_,rfl,.map⟩,⟨_,rfl,.same⟩,⟨_,rfl,.map⟩,⟨_,rfl,.boxL rfl ⟨.same rfl,.same rfl,G⟩⟩,⟨_,rfl,.boxL rfl ⟨.same rfl,.same rfl,G⟩⟩,G⟩,rfl⟩))))
      ·
       refine Gn (ej45 _ _ s42 h ⟨(by repeat' constructor),⟨⟨_,rfl,.map⟩,⟨_,rfl,.same⟩,⟨_,rfl,.map⟩,⟨_,rfl,.boxL rfl ⟨.same rfl,.same rfl,G⟩⟩,⟨_,rfl,.boxL rfl ⟨.same rfl,.same rfl,G⟩⟩,G⟩,rfl⟩)
     ·
      refine Gn (ej45 _ _ s42 h ⟨(by repeat' constructor),⟨⟨_,rfl,.map⟩,⟨_,rfl,.same⟩,⟨_,rfl,.map⟩,⟨_,rfl,.boxL rfl ⟨.same rfl,.same rfl,G⟩⟩,⟨_,rfl,.boxL rfl ⟨.same rfl,.same rfl,G⟩⟩,G⟩,rfl⟩)
    ·intro j45 h
     replace h:=app1 hkj45 h
     refine G3 (JLh (G0 ((i42+1:Nat):Int)) (Hu (He hk42 hm40) O O O) O (Ru (G0 ((i42+1:Nat):Int)) O (G7 (e42 _ _ (i42+1) j45 (app1 hn42 h) (by omega) ⟨(by repeat' constructor),⟨⟨_,rfl,.map⟩,⟨_,rfl,.same⟩,⟨_,rfl,.map⟩,⟨_,rfl,.boxL rfl ⟨.same rfl,.same rfl,G⟩⟩,⟨_,rfl,.boxL rfl ⟨.same rfl,.same rfl,G⟩⟩,G⟩,rfl⟩))))
   ·
    have h:=app1 hkx42 (Hp hi42 (H7 hb))
    refine Hr (hK16 (G3 (Ru (Ei i13) O (JLh (G0 ((i13+1:Nat):Int)) (Hu (He hk13 (G6c hx13)) O O O) O (Ru (G0 ((i13+1:Nat):Int)) O (G7 (e13 _ _ (i13+1) s42 (app1 hn13 h) (by omega) ⟨(by repeat' constructor),⟨⟨_,rfl,.map⟩,⟨_,rfl,.same⟩,⟨_,rfl,.map⟩,⟨_,rfl,.boxL rfl ⟨.same rfl,.same rfl,G⟩⟩,⟨_,rfl,.boxL rfl ⟨.same rfl,.same rfl,G⟩⟩,G⟩,rfl⟩)))))))
  ·
   have h:=app1 hkx13 (Ga4 hi13 (Zq hb))
   refine Hr (hK11 (Js fun hK54=>Jr fun hK55=>(Ru (E2 boxes) O (JLl Jw O O O fun hm84=>(Ru (G0 0) O (G7 (hK55 (Gq ?_))))))))
   obtain⟨b56,kx56,hb56,hkx56,h⟩:=Hx h
   refine Hg (fun i56 (s56:(List Stowed))=>each b56 kx56 (List.drop i56 boxes) i56 s56=some r) (fun i56 s56=>[(1,E2 boxes),(2,.mp 1018),(3,G0 calls),(4,Ec s),(8,.ptr 1038 0),(10,.ptr 1039 0),(12,Ei i6),(13,E0 s56),(83,E2 boxes),(84,Ei boxes.length),(85,Ei i56)]) (fun i56 s56=>[(1018,MP 68 (fun n:Int=>Value.int .i64 n) G0 home),(1047,.spare 47 1 s6.1.length s6.1.length),(1045,MP 102 (fun n:Int=>Value.int .i64 n) Slot.av s6.2.2),(1038,.box 41 [LS 1 (E0) ([]:List (List Stowed)),LS 1 (E1) ([]:List (List Int))]),(1039,.box 41 [OW 1047 1 (E0) s6.1,LS 1 (E1) s6.2.1])]) (fun i56=>boxes.length - i56) 0 s13 h ⟨(by repeat' constructor),⟨⟨_,rfl,.map⟩,⟨_,rfl,.same⟩,⟨_,rfl,.map⟩,⟨_,rfl,.boxL rfl ⟨.same rfl,.same rfl,G⟩⟩,⟨_,rfl,.boxL rfl ⟨.same rfl,.same rfl,G⟩⟩,G⟩,rfl⟩ ?_
   clear h
   intro i56 s56 hi56 K56 e56
   refine Jr fun hK57=>(JLh (BL (decide ((i56:Int) < (boxes.length:Int)))) (Hz O O O) O (G7 (hK57 (Js fun hK58=>Gk O (fun hb=>?_) (fun hb=>?_)))))
   ·
    have hk56:=Jb hb
    obtain⟨y56,nx56,hy56,hn56,h⟩:=Ho hi56 hk56
    replace h:=Rw hb56 h
    refine Gn (hK58 ?_)
    obtain⟨kj59,hkj59,h⟩:=Rg h
    refine Qg (fun j59:(List Stowed)=>kj59 j59=some r) (fun j59=>[(1,E2 boxes),(2,.mp 1018),(3,G0 calls),(4,Ec s),(8,.ptr 1038 0),(10,.ptr 1039 0),(12,Ei i6),(13,E0 j59),(83,E2 boxes),(84,Ei boxes.length),(85,Ei i56)]) (fun j59=>[(1018,MP 68 (fun n:Int=>Value.int .i64 n) G0 home),(1047,.spare 47 1 s6.1.length s6.1.length),(1045,MP 102 (fun n:Int=>Value.int .i64 n) Slot.av s6.2.2),(1038,.box 41 [LS 1 (E0) ([]:List (List Stowed)),LS 1 (E1) ([]:List (List Int))]),(1039,.box 41 [OW 1047 1 (E0) s6.1,LS 1 (E1) s6.2.1])]) (fun Kj59 ej59=>?_) ?_
    ·
     refine Gq (Jr fun hK60=>(JLh (Ee y56) (H4 (f:=Gd.av) (xs:=boxes) (y:=y56) O O O Jw hy56 O) O (JLh (.agg (Gd.cs y56)) (Gi Zc O O O) O (JLh (.ptr 1042 0) (Hn 1042 9 Rn O O) O (Hs (u:=.junk) (Ha (u:=.agg (Gd.cs y56)) (ds:=(Gd.cs y56)) Yv O O O O O O O O) (G7 (hK60 ?_)))))))
     refine Gp [(1,E2 boxes),(2,.mp 1018),(3,G0 calls),(4,Ec s),(8,.ptr 1038 0),(10,.ptr 1039 0),(12,Ei i6),(13,E0 s56),(21,Ee y56),(83,E2 boxes),(84,Ei boxes.length),(85,Ei i56)] [(1018,MP 68 (fun n:Int=>Value.int .i64 n) G0 home),(1047,.spare 47 1 s6.1.length s6.1.length),(1045,MP 102 (fun n:Int=>Value.int .i64 n) Slot.av s6.2.2),(1038,.box 41 [LS 1 (E0) ([]:List (List Stowed)),LS 1 (E1) ([]:List (List Int))]),(1039,.box 41 [OW 1047 1 (E0) s6.1,LS 1 (E1) s6.2.1])] 1042 rfl rfl rfl ⟨⟨_,rfl,.map⟩,⟨_,rfl,.same⟩,⟨_,rfl,.map⟩,⟨_,rfl,.boxEq rfl rfl⟩,⟨_,rfl,.boxEq rfl rfl⟩,G⟩ rfl (by repeat' (first | exact .ptr | constructor)) ?_
     refine Js fun hK61=>?_
     refine Jr fun hK62=>(JLh (.dptr ((Gd.cs y56).drop 5)) (Ga G00 O O O) O (JLh (G0 y56.Load) (Gf Gc O O O) O (Ru (Ei i6) O (JLh (BL (decide ((i6:Int) < y56.Load))) (G76 O O O) O (Ru (BL (decide ((i6:Int) < y56.Load))) O (JLo (Ei i6) [] O .scf G (fun hc=>G6 O O) O (JLo (.dptr ((Gd.cs y56).drop 6)) [] O .scf G (fun hc=>Ga G27 O O O) O (JLo (G0 y56.Discharge) [95] O .scf ⟨Ua,G⟩ (fun hc=>Gf Gc O O O) O (JLo (BL (decide (y56.Discharge≤(i6:Int)))) [94,96] O .scf ⟨Ua,Ua,G⟩ (fun hc=>G8a O O O) O (JLh (BL ((decide ((i6:Int) < y56.Load))||(decide (y56.Discharge≤(i6:Int))))) (G09 O O O O) O (Ru (BL ((decide ((i6:Int) < y56.Load))||(decide (y56.Discharge≤(i6:Int))))) O (JLo (E0 s56) [] O .scf G (fun hc=>G6 O O) O (JLo (Ee y56) [] O .scf G (fun hc=>Ga Jq O O O) O ?_)))))))))))))
     refine JLo (G0 y56.ID) [101] O .scf ⟨Ua,G⟩ (fun hc=>Gf Gc O O O) O ?_
     obtain⟨r63,hr63,h⟩:=Ge h
     refine JLo (BL r63) [100,102] O .scf ⟨Ua,Ua,G⟩ (fun hc=>Gt (args:=[E0 s56,G0 y56.ID]) O (G04 s56 y56.ID r63 (H2 hc hr63)) Ha9 ⟨O,O,O,O,G⟩) O (JLh (BL (((decide ((i6:Int) < y56.Load))||(decide (y56.Discharge≤(i6:Int))))||r63)) (G09 O O O O) O (G7 (hK62 (JCc O h (fun h hb=>?_) (fun h hb=>?_)))))
     ·
      refine Hr (ej59 _ _ s56 h ⟨(by repeat' constructor),⟨⟨_,rfl,.map⟩,⟨_,rfl,.same⟩,⟨_,rfl,.map⟩,⟨_,rfl,.boxL rfl ⟨.same rfl,.same rfl,G⟩⟩,⟨_,rfl,.boxL rfl ⟨.same rfl,.same rfl,G⟩⟩,G⟩,rfl⟩)
     ·
      refine Gn (hK61 (Jr fun hK64=>(Ru (BL false) O (G7 (hK64 (Js fun hK65=>Jr fun hK66=>(Ru (G0 0) O (G7 (hK66 (Gq ?_))))))))))
      obtain⟨b67,hb67,h⟩:=Hd9 h
      refine Hg (fun i67 (s67:(List Stowed)×Bool×Int)=>loop b67 i67 s67=some r) (fun i67 s67=>[(1,E2 boxes),(2,.mp 1018),(3,G0 calls),(4,Ec s),(8,.ptr 1038 0),(10,.ptr 1039 0),(12,Ei i6),(13,E0 s67.1),(21,Ee y56),(22,BL s67.2.1),(23,G0 s67.2.2),(83,E2 boxes),(84,Ei boxes.length),(85,Ei i56)]) (fun i67 s67=>[(1018,MP 68 (fun n:Int=>Value.int .i64 n) G0 home),(1047,.spare 47 1 s6.1.length s6.1.length),(1045,MP 102 (fun n:Int=>Value.int .i64 n) Slot.av s6.2.2),(1038,.box 41 [LS 1 (E0) ([]:List (List Stowed)),LS 1 (E1) ([]:List (List Int))]),(1039,.box 41 [OW 1047 1 (E0) s6.1,LS 1 (E1) s6.2.1])]) (fun i67=>i67) F (s56,false,0) h ⟨(by repeat' constructor),⟨⟨_,rfl,.map⟩,⟨_,rfl,.same⟩,⟨_,rfl,.map⟩,⟨_,rfl,.boxL rfl ⟨.same rfl,.same rfl,G⟩⟩,⟨_,rfl,.boxL rfl ⟨.same rfl,.same rfl,G⟩⟩,G⟩,rfl⟩ ?_
      clear h
      intro i67 s67 hi67 K67 e67
      obtain⟨m67,nx67,hm_67,hn67,h⟩:=H5c hi67
      replace h:=app2 hb67 h
      refine Js fun hK68=>Jr fun hK69=>(Ru (G0 s67.2.2) O (JLh (Ec s) (Ga J2 O O O) O (JLh (E3 s.Columns) (Gf Ja O O O) O (JLl J5 O O O fun hm108=>(JLh (BL (decide (s67.2.2 < (s.Columns.length:Int)))) (Hz O O O) O (Ru (BL (decide (s67.2.2 < (s.Columns.length:Int)))) O (JLo (BL s67.2.1) [] O .sct G (fun hc=>G6 O O) O (JLo (BL (!s67.2.1)) [111] O .sct ⟨Ua,G⟩ (fun hc=>Rj (b:=s67.2.1) O O) O (JLh (BL ((decide (s67.2.2 < (s.Columns.length:Int)))&&(!s67.2.1))) (Qa O O O O) O (G7 (hK69 ?_)))))))))))
      refine JCc O h (fun h hb=>?_) (fun h hb=>?_)
      ·
       refine Gn (hK68 ?_)
       obtain⟨kj70,hkj70,h⟩:=Rg h
       refine Qg (fun j70:(List Stowed)×Bool=>kj70 j70=some r) (fun j70=>[(1,E2 boxes),(2,.mp 1018),(3,G0 calls),(4,Ec s),(8,.ptr 1038 0),(10,.ptr 1039 0),(12,Ei i6),(13,E0 j70.1),(21,Ee y56),(22,BL j70.2),(23,G0 s67.2.2),(83,E2 boxes),(84,Ei boxes.length),(85,Ei i56)]) (fun j70=>[(1018,MP 68 (fun n:Int=>Value.int .i64 n) G0 home),(1047,.spare 47 1 s6.1.length s6.1.length),(1045,MP 102 (fun n:Int=>Value.int .i64 n) Slot.av s6.2.2),(1038,.box 41 [LS 1 (E0) ([]:List (List Stowed)),LS 1 (E1) ([]:List (List Int))]),(1039,.box 41 [OW 1047 1 (E0) s6.1,LS 1 (E1) s6.2.1])]) (fun Kj70 ej70=>?_) ?_
       ·
        refine Gq (Jr fun hK71=>(JLh (.agg (Gw.cs s)) (Gi Hq O O O) O (JLh (.dptr ((Gd.cs y56).drop 2)) (Ga Z7 O O O) O (JLh (U8 y56.Size) (Gf J6 O O O) O ?_))))
        obtain⟨r72,hr72,h⟩:=Ge h
        refine JLh (E8 r72) (Gt O (M_slot_All_w s y56.Size r72 hr72) Q10 ⟨O,O,O,O,G⟩) O (JLl Y1 O O O fun hm120=>(Ru (G0 0) O (G7 (hK71 (Gq ?_)))))
        obtain⟨b99,kx99,hb99,hkx99,h⟩:=Hx h
        refine Hg (fun i99 (s99:(List Stowed)×Bool)=>each b99 kx99 (List.drop i99 r72) i99 s99=some r) (fun i99 s99=>[(1,E2 boxes),(2,.mp 1018),(3,G0 calls),(4,Ec s),(8,.ptr 1038 0),(10,.ptr 1039 0),(12,Ei i6),(13,E0 s99.1),(21,Ee y56),(22,BL s99.2),(23,G0 s67.2.2),(83,E2 boxes),(84,Ei boxes.length),(85,Ei i56),(119,E8 r72),(120,Ei r72.length),(121,Ei i99)]) (fun i99 s99=>[(1018,MP 68 (fun n:Int=>Value.int .i64 n) G0 home),(1047,.spare 47 1 s6.1.length s6.1.length),(1045,MP 102 (fun n:Int=>Value.int .i64 n) Slot.av s6.2.2),(1038,.box 41 [LS 1 (E0) ([]:List (List Stowed)),LS 1 (E1) ([]:List (List Int))]),(1039,.box 41 [OW 1047 1 (E0) s6.1,LS 1 (E1) s6.2.1])]) (fun i99=>r72.length - i99) 0 (s67.1,s67.2.1) h ⟨(by repeat' constructor),⟨⟨_,rfl,.map⟩,⟨_,rfl,.same⟩,⟨_,rfl,.map⟩,⟨_,rfl,.boxL rfl ⟨.same rfl,.same rfl,G⟩⟩,⟨_,rfl,.boxL rfl ⟨.same rfl,.same rfl,G⟩⟩,G⟩,rfl⟩ ?_
        clear h
        intro i99 s99 hi99 K99 e99
        refine Jr fun hK100=>(JLh (BL (decide ((i99:Int) < (r72.length:Int)))) (Hz O O O) O (G7 (hK100 (Js fun hK101=>Gk O (fun hb=>?_) (fun hb=>?_)))))
        ·
         have hk99:=Jb hb
         obtain⟨y99,nx99,hy99,hn99,h⟩:=Ho hi99 hk99
         replace h:=Rw hb99 h
         refine Gn (hK101 (Js fun hK102=>Gq (Jr fun hK103=>(JLh (Eg y99) (H4 (f:=Slot.av) (xs:=r72) (y:=y99) O O O Y1 hy99 O) O (JLh (.agg (Slot.cs y99)) (Gi Jp O O O) O (JLh (.ptr 1043 0) (Hn 1043 3 Rm O O) O (Hs (u:=.junk) (Ha (u:=.agg (Slot.cs y99)) (ds:=[G0 y99.G4,G0 y99.Tier,U8 y99.Half]) Ye O O O O O O O O) (G7 (hK103 ?_)))))))))
         refine Gp [(1,E2 boxes),(2,.mp 1018),(3,G0 calls),(4,Ec s),(8,.ptr 1038 0),(10,.ptr 1039 0),(12,Ei i6),(13,E0 s99.1),(21,Ee y56),(22,BL s99.2),(23,G0 s67.2.2),(25,Eg y99),(83,E2 boxes),(84,Ei boxes.length),(85,Ei i56),(119,E8 r72),(120,Ei r72.length),(121,Ei i99)] [(1018,MP 68 (fun n:Int=>Value.int .i64 n) G0 home),(1047,.spare 47 1 s6.1.length s6.1.length),(1045,MP 102 (fun n:Int=>Value.int .i64 n) Slot.av s6.2.2),(1038,.box 41 [LS 1 (E0) ([]:List (List Stowed)),LS 1 (E1) ([]:List (List Int))]),(1039,.box 41 [OW 1047 1 (E0) s6.1,LS 1 (E1) s6.2.1])] 1043 rfl rfl rfl ⟨⟨_,rfl,.map⟩,⟨_,rfl,.same⟩,⟨_,rfl,.map⟩,⟨_,rfl,.boxEq rfl rfl⟩,⟨_,rfl,.boxEq rfl rfl⟩,G⟩ rfl (by repeat' (first | exact .ptr | constructor)) ?_
         refine Jr fun hK104=>(Ru (E0 s99.1) O (JLh (Ee y56) (Ga Jq O O O) O (JLh (G0 y56.ID) (Gf Gc O O O) O (JLh (.agg (Slot.cs y99)) (Gi Jp O O O) O (JLh (.agg [G0 y56.ID,G0 y99.G4,G0 y99.Tier,U8 y99.Half]) (J8 (cs:=[G0 y56.ID,G0 y99.G4,G0 y99.Tier,U8 y99.Half]) [(0,1),(1,3)] [G0 0,G0 0,G0 0,U8 0] [.int .i64 0,.int .i64 0,.int .i64 0,.int .u8 0] H26 H23 ⟨.inl O,.inl O,.inl O,.inl O,G⟩ O O) O ?_)))))
         obtain⟨r105,hr105,h⟩:=Ge h
         refine JLh (E0 r105) (Gt O (G70 s99.1 (Stowed.mk y56.ID y99) r105 hr105) J68 ⟨O,O,O,O,G⟩) O (Ru (E0 r105) O (G7 (hK104 (Js fun hK106=>?_))))
         refine Yj (l':=[(1,E2 boxes),(2,.mp 1018),(3,G0 calls),(4,Ec s),(8,.ptr 1038 0),(10,.ptr 1039 0),(12,Ei i6),(13,E0 s99.1),(21,Ee y56),(22,BL s99.2),(23,G0 s67.2.2),(25,Eg y99),(26,E0 r105),(83,E2 boxes),(84,Ei boxes.length),(85,Ei i56),(119,E8 r72),(120,Ei r72.length),(121,Ei i99)]) (L':=[(1018,MP 68 (fun n:Int=>Value.int .i64 n) G0 home),(1047,.spare 47 1 s6.1.length s6.1.length),(1045,MP 102 (fun n:Int=>Value.int .i64 n) Slot.av s6.2.2),(1038,.box 41 [LS 1 (E0) ([]:List (List Stowed)),LS 1 (E1) ([]:List (List Int))]),(1039,.box 41 [OW 1047 1 (E0) s6.1,LS 1 (E1) s6.2.1])]) ⟨(by repeat' constructor),⟨⟨_,rfl,.map⟩,⟨_,rfl,.same⟩,⟨_,rfl,.map⟩,⟨_,rfl,.boxL rfl ⟨.same rfl,.same rfl,G⟩⟩,⟨_,rfl,.boxL rfl ⟨.same rfl,.same rfl,G⟩⟩,G⟩,rfl⟩ ?_
         obtain⟨v107,hv107,h⟩:=Ge h
         obtain⟨v108,hv108,h⟩:=J7 h
         obtain⟨v109,hv109,h⟩:=Ge h
         obtain⟨r110,hr110,h⟩:=Ge h
         refine JC_d0 Qb (by kernel_rfl) (Dq (Eg y99) (Ga Jf O O O) O (Dq (G0 y99.G4) (Gf Gc O O O) O (Dq (.mp 1018) (G6 O O) O (Dq (Ee y56) (Ga Jq O O O) O (Dq (G0 y56.ID) (Gf Gc O O O) O (Dq (G0 v107) (((Option.some.inj hv107) ▸ Hbd (av:=G0) (m:=home) (a:=y56.ID) 0 (.int .i64 0) O O O O tk_3 Jbc H21 O)) O (Dq (G0 s67.2.2) (G6 O O) O (Dq (G0 v108) (Hu hv108 O O O) O (Dq (Ec s) (Ga J2 O O O) O (Dq (E3 s.Columns) (Gf Ja O O O) O (Dq (Ei s.Columns.length) (Z4 (f:=G4.av) (xs:=s.Columns) J5 O O) O (Dq (G0 v109) (Hec (R8 hv109).1 (R8 hv109).2 O O O) O (Dq (BL (decide (y99.G4=v109))) (Qh O O O) O ?_)))))))))))))
         refine Dq (BL (decide (y99.G4=v109))) (G6 O O) O (Do (.agg (Gw.cs s)) [] O .sct G (fun hc=>Gi Hq O O O) O (Do (E2 boxes) [] O .sct G (fun hc=>G6 O O) O (Do (E0 r105) [] O .sct G (fun hc=>G6 O O) O (Do (BL r110) [145,146,147] O .sct ⟨Ua,Ua,Ua,G⟩ (fun hc=>Gt (args:=[.agg (Gw.cs s),E2 boxes,E0 r105]) O (G11 s boxes r105 r110 (H2 hc hr110)) G90 ⟨O,O,O,O,O,O,G⟩) O (Dq (BL ((decide (y99.G4=v109))&&r110)) (Qa O O O O) O (Dnil ?_))))))
         refine hK106 (JCc O h (fun h hb=>?_) (fun h hb=>?_))
         ·
          refine Jr fun hK111=>(Ru (E0 r105) O (Ru (E0 r105) O (Ru (BL true) O (G7 (hK111 (Hr (ej70 _ _ (r105,true) h ⟨(by repeat' constructor),⟨⟨_,rfl,.map⟩,⟨_,rfl,.same⟩,⟨_,rfl,.map⟩,⟨_,rfl,.boxL rfl ⟨.same rfl,.same rfl,G⟩⟩,⟨_,rfl,.boxL rfl ⟨.same rfl,.same rfl,G⟩⟩,G⟩,rfl⟩)))))))
         ·
          refine Gn (hK102 (G3 (JLh (G0 ((i99+1:Nat):Int)) (Hu (He hk99 hm120) O O O) O (Ru (G0 ((i99+1:Nat):Int)) O (G7 (e99 _ _ (i99+1) (s99.1,s99.2) (app1 hn99 h) (by omega) ⟨(by repeat' constructor),⟨⟨_,rfl,.map⟩,⟨_,rfl,.same⟩,⟨_,rfl,.map⟩,⟨_,rfl,.boxL rfl ⟨.same rfl,.same rfl,G⟩⟩,⟨_,rfl,.boxL rfl ⟨.same rfl,.same rfl,G⟩⟩,G⟩,rfl⟩))))))
        ·
         have h:=app1 hkx99 (Hp hi99 (H7 hb))
         refine Hr (ej70 _ _ (s99.1,s99.2) h ⟨(by repeat' constructor),⟨⟨_,rfl,.map⟩,⟨_,rfl,.same⟩,⟨_,rfl,.map⟩,⟨_,rfl,.boxL rfl ⟨.same rfl,.same rfl,G⟩⟩,⟨_,rfl,.boxL rfl ⟨.same rfl,.same rfl,G⟩⟩,G⟩,rfl⟩)
       ·intro j70 h
        replace h:=app1 hkj70 h
        refine G3 (Ru (G0 s67.2.2) O ?_)
        obtain⟨v112,hv112,h⟩:=J7 h
        refine JLh (G0 v112) (Hu hv112 O O O) O (Ru (G0 v112) O (G7 (e67 _ _ m67 (j70.1,j70.2,v112) (app1 hn67 h) (by omega) ⟨(by repeat' constructor),⟨⟨_,rfl,.map⟩,⟨_,rfl,.same⟩,⟨_,rfl,.map⟩,⟨_,rfl,.boxL rfl ⟨.same rfl,.same rfl,G⟩⟩,⟨_,rfl,.boxL rfl ⟨.same rfl,.same rfl,G⟩⟩,G⟩,rfl⟩)))
      ·
       refine Hr (hK65 (Jr fun hK113=>(Ru (BL s67.2.1) O (JLh (BL (!s67.2.1)) (Rj (b:=s67.2.1) O O) O (G7 (hK113 (JCc O h (fun h hb=>?_) (fun h hb=>?_))))))))
       ·
        refine Js fun hK114=>Yj (l':=[(8,.ptr 1038 0),(21,Ee y56)]) (L':=[(1018,MP 68 (fun n:Int=>Value.int .i64 n) G0 home),(1047,.spare 47 1 s6.1.length s6.1.length),(1045,MP 102 (fun n:Int=>Value.int .i64 n) Slot.av s6.2.2),(1038,.box 41 [LS 1 (E0) ([]:List (List Stowed)),LS 1 (E1) ([]:List (List Int))]),(1039,.box 41 [OW 1047 1 (E0) s6.1,LS 1 (E1) s6.2.1])]) ⟨⟨.same O,.same O,G⟩,⟨⟨_,O,.map⟩,⟨_,O,.same⟩,⟨_,O,.map⟩,⟨_,O,.boxL O ⟨.same O,.same O,G⟩⟩,⟨_,O,.boxL O ⟨.same O,.same O,G⟩⟩,G⟩,O⟩ ?_
        refine Q7 [3] [0,0,0,0,1] [0,1,1,0,1] [[(1018,MP 68 (fun n:Int=>Value.int .i64 n) G0 home),(1047,.spare 47 1 s6.1.length s6.1.length),(1045,MP 102 (fun n:Int=>Value.int .i64 n) Slot.av s6.2.2),(1038,.box 41 [LS 1 (E0) ([]:List (List Stowed)),LS 1 (E1) ([]:List (List Int))]),(1039,.box 41 [OW 1047 1 (E0) s6.1,LS 1 (E1) s6.2.1])],((1038,.box 41 [LS 1 (E0) ([]:List (List Stowed)),LS 1 (E1) ([]:List (List Int))])::[(1018,MP 68 (fun n:Int=>Value.int .i64 n) G0 home),(1047,.spare 47 1 s6.1.length s6.1.length),(1045,MP 102 (fun n:Int=>Value.int .i64 n) Slot.av s6.2.2),(1038,.box 41 [LS 1 (E0) ([]:List (List Stowed)),LS 1 (E1) ([]:List (List Int))]),(1039,.box 41 [OW 1047 1 (E0) s6.1,LS 1 (E1) s6.2.1])])] Qb (by kernel_rfl) rfl rfl ?_
        refine Gm (u:=.agg [LS 1 (E0) ([]:List (List Stowed)),LS 1 (E1) ([]:List (List Int))]) O O ⟨Gs (J8 (cs:=[LS 1 (E0) ([]:List (List Stowed)),LS 1 (E1) ([]:List (List Int))]) [(0,1),(1,1)] [LS 1 (E0) ([]:List (List Stowed)),LS 1 (E1) ([]:List (List Int))] [.slice none 0 0,.slice none 0 0] H28 G8f ⟨.inr ⟨_,O,O⟩,.inr ⟨_,O,O⟩,G⟩ O O) O,G⟩ (Gm (u:=Ee y56) O O ⟨Gs (Ga Jq O O O) O,Gs (Ga Jq O O O) O,G⟩ (Gm (u:=G0 y56.ID) O O ⟨Gs (Gf Gc O O O) O,Gs (Gf Gc O O O) O,G⟩ (Jc9 (u:=.junk) O O O O (Gs (Ha (u:=.agg [LS 1 (E0) ([]:List (List Stowed)),LS 1 (E1) ([]:List (List Int))]) (ds:=[LS 1 (E0) ([]:List (List Stowed)),LS 1 (E1) ([]:List (List Int))]) G67 O O O O O O O O) O) (Gm (u:=G0 y56.ID) O O ⟨Gs (G8 O O) O,G⟩ (Yq ?_)))))
        refine hK114 (Yj (l':=[(8,.ptr 1038 0),(9,G0 y56.ID)]) (L':=[(1018,MP 68 (fun n:Int=>Value.int .i64 n) G0 home),(1045,MP 102 (fun n:Int=>Value.int .i64 n) Slot.av s6.2.2),(1038,.box 41 [LS 1 (E0) ([]:List (List Stowed)),LS 1 (E1) ([]:List (List Int))]),(1039,.box 41 [LS 1 (E0) s6.1,LS 1 (E1) s6.2.1])]) ⟨⟨.same O,.same O,G⟩,⟨⟨_,O,.map⟩,⟨_,O,.map⟩,⟨_,O,.boxL O ⟨.same O,.same O,G⟩⟩,⟨_,O,.boxL O ⟨.list O,.same O,G⟩⟩,G⟩,O⟩ ?_)
        refine Gp [(8,.ptr 1038 0),(9,G0 y56.ID)] [(1018,MP 68 (fun n:Int=>Value.int .i64 n) G0 home),(1045,MP 102 (fun n:Int=>Value.int .i64 n) Slot.av s6.2.2),(1038,.box 41 [LS 1 (E0) ([]:List (List Stowed)),LS 1 (E1) ([]:List (List Int))])] 1039 rfl rfl rfl ⟨⟨_,rfl,.map⟩,⟨_,rfl,.map⟩,⟨_,rfl,.boxEq rfl rfl⟩,G⟩ rfl (by exact⟨.conv (.same rfl),.conv (.same rfl),G⟩) (Gr ?_)
        obtain rfl:=Option.some.inj h
        exact⟨[.agg [LS 1 (E0) ([]:List (List Stowed)),LS 1 (E1) ([]:List (List Int))],G0 y56.ID],[(1018,MP 68 (fun n:Int=>Value.int .i64 n) G0 home)],⟨⟨_,O,.map⟩,G⟩,O,⟨⟨_,⟨_,_,_,_,O,O,O,.inl ⟨Ys,O⟩⟩,.conv (.same O)⟩,⟨_,O,.conv (.same O)⟩,G⟩,O,O⟩
       ·
        refine Gn (ej59 _ _ s67.1 h ⟨(by repeat' constructor),⟨⟨_,rfl,.map⟩,⟨_,rfl,.same⟩,⟨_,rfl,.map⟩,⟨_,rfl,.boxL rfl ⟨.same rfl,.same rfl,G⟩⟩,⟨_,rfl,.boxL rfl ⟨.same rfl,.same rfl,G⟩⟩,G⟩,rfl⟩)
    ·intro j59 h
     replace h:=app1 hkj59 h
     refine G3 (JLh (G0 ((i56+1:Nat):Int)) (Hu (He hk56 hm84) O O O) O (Ru (G0 ((i56+1:Nat):Int)) O (G7 (e56 _ _ (i56+1) j59 (app1 hn56 h) (by omega) ⟨(by repeat' constructor),⟨⟨_,rfl,.map⟩,⟨_,rfl,.same⟩,⟨_,rfl,.map⟩,⟨_,rfl,.boxL rfl ⟨.same rfl,.same rfl,G⟩⟩,⟨_,rfl,.boxL rfl ⟨.same rfl,.same rfl,G⟩⟩,G⟩,rfl⟩))))
   ·
    have h:=app1 hkx56 (Hp hi56 (H7 hb))
    refine Hr (hK54 (Jr fun hK115=>(JLh (.mp 1046) (G9a 1046 (fun n:Int=>Value.int .i64 n) Slot.av O O) O (Ru (.mp 1046) O ?_))))
    refine JL_rename 1045 1046 (MP 102 (fun n:Int=>Value.int .i64 n) Slot.av (H5.empty:H5 Int Slot)) [(1,E2 boxes),(2,.mp 1018),(3,G0 calls),(4,Ec s),(8,.ptr 1038 0),(10,.ptr 1039 0),(12,Ei i6),(13,E0 s56),(83,E2 boxes),(84,Ei boxes.length),(85,Ei i56),(86,BL (decide ((i56:Int) < (boxes.length:Int)))),(158,.mp 1046),(11,.mp 1046)] [(1,E2 boxes),(2,.mp 1018),(3,G0 calls),(4,Ec s),(8,.ptr 1038 0),(10,.ptr 1039 0),(12,Ei i6),(13,E0 s56),(83,E2 boxes),(84,Ei boxes.length),(85,Ei i56),(86,BL (decide ((i56:Int) < (boxes.length:Int)))),(158,.mp 1045),(11,.mp 1045)] [(1018,MP 68 (fun n:Int=>Value.int .i64 n) G0 home),(1047,.spare 47 1 s6.1.length s6.1.length),(1038,.box 41 [LS 1 (E0) ([]:List (List Stowed)),LS 1 (E1) ([]:List (List Int))]),(1039,.box 41 [OW 1047 1 (E0) s6.1,LS 1 (E1) s6.2.1])] ⟨_,_,rfl⟩ ⟨(by repeat' constructor),⟨⟨_,rfl,.map⟩,⟨_,rfl,.map⟩,⟨_,rfl,.same⟩,⟨_,rfl,.boxL rfl ⟨.same rfl,.same rfl,G⟩⟩,⟨_,rfl,.boxL rfl ⟨.same rfl,.same rfl,G⟩⟩,G⟩,rfl⟩ rfl rfl rfl rfl rfl ⟨⟨_,rfl,.map⟩,⟨_,rfl,.same⟩,⟨_,rfl,.boxEq rfl rfl⟩,⟨_,rfl,.boxEq rfl rfl⟩,G⟩ ⟨.inr ⟨rfl,rfl⟩,⟨.inr ⟨rfl,rfl⟩,⟨.inr ⟨rfl,rfl⟩,⟨.inr ⟨rfl,rfl⟩,⟨.inr ⟨rfl,rfl⟩,⟨.inr ⟨rfl,rfl⟩,⟨.inr ⟨rfl,rfl⟩,⟨.inr ⟨rfl,rfl⟩,⟨.inr ⟨rfl,rfl⟩,⟨.inr ⟨rfl,rfl⟩,⟨.inr ⟨rfl,rfl⟩,⟨.inr ⟨rfl,rfl⟩,⟨.inl ⟨rfl,rfl⟩,⟨.inl ⟨rfl,rfl⟩,G⟩⟩⟩⟩⟩⟩⟩⟩⟩⟩⟩⟩⟩⟩ ?_
    refine G7 (hK115 (Js fun hK116=>Jr fun hK117=>(Ru (E0 s56) O (JLl Gx O O O fun hm160=>(Ru (G0 0) O (G7 (hK117 (Gq ?_))))))))
    obtain⟨b138,kx138,hb138,hkx138,h⟩:=Hx h
    refine Hg (fun i138 (s138:(H5 Int Slot))=>each b138 kx138 (List.drop i138 s56) i138 s138=some r) (fun i138 s138=>[(1,E2 boxes),(2,.mp 1018),(3,G0 calls),(4,Ec s),(8,.ptr 1038 0),(10,.ptr 1039 0),(11,.mp 1045),(12,Ei i6),(13,E0 s56),(159,E0 s56),(160,Ei s56.length),(161,Ei i138)]) (fun i138 s138=>[(1045,MP 102 (fun n:Int=>Value.int .i64 n) Slot.av s138),(1018,MP 68 (fun n:Int=>Value.int .i64 n) G0 home),(1047,.spare 47 1 s6.1.length s6.1.length),(1038,.box 41 [LS 1 (E0) ([]:List (List Stowed)),LS 1 (E1) ([]:List (List Int))]),(1039,.box 41 [OW 1047 1 (E0) s6.1,LS 1 (E1) s6.2.1])]) (fun i138=>s56.length - i138) 0 (H5.empty:H5 Int Slot) h ⟨(by repeat' constructor),⟨⟨_,rfl,.map⟩,⟨_,rfl,.map⟩,⟨_,rfl,.same⟩,⟨_,rfl,.boxL rfl ⟨.same rfl,.same rfl,G⟩⟩,⟨_,rfl,.boxL rfl ⟨.same rfl,.same rfl,G⟩⟩,G⟩,rfl⟩ ?_
    clear h
    intro i138 s138 hi138 K138 e138
    refine Jr fun hK139=>(JLh (BL (decide ((i138:Int) < (s56.length:Int)))) (Hz O O O) O (G7 (hK139 (Js fun hK140=>Gk O (fun hb=>?_) (fun hb=>?_)))))
    ·
     have hk138:=Jb hb
     obtain⟨y138,nx138,hy138,hn138,h⟩:=Ho hi138 hk138
     replace h:=Rw hb138 h
     refine Gn (hK140 (Js fun hK141=>Gq (Jr fun hK142=>(JLh (Ed y138) (H4 (f:=Stowed.av) (xs:=s56) (y:=y138) O O O Gx hy138 O) O (JLh (.agg (Stowed.cs y138)) (Gi Q0 O O O) O (JLh (.ptr 1044 0) (Hn 1044 4 Je O O) O (Hs (u:=.junk) (Ha (u:=.agg (Stowed.cs y138)) (ds:=[G0 y138.Gd,G0 y138.Slot.G4,G0 y138.Slot.Tier,U8 y138.Slot.Half]) Qv O O O O O O O O) (G7 (hK142 ?_)))))))))
     refine Gp [(1,E2 boxes),(2,.mp 1018),(3,G0 calls),(4,Ec s),(8,.ptr 1038 0),(10,.ptr 1039 0),(11,.mp 1045),(12,Ei i6),(13,E0 s56),(28,Ed y138),(159,E0 s56),(160,Ei s56.length),(161,Ei i138)] [(1045,MP 102 (fun n:Int=>Value.int .i64 n) Slot.av s138),(1018,MP 68 (fun n:Int=>Value.int .i64 n) G0 home),(1047,.spare 47 1 s6.1.length s6.1.length),(1038,.box 41 [LS 1 (E0) ([]:List (List Stowed)),LS 1 (E1) ([]:List (List Int))]),(1039,.box 41 [OW 1047 1 (E0) s6.1,LS 1 (E1) s6.2.1])] 1044 rfl rfl rfl ⟨⟨_,rfl,.map⟩,⟨_,rfl,.map⟩,⟨_,rfl,.same⟩,⟨_,rfl,.boxEq rfl rfl⟩,⟨_,rfl,.boxEq rfl rfl⟩,G⟩ rfl (by repeat' (first | exact .ptr | constructor)) ?_
     refine G3 (Ru (.mp 1045) O (JLh (Ed y138) (Ga Hv O O O) O (JLh (G0 y138.Gd) (Gf Gc O O O) O (JLh (.dptr ((Stowed.cs y138).drop 1)) (Ga J1 O O O) O (JLh (.agg ((Stowed.cs y138).drop 1)) (Gi Jp O O O) O (Hs (u:=.junk) (H44 (m:=s138) (a:=y138.Gd) (v:=y138.Slot) O O O O O O tk_3 J4e) (G7 (hK141 (G3 (JLh (G0 ((i138+1:Nat):Int)) (Hu (He hk138 hm160) O O O) O (Ru (G0 ((i138+1:Nat):Int)) O (G7 (e138 _ _ (i138+1) (H5.put s138 y138.Gd y138.Slot) (app1 hn138 h) (by omega) ⟨(by repeat' constructor),⟨⟨_,rfl,.map⟩,⟨_,rfl,.map⟩,⟨_,rfl,.same⟩,⟨_,rfl,.boxL rfl ⟨.same rfl,.same rfl,G⟩⟩,⟨_,rfl,.boxL rfl ⟨.same rfl,.same rfl,G⟩⟩,G⟩,rfl⟩)))))))))))))
    ·
     have h:=app1 hkx138 (Hp hi138 (H7 hb))
     refine Hr (hK116 (G3 (JLh (.ptr 1039 0) (Qf Z8 O O) O (JLh (OW 1047 1 (E0) s6.1) (Qj Y2 O O O O) O (Ru (E0 s56) O (JLh (LS 1 (E0) [s56]) (H9 (xs:=[E0 s56]) O ⟨O,O,G⟩ J9 G34 O O O O) O ?_))))))
     obtain⟨ha143,h⟩:=Jj h
     refine JLh (OW 1047 1 (E0) (s6.1++[s56])) (Rc (f:=(E0)) (xs:=s6.1) (ys:=[s56]) O O O O J9 J57 ha143 (fun _=>O) (.inl O) O) O (JLh (.ptr 1039 0) (Qf Z8 O O) O (Hs (u:=.junk) (Ha (u:=OW 1047 1 (E0) (s6.1++[s56])) (ds:=[OW 1047 1 (E0) (s6.1++[s56]),LS 1 (E1) s6.2.1]) Ha4 O O O O O O O O) (G7 (hK9 (G3 (Ru (Ei i6) O (JLh (G0 ((i6+1:Nat):Int)) (Hu (He hk6 (G6c hx6)) O O O) O (Ru (G0 ((i6+1:Nat):Int)) O (G7 (e6 _ _ (i6+1) ((s6.1++[s56]),s6.2.1,s138) (app1 hn6 h) (by omega) ⟨(by repeat' constructor),⟨⟨_,rfl,.map⟩,⟨_,rfl,.same⟩,⟨_,rfl,.map⟩,⟨_,rfl,.boxL rfl ⟨.same rfl,.same rfl,G⟩⟩,⟨_,rfl,.boxL rfl ⟨.same rfl,.same rfl,G⟩⟩,G⟩,rfl⟩))))))))))
 ·
  have h:=app1 hkx6 (Ga4 hi6 (Zq hb))
  refine Hr (hK4 (Jr fun hK144=>(JLh (.agg [OW 1047 1 (E0) s6.1,LS 1 (E1) s6.2.1]) (Hbe Ys O O O O) O (Hs (u:=.junk) (Ha (u:=.agg [OW 1047 1 (E0) s6.1,LS 1 (E1) s6.2.1]) (ds:=[OW 1047 1 (E0) s6.1,LS 1 (E1) s6.2.1]) G67 O O O O O O O O) (Ru (G0 0) O (G7 (hK144 (Gr ?_))))))))
  obtain rfl:=Option.some.inj h
  exact⟨[.agg [LS 1 (E0) s6.1,LS 1 (E1) s6.2.1],G0 0],[(1018,MP 68 (fun n:Int=>Value.int .i64 n) G0 home)],⟨⟨_,O,.map⟩,G⟩,O,⟨⟨_,⟨_,_,_,_,O,O,O,.inl ⟨Ys,O⟩⟩,.agg ⟨.list O,.same O,G⟩⟩,⟨_,O,.conv (.same O)⟩,G⟩,O,O⟩

def Rs (F:Nat) (s:Gw) (l:List Hd) (calls:Int) (most:Int):Option ((List Gd)×G2f):=
 bnd (H5a (min (l.length:Int) most) l.length) fun m6=>
 each (fun y119 i119 (s119:(List Gd)×(H5 Int Int)) nx119=>
  G0d (5*((i119+1:Nat):Int)) fun v125=>
  G0d (y119.Kilos) fun v126=>
  G0d (100*v126) fun v127=>
  G0d (1000+v127) fun v128=>
  G0d (y119.Load) fun v129=>
  G0d (calls - 1) fun v130=>
  bnd (H46 v129 v130) fun v131=>
  G0d (v131+1) fun v133=>
  G0d (y119.Stay) fun v134=>
  G0d (calls - 1) fun v135=>
  G0d (v135 - v131) fun v136=>
  bnd (H46 v134 v136) fun v137=>
  G0d (v133+v137) fun v138=>
  jp (fun kj139=>
   bif y119.Small then
   (kj139 (20,false))
   else
   (kj139 (40,y119.High))) fun(j139:Int×Bool)=>
  G0d (y119.G4) fun v142=>
  bnd (H46 v142 (s.Columns.length:Int)) fun v143=>
  need (decide ((s119.1.length+[(Gd.mk v125 ByteArray.empty j139.1 j139.2 v128 v131 v138 0 false)].length)*64≤140737488355328∧s119.1.length+[(Gd.mk v125 ByteArray.empty j139.1 j139.2 v128 v131 v138 0 false)].length≤maxLen)) <|
  nx119 ((s119.1++[(Gd.mk v125 ByteArray.empty j139.1 j139.2 v128 v131 v138 0 false)]),(H5.put s119.2 v125 v143)))
 (fun(s119:(List Gd)×(H5 Int Int))=>
  G0d ((s119.1.length:Int)+1) fun v147=>
  need (decide (v147≤9223372036854775807)) <|
  upto (fun i148 (s148:(List Gd)×(H5 Int Int)) nx148=>
   bnd (Rq F s s148.1 s148.2 calls) fun r153=>
   bif decide (r153.2.1=0) then
   (some (s148.1,r153.1))
   else
   (each (fun y174 i174 (s174:(List Gd)) nx174=>
     jp (fun kj177=>
      bif decide (y174.ID≠r153.2.1) then
      (need (decide ((s174.length+[y174].length)*64≤140737488355328∧s174.length+[y174].length≤maxLen)) <|
       kj177 (s174++[y174]))
      else
      (kj177 s174)) fun(j177:(List Gd))=>
     nx174 j177)
    (fun(s174:(List Gd))=>
     nx148 (s174,r153.2.2)) s148.1 0 []))
  (fun(s148:(List Gd)×(H5 Int Int))=>
   bnd (natOf calls) fun m182=>
   need (decide (24*m182≤281474976710656∧m182≤maxLen∧m182*1≤16777216)) <|
   some ([],(G2f.mk (List.replicate m182 ([]:List Stowed)) []))) v147.toNat 0 (s119.1,s119.2)) (l.take m6) 0 ([],(H5.empty:H5 Int Int))
theorem Gef (F:Nat) (s:Gw) (l:List Hd) (calls:Int) (most:Int) (r:(List Gd)×G2f) (h:Rs F s l calls most=some r):Pure Ej 5 [.agg (Gw.cs s),Ea l,G0 calls,G0 most] (·=.tup [E2 r.1,.agg [LS 1 (E0) r.2.States,LS 1 (E1) r.2.Water]]):=by
 unfold Rs at h
 refine H1 [.tmp 8,.cell 9 41] Tryz.func5 O O (Jr fun hK1=>(JLh (.ptr 1010 0) (Jm (cs:=(Gw.cs s)) 1010 O O O O O) O (JLh (E2 ([]:List Gd)) (Ht 9 O O) O (JLh (.ptr 1011 0) (G16 1011 [LS 1 (E0) ([]:List (List Stowed)),LS 1 (E1) ([]:List (List Int))] [.slice none 0 0,.slice none 0 0] G8f ⟨.inr ⟨_,O,O⟩,.inr ⟨_,O,O⟩,G⟩ O O) O (G7 (hK1 ?_))))))
 refine Gp [(1,Ea l),(2,G0 calls),(3,G0 most),(4,Ec s),(9,.ptr 1011 0)] [(1011,.box 41 [LS 1 (E0) ([]:List (List Stowed)),LS 1 (E1) ([]:List (List Int))])] 1010 rfl rfl rfl ⟨⟨_,rfl,.boxEq rfl rfl⟩,G⟩ rfl (by repeat' (first | exact .ptr | constructor)) (Jr fun hK2=>(JLh (OW 1012 9 Gd.av ([]:List Gd)) (G61 1012 55 9 O O O) O (G7 (hK2 (Jr fun hK3=>(JLh (.mp 1018) (G9a 1018 (fun n:Int=>Value.int .i64 n) G0 O O) O (Ru (.mp 1018) O (G7 (hK3 (Js fun hK4=>?_))))))))))
 refine Jr fun hK5=>(Ru (Ea l) O (Ru (Ea l) O (JLl Gf4 O O O fun hm23=>(Ru (G0 most) O (JLh (G0 (min (l.length:Int) most)) (A_min O O O) O ?_)))))
 obtain⟨m6,hm6,h⟩:=Ge h
 refine JLh (Ea (l.take m6)) (Hbc (f:=Hd.av) (xs:=l) O O O Gf4 (G94 hm6)) O (JLl Gf4 O O O fun hm27=>(Ru (G0 0) O (G7 (hK5 (Gq ?_)))))
 obtain⟨b119,kx119,hb119,hkx119,h⟩:=Hx h
 refine Hg (fun i119 (s119:(List Gd)×(H5 Int Int))=>each b119 kx119 (List.drop i119 (l.take m6)) i119 s119=some r) (fun i119 s119=>[(2,G0 calls),(4,Ec s),(9,.ptr 1011 0),(10,OW 1012 9 Gd.av s119.1),(11,.mp 1018),(26,Ea (l.take m6)),(27,G0 ((l.take m6).length:Int)),(28,Ei i119)]) (fun i119 s119=>[(1012,.spare 55 9 s119.1.length s119.1.length),(1018,MP 68 (fun n:Int=>Value.int .i64 n) G0 s119.2),(1011,.box 41 [LS 1 (E0) ([]:List (List Stowed)),LS 1 (E1) ([]:List (List Int))])]) (fun i119=>(l.take m6).length - i119) 0 ([],(H5.empty:H5 Int Int)) h ⟨(by repeat' constructor),⟨⟨_,rfl,.same⟩,⟨_,rfl,.map⟩,⟨_,rfl,.boxL rfl ⟨.same rfl,.same rfl,G⟩⟩,G⟩,rfl⟩ ?_
 clear h
 intro i119 s119 hi119 K119 e119
 refine Jr fun hK120=>(JLh (BL (decide ((i119:Int) < ((l.take m6).length:Int)))) (Hz O O O) O (G7 (hK120 (Js fun hK121=>Gk O (fun hb=>?_) (fun hb=>?_)))))
 ·
  have hk119:=Jb hb
  obtain⟨y119,nx119,hy119,hn119,h⟩:=Ho hi119 hk119
  replace h:=Rw hb119 h
  refine Gn (hK121 (Js fun hK122=>Gq (Jr fun hK123=>(Ru (Ei i119) O (JLh (.dptr (Hd.cs y119)) (H4 (f:=Hd.av) (xs:=(l.take m6)) (y:=y119) O O O Gf4 hy119 O) O (JLh (.agg (Hd.cs y119)) (Gi tf_agg_70 O O O) O (JLh (.ptr 1013 0) (Hn 1013 6 Jce O O) O (Ru (Ei i119) O (Hs (u:=.junk) (Ha (u:=.agg (Hd.cs y119)) (ds:=[U8 y119.G4,U8 y119.Kilos,U8 y119.Load,U8 y119.Stay,BL y119.Small,BL y119.High]) Jec O O O O O O O O) (G7 (hK123 ?_)))))))))))
  refine Gp [(2,G0 calls),(4,Ec s),(9,.ptr 1011 0),(10,OW 1012 9 Gd.av s119.1),(11,.mp 1018),(12,Ei i119),(13,.dptr (Hd.cs y119)),(26,Ea (l.take m6)),(27,G0 ((l.take m6).length:Int)),(28,Ei i119)] [(1012,.spare 55 9 s119.1.length s119.1.length),(1018,MP 68 (fun n:Int=>Value.int .i64 n) G0 s119.2),(1011,.box 41 [LS 1 (E0) ([]:List (List Stowed)),LS 1 (E1) ([]:List (List Int))])] 1013 rfl rfl rfl ⟨⟨_,rfl,.same⟩,⟨_,rfl,.map⟩,⟨_,rfl,.boxEq rfl rfl⟩,G⟩ rfl (by repeat' (first | exact .ptr | constructor)) ?_
  refine Js fun hK124=>?_
  refine Yj (l':=[(2,G0 calls),(4,Ec s),(9,.ptr 1011 0),(10,OW 1012 9 Gd.av s119.1),(11,.mp 1018),(12,Ei i119),(13,.dptr (Hd.cs y119)),(26,Ea (l.take m6)),(27,G0 ((l.take m6).length:Int)),(28,Ei i119)]) (L':=[(1012,.spare 55 9 s119.1.length s119.1.length),(1018,MP 68 (fun n:Int=>Value.int .i64 n) G0 s119.2),(1011,.box 41 [LS 1 (E0) ([]:List (List Stowed)),LS 1 (E1) ([]:List (List Int))])]) ⟨(by repeat' constructor),⟨⟨_,rfl,.same⟩,⟨_,rfl,.map⟩,⟨_,rfl,.boxL rfl ⟨.same rfl,.same rfl,G⟩⟩,G⟩,rfl⟩ ?_
  obtain⟨v125,hv125,h⟩:=J7 h
  obtain⟨v126,hv126,h⟩:=J7 h
  obtain⟨v127,hv127,h⟩:=J7 h
  obtain⟨v128,hv128,h⟩:=J7 h
  obtain⟨v129,hv129,h⟩:=J7 h
  obtain⟨v130,hv130,h⟩:=J7 h
  obtain⟨v131,hv131,h⟩:=Ge h
  refine Q7 [17,18] [0,0,0,0,0,0,0,0,0,0,0,0,0,0,0,0,0,0,0] [1,1,1,1,1,1,1,1,1,1,1,1,1,1,1,1,1,0,0] [[(1012,.spare 55 9 s119.1.length s119.1.length),(1018,MP 68 (fun n:Int=>Value.int .i64 n) G0 s119.2),(1011,.box 41 [LS 1 (E0) ([]:List (List Stowed)),LS 1 (E1) ([]:List (List Int))])],((1014,.box 55 [.junk,.junk,.junk,.junk,.junk,.junk,.junk,.junk,.junk])::[(1012,.spare 55 9 s119.1.length s119.1.length),(1018,MP 68 (fun n:Int=>Value.int .i64 n) G0 s119.2),(1011,.box 41 [LS 1 (E0) ([]:List (List Stowed)),LS 1 (E1) ([]:List (List Int))])]),((1014,.box 55 [G0 v125,ST ByteArray.empty,U8 40,BL y119.High,G0 v128,G0 v131,G0 0,U8 0,BL false])::((1014,.box 55 [.junk,.junk,.junk,.junk,.junk,.junk,.junk,.junk,.junk])::[(1012,.spare 55 9 s119.1.length s119.1.length),(1018,MP 68 (fun n:Int=>Value.int .i64 n) G0 s119.2),(1011,.box 41 [LS 1 (E0) ([]:List (List Stowed)),LS 1 (E1) ([]:List (List Int))])]))] Qb (by kernel_rfl) rfl rfl ?_
  refine Gm (u:=Ei i119) O O ⟨Gs (G6 O O) O,Gs (G6 O O) O,G⟩ (Gm (u:=G0 ((i119+1:Nat):Int)) O O ⟨Gs (Hu (He hk119 hm27) O O O) O,Gs (Hu (He hk119 hm27) O O O) O,G⟩ (Gm (u:=G0 v125) O O ⟨Gs (J2f hv125 O O O) O,Gs (J2f hv125 O O O) O,G⟩ (Gm (u:=.dptr [BL y119.High]) O O ⟨Gs (Ga H94 O O O) O,Gs (Ga H94 O O O) O,G⟩ (Gm (u:=BL y119.High) O O ⟨Gs (Gf Q9 O O O) O,Gs (Gf Q9 O O O) O,G⟩ (Gm (u:=.dptr ((Hd.cs y119).drop 1)) O O ⟨Gs (Ga H96 O O O) O,Gs (Ga H96 O O O) O,G⟩ (Gm (u:=U8 y119.Kilos) O O ⟨Gs (Gf J6 O O O) O,Gs (Gf J6 O O O) O,G⟩ (Gm (u:=G0 v126) O O ⟨Gs (Gbe G22 G52 hv126 O O) O,Gs (Gbe G22 G52 hv126 O O) O,G⟩ (Gm (u:=G0 v127) O O ⟨Gs (J2f hv127 O O O) O,Gs (J2f hv127 O O O) O,G⟩ (Gm (u:=G0 v128) O O ⟨Gs (Hu hv128 O O O) O,Gs (Hu hv128 O O O) O,G⟩ (Gm (u:=.dptr ((Hd.cs y119).drop 2)) O O ⟨Gs (Ga H95 O O O) O,Gs (Ga H95 O O O) O,G⟩ (Gm (u:=U8 y119.Load) O O ⟨Gs (Gf J6 O O O) O,Gs (Gf J6 O O O) O,G⟩ (Gm (u:=G0 v129) O O ⟨Gs (Gbe G22 G52 hv129 O O) O,Gs (Gbe G22 G52 hv129 O O) O,G⟩ (Gm (u:=G0 calls) O O ⟨Gs (G6 O O) O,Gs (G6 O O) O,G⟩ ?_)))))))))))))
  refine Gm (u:=G0 v130) O O ⟨Gs (Gea hv130 O O O) O,Gs (Gea hv130 O O O) O,G⟩ (Gm (u:=G0 v131) O O ⟨Gs (Hec (R8 hv131).1 (R8 hv131).2 O O O) O,Gs (Hec (R8 hv131).1 (R8 hv131).2 O O O) O,G⟩ (Gm (u:=.agg [G0 v125,ST ByteArray.empty,U8 40,BL y119.High,G0 v128,G0 v131,G0 0,U8 0,BL false]) O O ⟨Gs (J8 (cs:=[G0 v125,ST ByteArray.empty,U8 40,BL y119.High,G0 v128,G0 v131,G0 0,U8 0,BL false]) [(0,1),(1,1),(2,1),(3,1),(4,1),(5,1),(6,1),(7,1),(8,1)] [G0 0,ST ByteArray.empty,U8 0,BL false,G0 0,G0 0,G0 0,U8 0,BL false] [.int .i64 0,.string ByteArray.empty,.int .u8 0,.bool false,.int .i64 0,.int .i64 0,.int .i64 0,.int .u8 0,.bool false] G42 G66 ⟨.inl O,.inl O,.inl O,.inl O,.inl O,.inl O,.inl O,.inl O,.inl O,G⟩ O O) O,Gs (J8 (cs:=[G0 v125,ST ByteArray.empty,U8 40,BL y119.High,G0 v128,G0 v131,G0 0,U8 0,BL false]) [(0,1),(1,1),(2,1),(3,1),(4,1),(5,1),(6,1),(7,1),(8,1)] [G0 0,ST ByteArray.empty,U8 0,BL false,G0 0,G0 0,G0 0,U8 0,BL false] [.int .i64 0,.string ByteArray.empty,.int .u8 0,.bool false,.int .i64 0,.int .i64 0,.int .i64 0,.int .u8 0,.bool false] G42 G66 ⟨.inl O,.inl O,.inl O,.inl O,.inl O,.inl O,.inl O,.inl O,.inl O,G⟩ O O) O,G⟩ (D_w (u:=.ptr 1014 0) O O O O (Gs (Hn 1014 9 Rn O O) O) (Jc9 (u:=.junk) O O O O (Gs (Ha (u:=.agg [G0 v125,ST ByteArray.empty,U8 40,BL y119.High,G0 v128,G0 v131,G0 0,U8 0,BL false]) (ds:=[G0 v125,ST ByteArray.empty,U8 40,BL y119.High,G0 v128,G0 v131,G0 0,U8 0,BL false]) Yv O O O O O O O O) O) (Yq ?_)))))
  refine hK124 (Js fun hK132=>?_)
  refine Yj (l':=[(2,G0 calls),(4,Ec s),(9,.ptr 1011 0),(10,OW 1012 9 Gd.av s119.1),(11,.mp 1018),(13,.dptr (Hd.cs y119)),(14,.ptr 1014 0),(26,Ea (l.take m6)),(27,G0 ((l.take m6).length:Int)),(28,Ei i119)]) (L':=[(1012,.spare 55 9 s119.1.length s119.1.length),(1018,MP 68 (fun n:Int=>Value.int .i64 n) G0 s119.2),(1011,.box 41 [LS 1 (E0) ([]:List (List Stowed)),LS 1 (E1) ([]:List (List Int))]),(1014,.box 55 [G0 v125,ST ByteArray.empty,U8 40,BL y119.High,G0 v128,G0 v131,G0 0,U8 0,BL false])]) ⟨(by repeat' constructor),⟨⟨_,rfl,.same⟩,⟨_,rfl,.map⟩,⟨_,rfl,.boxL rfl ⟨.same rfl,.same rfl,G⟩⟩,⟨_,rfl,.boxL rfl (by repeat' constructor)⟩,G⟩,rfl⟩ ?_
  obtain⟨v133,hv133,h⟩:=J7 h
  obtain⟨v134,hv134,h⟩:=J7 h
  obtain⟨v135,hv135,h⟩:=J7 h
  obtain⟨v136,hv136,h⟩:=J7 h
  obtain⟨v137,hv137,h⟩:=Ge h
  obtain⟨v138,hv138,h⟩:=J7 h
  refine Q7 [14] [0,0,0,0,0,0,0,0,0,0,0,0,0,0,0] [0,0,0,0,0,0,0,0,0,0,0,0,0,0,0] [[(1012,.spare 55 9 s119.1.length s119.1.length),(1018,MP 68 (fun n:Int=>Value.int .i64 n) G0 s119.2),(1011,.box 41 [LS 1 (E0) ([]:List (List Stowed)),LS 1 (E1) ([]:List (List Int))]),(1014,.box 55 [G0 v125,ST ByteArray.empty,U8 40,BL y119.High,G0 v128,G0 v131,G0 0,U8 0,BL false])],((1014,.box 55 [G0 v125,ST ByteArray.empty,U8 40,BL y119.High,G0 v128,G0 v131,G0 v138,U8 0,BL false])::[(1012,.spare 55 9 s119.1.length s119.1.length),(1018,MP 68 (fun n:Int=>Value.int .i64 n) G0 s119.2),(1011,.box 41 [LS 1 (E0) ([]:List (List Stowed)),LS 1 (E1) ([]:List (List Int))]),(1014,.box 55 [G0 v125,ST ByteArray.empty,U8 40,BL y119.High,G0 v128,G0 v131,G0 0,U8 0,BL false])])] Qb (by kernel_rfl) rfl rfl ?_
  refine Gm (u:=.ptr 1014 5) O O ⟨Gs (Qf G00 O O) O,G⟩ (Gm (u:=G0 v131) O O ⟨Gs (Qj Gc O O O O) O,G⟩ (Gm (u:=G0 v133) O O ⟨Gs (Hu hv133 O O O) O,G⟩ (Gm (u:=.dptr ((Hd.cs y119).drop 3)) O O ⟨Gs (Ga Jb2 O O O) O,G⟩ (Gm (u:=U8 y119.Stay) O O ⟨Gs (Gf J6 O O O) O,G⟩ (Gm (u:=G0 v134) O O ⟨Gs (Gbe G22 G52 hv134 O O) O,G⟩ (Gm (u:=G0 calls) O O ⟨Gs (G6 O O) O,G⟩ (Gm (u:=G0 v135) O O ⟨Gs (Gea hv135 O O O) O,G⟩ (Gm (u:=.ptr 1014 5) O O ⟨Gs (Qf G00 O O) O,G⟩ (Gm (u:=G0 v131) O O ⟨Gs (Qj Gc O O O O) O,G⟩ (Gm (u:=G0 v136) O O ⟨Gs (Gea hv136 O O O) O,G⟩ (Gm (u:=G0 v137) O O ⟨Gs (Hec (R8 hv137).1 (R8 hv137).2 O O O) O,G⟩ (Gm (u:=G0 v138) O O ⟨Gs (Hu hv138 O O O) O,G⟩ (Gm (u:=.ptr 1014 6) O O ⟨Gs (Qf G27 O O) O,G⟩ ?_)))))))))))))
  refine Jc9 (u:=.junk) O O O O (Gs (Ha (u:=G0 v138) (ds:=[G0 v125,ST ByteArray.empty,U8 40,BL y119.High,G0 v128,G0 v131,G0 v138,U8 0,BL false]) Gcb O O O O O O O O) O) (Yq (hK132 ?_))
  obtain⟨kj139,hkj139,h⟩:=Rg h
  refine Qg (fun j139:Int×Bool=>kj139 j139=some r) (fun j139=>[(2,G0 calls),(4,Ec s),(9,.ptr 1011 0),(10,OW 1012 9 Gd.av s119.1),(11,.mp 1018),(13,.dptr (Hd.cs y119)),(14,.ptr 1014 0),(26,Ea (l.take m6)),(27,G0 ((l.take m6).length:Int)),(28,Ei i119)]) (fun j139=>[(1012,.spare 55 9 s119.1.length s119.1.length),(1018,MP 68 (fun n:Int=>Value.int .i64 n) G0 s119.2),(1011,.box 41 [LS 1 (E0) ([]:List (List Stowed)),LS 1 (E1) ([]:List (List Int))]),(1014,.box 55 [G0 v125,ST ByteArray.empty,U8 j139.1,BL j139.2,G0 v128,G0 v131,G0 v138,U8 0,BL false])]) (fun Kj139 ej139=>?_) ?_
  ·
   refine Jr fun hK140=>(JLh (.dptr [BL y119.Small,BL y119.High]) (Ga Jb1 O O O) O (JLh (BL y119.Small) (Gf Q9 O O O) O (G7 (hK140 (JCc O h (fun h hb=>?_) (fun h hb=>?_))))))
   ·
    refine G3 (JLh (.ptr 1014 2) (Qf Z7 O O) O (Hs (u:=.junk) (Ha (u:=U8 20) (ds:=[G0 v125,ST ByteArray.empty,U8 20,BL y119.High,G0 v128,G0 v131,G0 v138,U8 0,BL false]) tf_size_5 O O O O O O O O) (JLh (.ptr 1014 3) (Qf H07 O O) O (Hs (u:=.junk) (Ha (u:=BL false) (ds:=[G0 v125,ST ByteArray.empty,U8 20,BL false,G0 v128,G0 v131,G0 v138,U8 0,BL false]) tf_size_4 O O O O O O O O) (G7 (ej139 _ _ (20,false) h ⟨(by repeat' constructor),⟨⟨_,rfl,.same⟩,⟨_,rfl,.map⟩,⟨_,rfl,.boxL rfl ⟨.same rfl,.same rfl,G⟩⟩,⟨_,rfl,.boxL rfl (by repeat' constructor)⟩,G⟩,rfl⟩))))))
   ·
    refine Gn (ej139 _ _ (40,y119.High) h ⟨(by repeat' constructor),⟨⟨_,rfl,.same⟩,⟨_,rfl,.map⟩,⟨_,rfl,.boxL rfl ⟨.same rfl,.same rfl,G⟩⟩,⟨_,rfl,.boxL rfl (by repeat' constructor)⟩,G⟩,rfl⟩)
  ·intro j139 h
   replace h:=app1 hkj139 h
   refine Js fun hK141=>?_
   refine Yj (l':=[(2,G0 calls),(4,Ec s),(9,.ptr 1011 0),(10,OW 1012 9 Gd.av s119.1),(11,.mp 1018),(13,.dptr (Hd.cs y119)),(14,.ptr 1014 0),(26,Ea (l.take m6)),(27,G0 ((l.take m6).length:Int)),(28,Ei i119)]) (L':=[(1012,.spare 55 9 s119.1.length s119.1.length),(1018,MP 68 (fun n:Int=>Value.int .i64 n) G0 s119.2),(1011,.box 41 [LS 1 (E0) ([]:List (List Stowed)),LS 1 (E1) ([]:List (List Int))]),(1014,.box 55 [G0 v125,ST ByteArray.empty,U8 j139.1,BL j139.2,G0 v128,G0 v131,G0 v138,U8 0,BL false])]) ⟨(by repeat' constructor),⟨⟨_,rfl,.same⟩,⟨_,rfl,.map⟩,⟨_,rfl,.boxL rfl ⟨.same rfl,.same rfl,G⟩⟩,⟨_,rfl,.boxL rfl (by repeat' constructor)⟩,G⟩,rfl⟩ ?_
   obtain⟨v142,hv142,h⟩:=J7 h
   obtain⟨v143,hv143,h⟩:=Ge h
   refine Q7 [10] [0,0,0,0,0,0,0,0,0,0,0] [0,0,0,0,0,0,0,0,0,0,0] [[(1012,.spare 55 9 s119.1.length s119.1.length),(1018,MP 68 (fun n:Int=>Value.int .i64 n) G0 s119.2),(1011,.box 41 [LS 1 (E0) ([]:List (List Stowed)),LS 1 (E1) ([]:List (List Int))]),(1014,.box 55 [G0 v125,ST ByteArray.empty,U8 j139.1,BL j139.2,G0 v128,G0 v131,G0 v138,U8 0,BL false])],((1018,MP 68 (fun n:Int=>Value.int .i64 n) G0 (H5.put s119.2 v125 v143))::[(1012,.spare 55 9 s119.1.length s119.1.length),(1018,MP 68 (fun n:Int=>Value.int .i64 n) G0 s119.2),(1011,.box 41 [LS 1 (E0) ([]:List (List Stowed)),LS 1 (E1) ([]:List (List Int))]),(1014,.box 55 [G0 v125,ST ByteArray.empty,U8 j139.1,BL j139.2,G0 v128,G0 v131,G0 v138,U8 0,BL false])])] Qb (by kernel_rfl) rfl rfl ?_
   refine Gm (u:=.mp 1018) O O ⟨Gs (G6 O O) O,G⟩ (Gm (u:=.ptr 1014 0) O O ⟨Gs (Qf Jq O O) O,G⟩ (Gm (u:=G0 v125) O O ⟨Gs (Qj Gc O O O O) O,G⟩ (Gm (u:=.dptr (Hd.cs y119)) O O ⟨Gs (Ga Jb3 O O O) O,G⟩ (Gm (u:=U8 y119.G4) O O ⟨Gs (Gf J6 O O O) O,G⟩ (Gm (u:=G0 v142) O O ⟨Gs (Gbe G22 G52 hv142 O O) O,G⟩ (Gm (u:=Ec s) O O ⟨Gs (Ga J2 O O O) O,G⟩ (Gm (u:=E3 s.Columns) O O ⟨Gs (Gf Ja O O O) O,G⟩ (Gm (u:=Ei s.Columns.length) O O ⟨Gs (Z4 (f:=G4.av) (xs:=s.Columns) J5 O O) O,G⟩ (Gm (u:=G0 v143) O O ⟨Gs (Hec (R8 hv143).1 (R8 hv143).2 O O O) O,G⟩ (Jc9 (u:=.junk) O O O O (Gs (H44 (m:=s119.2) (a:=v125) (v:=v143) O O O O O O tk_3 Jbc) O) (Yq ?_)))))))))))
   refine hK141 ?_
   refine Gp [(2,G0 calls),(4,Ec s),(9,.ptr 1011 0),(10,OW 1012 9 Gd.av s119.1),(11,.mp 1018),(14,.dptr [G0 v125,ST ByteArray.empty,U8 j139.1,BL j139.2,G0 v128,G0 v131,G0 v138,U8 0,BL false]),(26,Ea (l.take m6)),(27,G0 ((l.take m6).length:Int)),(28,Ei i119)] [(1012,.spare 55 9 s119.1.length s119.1.length),(1018,MP 68 (fun n:Int=>Value.int .i64 n) G0 (H5.put s119.2 v125 v143)),(1011,.box 41 [LS 1 (E0) ([]:List (List Stowed)),LS 1 (E1) ([]:List (List Int))])] 1014 rfl rfl rfl ⟨⟨_,rfl,.same⟩,⟨_,rfl,.map⟩,⟨_,rfl,.boxEq rfl rfl⟩,G⟩ rfl (by repeat' (first | exact .ptr | constructor)) ?_
   refine G3 (Ru (OW 1012 9 Gd.av s119.1) O (JLh (.agg [G0 v125,ST ByteArray.empty,U8 j139.1,BL j139.2,G0 v128,G0 v131,G0 v138,U8 0,BL false]) (Gi Zc O O O) O (JLh (E2 [(Gd.mk v125 ByteArray.empty j139.1 j139.2 v128 v131 v138 0 false)]) (H9 (xs:=[.agg [G0 v125,ST ByteArray.empty,U8 j139.1,BL j139.2,G0 v128,G0 v131,G0 v138,U8 0,BL false]]) O ⟨O,O,G⟩ Jw Rn O O O O) O ?_)))
   obtain⟨ha144,h⟩:=Jj h
   refine JLh (OW 1012 9 Gd.av (s119.1++[(Gd.mk v125 ByteArray.empty j139.1 j139.2 v128 v131 v138 0 false)])) (Rc (f:=Gd.av) (xs:=s119.1) (ys:=[(Gd.mk v125 ByteArray.empty j139.1 j139.2 v128 v131 v138 0 false)]) O O O O Jw J56 ha144 (fun _=>O) (.inl O) O) O (Ru (OW 1012 9 Gd.av (s119.1++[(Gd.mk v125 ByteArray.empty j139.1 j139.2 v128 v131 v138 0 false)])) O (G7 (hK122 (G3 (JLh (G0 ((i119+1:Nat):Int)) (Hu (He hk119 hm27) O O O) O (Ru (G0 ((i119+1:Nat):Int)) O (G7 (e119 _ _ (i119+1) ((s119.1++[(Gd.mk v125 ByteArray.empty j139.1 j139.2 v128 v131 v138 0 false)]),(H5.put s119.2 v125 v143)) (app1 hn119 h) (by omega) ⟨(by repeat' constructor),⟨⟨_,rfl,.same⟩,⟨_,rfl,.map⟩,⟨_,rfl,.boxL rfl ⟨.same rfl,.same rfl,G⟩⟩,G⟩,rfl⟩))))))))
 ·
  have h:=app1 hkx119 (Hp hi119 (H7 hb))
  refine Hr (hK4 (Js fun hK145=>Jr fun hK146=>(Ru (OW 1012 9 Gd.av s119.1) O (JLl Jw O O O fun hm84=>?_))))
  obtain⟨v147,hv147,h⟩:=J7 h
  refine JLh (G0 v147) (Hu hv147 O O O) O (Ru (G0 0) O (G7 (hK146 (Gq ?_))))
  obtain⟨hx148,h⟩:=Jj h
  obtain⟨b148,kx148,hb148,hkx148,h⟩:=Gf3 h
  refine Hg (fun i148 (s148:(List Gd)×(H5 Int Int))=>upto b148 kx148 (v147.toNat - i148) i148 s148=some r) (fun i148 s148=>[(2,G0 calls),(4,Ec s),(9,.ptr 1011 0),(10,E2 s148.1),(11,.mp 1018),(85,G0 v147),(86,Ei i148)]) (fun i148 s148=>[(1018,MP 68 (fun n:Int=>Value.int .i64 n) G0 s148.2),(1011,.box 41 [LS 1 (E0) ([]:List (List Stowed)),LS 1 (E1) ([]:List (List Int))])]) (fun i148=>v147.toNat - i148) 0 (s119.1,s119.2) h ⟨⟨.same O,.same O,.same O,.list O,.same O,.same O,.same O,G⟩,⟨⟨_,O,.map⟩,⟨_,O,.boxL O ⟨.same O,.same O,G⟩⟩,G⟩,O⟩ ?_
  clear h
  intro i148 s148 hi148 K148 e148
  refine Jr fun hK149=>(JLh (BL (decide ((i148:Int) < v147))) (Hz O O O) O (G7 (hK149 (Js fun hK150=>Gk O (fun hb=>?_) (fun hb=>?_)))))
  ·
   have hk148:=Ga7 hb
   obtain⟨nx148,hn148,h⟩:=Ga3 hi148 hk148
   replace h:=app3 hb148 h
   refine Gn (hK150 (Js fun hK151=>Gq (Jr fun hK152=>(JLh (.agg (Gw.cs s)) (Gi Hq O O O) O (Ru (E2 s148.1) O (Ru (.mp 1018) O (Ru (G0 calls) O ?_)))))))
   obtain⟨r153,hr153,h⟩:=Ge h
   refine JLh (.tup [.agg [LS 1 (E0) r153.1.States,LS 1 (E1) r153.1.Water],G0 r153.2.1]) (G33 (args:=[.agg (Gw.cs s),E2 s148.1,.mp 1018,G0 calls]) (L0:=[(1018,MP 68 (fun n:Int=>Value.int .i64 n) G0 s148.2)]) (Lr:=[(1018,MP 68 (fun n:Int=>Value.int .i64 n) G0 r153.2.2)]) O (G79 F s s148.1 s148.2 calls r153 hr153) Q20 ⟨.inl O,O,.inl O,O,.inl O,O,.inl O,O,G⟩ ⟨O,G⟩ O O O) O (Ru (.tup [.agg [LS 1 (E0) r153.1.States,LS 1 (E1) r153.1.Water],G0 r153.2.1]) O (JLh (.agg [LS 1 (E0) r153.1.States,LS 1 (E1) r153.1.Water]) (H6 O O O) O (JLh (G0 r153.2.1) (H6 O O O) O (JLh (.ptr 1015 0) (Hn 1015 2 H51 O O) O (Hs (u:=.junk) (Ha (u:=.agg [LS 1 (E0) r153.1.States,LS 1 (E1) r153.1.Water]) (ds:=[LS 1 (E0) r153.1.States,LS 1 (E1) r153.1.Water]) G67 O O O O O O O O) (Ru (G0 r153.2.1) O (G7 (hK152 ?_))))))))
   refine Gp [(2,G0 calls),(4,Ec s),(9,.ptr 1011 0),(10,E2 s148.1),(11,.mp 1018),(15,.dptr [LS 1 (E0) r153.1.States,LS 1 (E1) r153.1.Water]),(16,G0 r153.2.1),(85,G0 v147),(86,Ei i148)] [(1018,MP 68 (fun n:Int=>Value.int .i64 n) G0 r153.2.2),(1011,.box 41 [LS 1 (E0) ([]:List (List Stowed)),LS 1 (E1) ([]:List (List Int))])] 1015 rfl rfl rfl ⟨⟨_,rfl,.map⟩,⟨_,rfl,.boxEq rfl rfl⟩,G⟩ rfl (by repeat' (first | exact .ptr | constructor)) (Js fun hK154=>?_)
   refine Jr fun hK155=>(Ru (G0 r153.2.1) O (JLh (BL (decide (r153.2.1=0))) (Qh O O O) O (G7 (hK155 (JCc O h (fun h hb=>?_) (fun h hb=>?_))))))
   ·
    refine Js fun hK156=>Yj (l':=[(9,.ptr 1011 0),(10,E2 s148.1),(15,.dptr [LS 1 (E0) r153.1.States,LS 1 (E1) r153.1.Water])]) (L':=[(1018,MP 68 (fun n:Int=>Value.int .i64 n) G0 r153.2.2),(1011,.box 41 [LS 1 (E0) ([]:List (List Stowed)),LS 1 (E1) ([]:List (List Int))])]) ⟨⟨.same O,.same O,.same O,G⟩,⟨⟨_,O,.map⟩,⟨_,O,.boxL O ⟨.same O,.same O,G⟩⟩,G⟩,O⟩ ?_
    refine Q7 [3] [0,0,0,0] [0,0,0,0] [[(1018,MP 68 (fun n:Int=>Value.int .i64 n) G0 r153.2.2),(1011,.box 41 [LS 1 (E0) ([]:List (List Stowed)),LS 1 (E1) ([]:List (List Int))])],((1011,.box 41 [LS 1 (E0) r153.1.States,LS 1 (E1) r153.1.Water])::[(1018,MP 68 (fun n:Int=>Value.int .i64 n) G0 r153.2.2),(1011,.box 41 [LS 1 (E0) ([]:List (List Stowed)),LS 1 (E1) ([]:List (List Int))])])] Qb (by kernel_rfl) rfl rfl ?_
    refine Gm (u:=E2 s148.1) O O ⟨Gs (G6 O O) O,G⟩ (Gm (u:=.agg [LS 1 (E0) r153.1.States,LS 1 (E1) r153.1.Water]) O O ⟨Gs (Gi Ys O O O) O,G⟩ (Gm (u:=E2 s148.1) O O ⟨Gs (G8 O O) O,G⟩ (Jc9 (u:=.junk) O O O O (Gs (Ha (u:=.agg [LS 1 (E0) r153.1.States,LS 1 (E1) r153.1.Water]) (ds:=[LS 1 (E0) r153.1.States,LS 1 (E1) r153.1.Water]) G67 O O O O O O O O) O) (Yq (hK156 (Gr (⟨[E2 s148.1,.agg [LS 1 (E0) r153.1.States,LS 1 (E1) r153.1.Water]],[],G,O,⟨⟨_,O,.conv (.same O)⟩,⟨_,⟨_,_,_,_,O,O,O,.inl ⟨Ys,O⟩⟩,.conv (.same O)⟩,G⟩,O,congrArg (fun r:(List Gd)×G2f=>(.tup [E2 r.1,.agg [LS 1 (E0) r.2.States,LS 1 (E1) r.2.Water]]:AV)) (Option.some.inj h)⟩)))))))
   ·
    refine Gn (hK154 (Jr fun hK157=>(JLh (OW 1016 9 Gd.av ([]:List Gd)) (G61 1016 55 9 O O O) O (G7 (hK157 (Js fun hK158=>Jr fun hK159=>(Ru (E2 s148.1) O (JLl Jw O O O fun hm101=>(Ru (G0 0) O (G7 (hK159 (Gq ?_))))))))))))
    obtain⟨b174,kx174,hb174,hkx174,h⟩:=Hx h
    refine Hg (fun i174 (s174:(List Gd))=>each b174 kx174 (List.drop i174 s148.1) i174 s174=some r) (fun i174 s174=>[(2,G0 calls),(4,Ec s),(9,.ptr 1011 0),(11,.mp 1018),(16,G0 r153.2.1),(17,OW 1016 9 Gd.av s174),(85,G0 v147),(86,Ei i148),(100,E2 s148.1),(101,Ei s148.1.length),(102,Ei i174)]) (fun i174 s174=>[(1018,MP 68 (fun n:Int=>Value.int .i64 n) G0 r153.2.2),(1016,.spare 55 9 s174.length s174.length),(1011,.box 41 [LS 1 (E0) ([]:List (List Stowed)),LS 1 (E1) ([]:List (List Int))])]) (fun i174=>s148.1.length - i174) 0 [] h ⟨(by repeat' constructor),⟨⟨_,rfl,.map⟩,⟨_,rfl,.same⟩,⟨_,rfl,.boxL rfl ⟨.same rfl,.same rfl,G⟩⟩,G⟩,rfl⟩ ?_
    clear h
    intro i174 s174 hi174 K174 e174
    refine Jr fun hK175=>(JLh (BL (decide ((i174:Int) < (s148.1.length:Int)))) (Hz O O O) O (G7 (hK175 (Js fun hK176=>Gk O (fun hb=>?_) (fun hb=>?_)))))
    ·
     have hk174:=Jb hb
     obtain⟨y174,nx174,hy174,hn174,h⟩:=Ho hi174 hk174
     replace h:=Rw hb174 h
     refine Gn (hK176 ?_)
     obtain⟨kj177,hkj177,h⟩:=Rg h
     refine Qg (fun j177:(List Gd)=>kj177 j177=some r) (fun j177=>[(2,G0 calls),(4,Ec s),(9,.ptr 1011 0),(11,.mp 1018),(16,G0 r153.2.1),(17,OW 1016 9 Gd.av j177),(85,G0 v147),(86,Ei i148),(100,E2 s148.1),(101,Ei s148.1.length),(102,Ei i174)]) (fun j177=>[(1018,MP 68 (fun n:Int=>Value.int .i64 n) G0 r153.2.2),(1016,.spare 55 9 j177.length j177.length),(1011,.box 41 [LS 1 (E0) ([]:List (List Stowed)),LS 1 (E1) ([]:List (List Int))])]) (fun Kj177 ej177=>?_) ?_
     ·
      refine Gq (Jr fun hK178=>(JLh (Ee y174) (H4 (f:=Gd.av) (xs:=s148.1) (y:=y174) O O O Jw hy174 O) O (JLh (.agg (Gd.cs y174)) (Gi Zc O O O) O (JLh (.ptr 1017 0) (Hn 1017 9 Rn O O) O (Hs (u:=.junk) (Ha (u:=.agg (Gd.cs y174)) (ds:=(Gd.cs y174)) Yv O O O O O O O O) (G7 (hK178 ?_)))))))
      refine Gp [(2,G0 calls),(4,Ec s),(9,.ptr 1011 0),(11,.mp 1018),(16,G0 r153.2.1),(17,OW 1016 9 Gd.av s174),(19,Ee y174),(85,G0 v147),(86,Ei i148),(100,E2 s148.1),(101,Ei s148.1.length),(102,Ei i174)] [(1018,MP 68 (fun n:Int=>Value.int .i64 n) G0 r153.2.2),(1016,.spare 55 9 s174.length s174.length),(1011,.box 41 [LS 1 (E0) ([]:List (List Stowed)),LS 1 (E1) ([]:List (List Int))])] 1017 rfl rfl rfl ⟨⟨_,rfl,.map⟩,⟨_,rfl,.same⟩,⟨_,rfl,.boxEq rfl rfl⟩,G⟩ rfl (by repeat' (first | exact .ptr | constructor)) ?_
      refine Jr fun hK179=>(JLh (Ee y174) (Ga Jq O O O) O (JLh (G0 y174.ID) (Gf Gc O O O) O (Ru (G0 r153.2.1) O (JLh (BL (decide (y174.ID≠r153.2.1))) (G50 O O O) O (G7 (hK179 (JCc O h (fun h hb=>?_) (fun h hb=>?_))))))))
      ·
       refine G3 (Ru (OW 1016 9 Gd.av s174) O (JLh (.agg (Gd.cs y174)) (Gi Zc O O O) O (JLh (E2 [y174]) (H9 (xs:=[.agg (Gd.cs y174)]) O ⟨O,O,G⟩ Jw Rn O O O O) O ?_)))
       obtain⟨ha180,h⟩:=Jj h
       refine JLh (OW 1016 9 Gd.av (s174++[y174])) (Rc (f:=Gd.av) (xs:=s174) (ys:=[y174]) O O O O Jw J56 ha180 (fun _=>O) (.inl O) O) O (Ru (OW 1016 9 Gd.av (s174++[y174])) O (G7 (ej177 _ _ (s174++[y174]) h ⟨(by repeat' constructor),⟨⟨_,rfl,.map⟩,⟨_,rfl,.same⟩,⟨_,rfl,.boxL rfl ⟨.same rfl,.same rfl,G⟩⟩,G⟩,rfl⟩)))
      ·
       refine Gn (ej177 _ _ s174 h ⟨(by repeat' constructor),⟨⟨_,rfl,.map⟩,⟨_,rfl,.same⟩,⟨_,rfl,.boxL rfl ⟨.same rfl,.same rfl,G⟩⟩,G⟩,rfl⟩)
     ·intro j177 h
      replace h:=app1 hkj177 h
      refine G3 (JLh (G0 ((i174+1:Nat):Int)) (Hu (He hk174 hm101) O O O) O (Ru (G0 ((i174+1:Nat):Int)) O (G7 (e174 _ _ (i174+1) j177 (app1 hn174 h) (by omega) ⟨(by repeat' constructor),⟨⟨_,rfl,.map⟩,⟨_,rfl,.same⟩,⟨_,rfl,.boxL rfl ⟨.same rfl,.same rfl,G⟩⟩,G⟩,rfl⟩))))
    ·
     have h:=app1 hkx174 (Hp hi174 (H7 hb))
     refine Hr (hK158 (G3 (Ru (OW 1016 9 Gd.av s174) O (Ru (OW 1016 9 Gd.av s174) O (G7 (hK151 (G3 (JLh (G0 ((i148+1:Nat):Int)) (Hu (He hk148 (G6c hx148)) O O O) O (Ru (G0 ((i148+1:Nat):Int)) O (G7 (e148 _ _ (i148+1) (s174,r153.2.2) (app1 hn148 h) (by omega) ⟨⟨.same rfl,.same rfl,.same rfl,.list rfl,.same rfl,.same rfl,.same rfl,G⟩,⟨⟨_,rfl,.map⟩,⟨_,rfl,.boxL rfl ⟨.same rfl,.same rfl,G⟩⟩,G⟩,rfl⟩)))))))))))
  ·
   have h:=app1 hkx148 (Ga4 hi148 (Zq hb))
   refine Hr (hK145 (Js fun hK181=>Yj (l':=[(2,G0 calls),(9,.ptr 1011 0)]) (L':=[(1018,MP 68 (fun n:Int=>Value.int .i64 n) G0 s148.2),(1011,.box 41 [LS 1 (E0) ([]:List (List Stowed)),LS 1 (E1) ([]:List (List Int))])]) ⟨⟨.same O,.same O,G⟩,⟨⟨_,O,.map⟩,⟨_,O,.boxL O ⟨.same O,.same O,G⟩⟩,G⟩,O⟩ ?_))
   obtain⟨m182,hm182,h⟩:=Ge h
   obtain⟨ha183,h⟩:=Jj h
   refine Q7 [4] [0,0,0,0,0] [0,0,0,0,0] [[(1018,MP 68 (fun n:Int=>Value.int .i64 n) G0 s148.2),(1011,.box 41 [LS 1 (E0) ([]:List (List Stowed)),LS 1 (E1) ([]:List (List Int))])],((1011,.box 41 [LS 1 (E0) (List.replicate m182 ([]:List Stowed)),LS 1 (E1) ([]:List (List Int))])::[(1018,MP 68 (fun n:Int=>Value.int .i64 n) G0 s148.2),(1011,.box 41 [LS 1 (E0) ([]:List (List Stowed)),LS 1 (E1) ([]:List (List Int))])])] Qb (by kernel_rfl) rfl rfl ?_
   refine Gm (u:=G0 calls) O O ⟨Gs (G6 O O) O,G⟩ (Gm (u:=LS 1 (E0) (List.replicate m182 ([]:List Stowed))) O O ⟨Gs (A_makeDM (f:=(E0)) (n:=m182) [] [.slice none 0 0] O O O J9 J57 Jea (natOf_out hm182) (natOf_out hm182) ha183 ⟨.inr ⟨_,O,O⟩,G⟩ O) O,G⟩ (Gm (u:=.agg [LS 1 (E0) (List.replicate m182 ([]:List Stowed)),LS 1 (E1) ([]:List (List Int))]) O O ⟨Gs (J8 (cs:=[LS 1 (E0) (List.replicate m182 ([]:List Stowed)),LS 1 (E1) ([]:List (List Int))]) [(0,1),(1,1)] [LS 1 (E0) ([]:List (List Stowed)),LS 1 (E1) ([]:List (List Int))] [.slice none 0 0,.slice none 0 0] H28 G8f ⟨.inr ⟨_,O,O⟩,.inr ⟨_,O,O⟩,G⟩ O O) O,G⟩ (Gm (u:=E2 ([]:List Gd)) O O ⟨Gs (Ht 9 O O) O,G⟩ (Jc9 (u:=.junk) O O O O (Gs (Ha (u:=.agg [LS 1 (E0) (List.replicate m182 ([]:List Stowed)),LS 1 (E1) ([]:List (List Int))]) (ds:=[LS 1 (E0) (List.replicate m182 ([]:List Stowed)),LS 1 (E1) ([]:List (List Int))]) G67 O O O O O O O O) O) (Yq ?_)))))
   refine hK181 (Gr (⟨[E2 ([]:List Gd),.agg [LS 1 (E0) (List.replicate m182 ([]:List Stowed)),LS 1 (E1) ([]:List (List Int))]],[],G,O,⟨⟨_,O,.conv (.same O)⟩,⟨_,⟨_,_,_,_,O,O,O,.inl ⟨Ys,O⟩⟩,.conv (.same O)⟩,G⟩,O,congrArg (fun r:(List Gd)×G2f=>(.tup [E2 r.1,.agg [LS 1 (E0) r.2.States,LS 1 (E1) r.2.Water]]:AV)) (Option.some.inj h)⟩))

def G5d (x:Stowed) (p1:Int):Option Bool:=
 some (decide (x.Gd=p1))
theorem J39 (x:Stowed) (p1:Int) (r:Bool) (h:G5d x p1=some r):Pure Ej 55 [.agg (Stowed.cs x),.dptr [G0 p1]] (·=BL r):=by
 unfold G5d at h
 refine H1 [.tmp 3] Tryz.func55 O O (Jr fun hK1=>(JLh (.ptr 1124 0) (Jm (cs:=[G0 x.Gd,G0 x.Slot.G4,G0 x.Slot.Tier,U8 x.Slot.Half]) 1124 O O O O O) O (Ru (BL false) O (G7 (hK1 (Gp [(1,.dptr [G0 p1]),(2,Ed x)] [] 1124 rfl rfl rfl G rfl (by exact⟨.conv (.same rfl),.ptr,G⟩) (Jr fun hK2=>(JLh (Ed x) (Ga Hv O O O) O (JLh (G0 x.Gd) (Gf Gc O O O) O (JLh (G0 p1) (Gf Gc O O O) O (JLh (BL (decide (x.Gd=p1))) (Qh O O O) O (Ru (BL (decide (x.Gd=p1))) O (G7 (hK2 (Gr (fin1 BL h))))))))))))))))

def Ju (s:List Stowed) (f:Stowed→Option Bool):Option Int:=
 each (fun y20 i20 (s20:Unit) nx20=>
  bnd (f y20) fun r26=>
  bif r26 then
  (some (i20:Int))
  else
  (nx20 ()))
 (fun(s20:Unit)=>
  some (-1)) s 0 ()
theorem Yg (s:List Stowed) (f:Stowed→Option Bool) (f_f:FuncId) (f_c:List AV) (f_B:Hf Ej f_f=true) (f_d:Ya (fun _=>false) f_c=true) (f_w:∀ a0 q,f a0=some q→Pure Ej f_f ([.agg (Stowed.cs a0)]++f_c) (·=BL q)) (r:Int) (h:Ju s f=some r):Pure Ej 54 [E0 s,.fn f_f f_c] (·=G0 r):=by
 unfold Ju at h
 refine H1 [.tmp 4] Tryz.func54 O O (Jr fun hK1=>(Ru (G0 0) O (G7 (hK1 (Js fun hK2=>Jr fun hK3=>(Ru (E0 s) O (JLl Gx O O O fun hm7=>(Ru (G0 0) O (G7 (hK3 (Gq ?_)))))))))))
 obtain⟨b20,kx20,hb20,hkx20,h⟩:=Hx h
 refine Hg (fun i20 (s20:Unit)=>each b20 kx20 (List.drop i20 s) i20 s20=some r) (fun i20 s20=>[(0,E0 s),(1,.fn f_f f_c),(7,Ei s.length),(8,Ei i20)]) (fun i20 s20=>[]) (fun i20=>s.length - i20) 0 () h ⟨⟨.same O,.same (Jc _ _ f_d),.same O,.same O,G⟩,G,O⟩ ?_
 clear h
 intro i20 s20 hi20 K20 e20
 refine Jr fun hK21=>(JLh (BL (decide ((i20:Int) < (s.length:Int)))) (Hz O O O) O (G7 (hK21 (Js fun hK22=>Gk O (fun hb=>?_) (fun hb=>?_)))))
 ·
  have hk20:=Jb hb
  obtain⟨y20,nx20,hy20,hn20,h⟩:=Ho hi20 hk20
  replace h:=Rw hb20 h
  refine Gn (hK22 (Js fun hK23=>Gq (Jr fun hK24=>(Ru (Ei i20) O (Ru (Ei i20) O (G7 (hK24 (Jr fun hK25=>(Ru (.fn f_f f_c) O (Ru (E0 s) O (Ru (Ei i20) O (JLh (Ed y20) (H4 (f:=Stowed.av) (xs:=s) (y:=y20) O O O Gx hy20 O) O (JLh (.agg (Stowed.cs y20)) (Gi Q0 O O O) O ?_)))))))))))))
  obtain⟨r26,hr26,h⟩:=Ge h
  refine JLh (BL r26) (G15 (args:=[.agg (Stowed.cs y20)]) (caps:=f_c) O O (f_w y20 _ hr26) f_B ⟨O,O,G⟩ f_d) O (G7 (hK25 (JCc O h (fun h hb=>?_) (fun h hb=>?_))))
  ·
   refine Jr fun hK27=>(Ru (Ei i20) O (Ru (Ei i20) O (G7 (hK27 (Gr (fin1 G0 h))))))
  ·
   refine Gn (hK23 (G3 (JLh (G0 ((i20+1:Nat):Int)) (Hu (He hk20 hm7) O O O) O (Ru (G0 ((i20+1:Nat):Int)) O (G7 (e20 _ _ (i20+1) () (app1 hn20 h) (by omega) ⟨⟨.same rfl,.same (Jc _ _ f_d),.same rfl,.same rfl,G⟩,G,rfl⟩))))))
 ·
  have h:=app1 hkx20 (Hp hi20 (H7 hb))
  refine Hr (hK2 (Jr fun hK28=>(Ru (G0 (-1)) O (G7 (hK28 (Gr (fin1 G0 h)))))))

def Zw (l:List Stowed) (id_:Int):Option (Slot×Bool):=
 bnd (Ju l (fun z0=>G5d z0 id_)) fun r3=>
 bif decide (r3 < 0) then
 (some ((Slot.mk 0 0 0),false))
 else
 (Rx l r3 fun y8=>
  some (y8.Slot,true))
theorem G08 (l:List Stowed) (id_:Int) (r:Slot×Bool) (h:Zw l id_=some r):Pure Ej 25 [E0 l,G0 id_] (·=.tup [.agg (Slot.cs r.1),BL r.2]):=by
 unfold Zw at h
 refine H1 [.cell 4 78,.tmp 5] Tryz.func25 O O (Jr fun hK1=>(JLh (.ptr 1077 0) (Jm (cs:=[G0 id_]) 1077 O O O O O) O (JLh (.ptr 1078 0) (G16 1078 [G0 0,G0 0,U8 0] [.int .i64 0,.int .i64 0,.int .u8 0] Gce ⟨.inl O,.inl O,.inl O,G⟩ O O) O (Ru (BL false) O (G7 (hK1 (Gp [(0,E0 l),(3,.dptr [G0 id_]),(4,.ptr 1078 0)] [(1078,.box 78 [G0 0,G0 0,U8 0])] 1077 rfl rfl rfl ⟨⟨_,rfl,.boxEq rfl rfl⟩,G⟩ rfl (by exact⟨.conv (.same rfl),.ptr,.conv (.same rfl),G⟩) (Jr fun hK2=>(Ru (E0 l) O (JLh (.fn 55 [.dptr [G0 id_]]) (Rk (cs:=[.dptr [G0 id_]]) O O) O ?_))))))))))
 obtain⟨r3,hr3,h⟩:=Ge h
 refine JLh (G0 r3) (Gt O (Yg l (fun z0=>G5d z0 id_) 55 [.dptr [G0 id_]] Q0b O (fun z0 q hq=>J39 z0 id_ q hq) r3 hr3) Ha7 ⟨O,O,O,O,G⟩) O (Ru (G0 r3) O (G7 (hK2 (Js fun hK4=>Jr fun hK5=>(Ru (G0 r3) O (JLh (BL (decide (r3 < 0))) (Hz O O O) O (G7 (hK5 (JCc O h (fun h hb=>?_) (fun h hb=>?_))))))))))
 ·
  refine Jr fun hK6=>(JLh (.agg [G0 0,G0 0,U8 0]) (J8 (cs:=[G0 0,G0 0,U8 0]) [(0,1),(1,1),(2,1)] [G0 0,G0 0,U8 0] [.int .i64 0,.int .i64 0,.int .u8 0] Gc2 Gce ⟨.inl O,.inl O,.inl O,G⟩ O O) O (Hs (u:=.junk) (Ha (u:=.agg [G0 0,G0 0,U8 0]) (ds:=[G0 0,G0 0,U8 0]) Ye O O O O O O O O) (Ru (BL false) O (G7 (hK6 (Gr (⟨[.agg [G0 0,G0 0,U8 0],BL false],[],G,O,⟨⟨_,⟨_,_,_,_,O,O,O,.inl ⟨Jp,O⟩⟩,.conv (.same O)⟩,⟨_,O,.conv (.same O)⟩,G⟩,O,congrArg (fun r:Slot×Bool=>(.tup [.agg (Slot.cs r.1),BL r.2]:AV)) (Option.some.inj h)⟩)))))))
 ·
  refine Gn (hK4 (Jr fun hK7=>(Ru (E0 l) O (Ru (G0 r3) O ?_))))
  obtain⟨m9,y8,hm9,hy8,h⟩:=Yd h
  refine JLh (Ed y8) (H4 (f:=Stowed.av) (xs:=l) (y:=y8) O O O Gx hy8 hm9) O (JLh (.dptr ((Stowed.cs y8).drop 1)) (Ga J1 O O O) O (JLh (.agg ((Stowed.cs y8).drop 1)) (Gi Jp O O O) O (Hs (u:=.junk) (Ha (u:=.agg ((Stowed.cs y8).drop 1)) (ds:=[G0 y8.Slot.G4,G0 y8.Slot.Tier,U8 y8.Slot.Half]) Ye O O O O O O O O) (Ru (BL true) O (G7 (hK7 (Gr (⟨[.agg ((Stowed.cs y8).drop 1),BL true],[],G,O,⟨⟨_,⟨_,_,_,_,O,O,O,.inl ⟨Jp,O⟩⟩,.conv (.same O)⟩,⟨_,O,.conv (.same O)⟩,G⟩,O,congrArg (fun r:Slot×Bool=>(.tup [.agg (Slot.cs r.1),BL r.2]:AV)) (Option.some.inj h)⟩))))))))

def G25 (r_:Int) (p1:G4):Option Bool:=
 some (decide (r_=p1.Row))
theorem He5 (r_:Int) (p1:G4) (r:Bool) (h:G25 r_ p1=some r):Pure Ej 104 [G0 r_,Ef p1] (·=BL r):=by
 unfold G25 at h
 refine H1 [.tmp 3] Tryz.func104 O O (Jr fun hK1=>(Ru (BL false) O (G7 (hK1 (Jr fun hK2=>(Ru (G0 r_) O (JLh (.dptr ((G4.cs p1).drop 1)) (Ga Zy O O O) O (JLh (G0 p1.Row) (Gf Gc O O O) O (JLh (BL (decide (r_=p1.Row))) (Qh O O O) O (Ru (BL (decide (r_=p1.Row))) O (G7 (hK2 (Gr (fin1 BL h))))))))))))))

def Zv (l:List Int) (wanted:Int→Option Bool):Option (List Int):=
 each (fun y21 i21 (s21:(List Int)) nx21=>
  jp (fun kj24=>
   bnd (wanted y21) fun r27=>
   bif r27 then
   (need (decide ((s21.length+[(i21:Int)].length)*8≤140737488355328∧s21.length+[(i21:Int)].length≤maxLen)) <|
    kj24 (s21++[(i21:Int)]))
   else
   (kj24 s21)) fun(j24:(List Int))=>
  nx21 j24)
 (fun(s21:(List Int))=>
  some s21) l 0 []
theorem H92 (l:List Int) (wanted:Int→Option Bool) (wanted_f:FuncId) (wanted_c:List AV) (wanted_B:Hf Ej wanted_f=true) (wanted_d:Ya (fun _=>false) wanted_c=true) (wanted_w:∀ a0 q,wanted a0=some q→Pure Ej wanted_f ([G0 a0]++wanted_c) (·=BL q)) (r:(List Int)) (h:Zv l wanted=some r):Pure Ej 103 [E1 l,.fn wanted_f wanted_c] (·=E1 r):=by
 unfold Zv at h
 refine H1 [.tmp 4] Tryz.func103 O O (Jr fun hK1=>(JLh (E1 ([]:List Int)) (Ht 1 O O) O (G7 (hK1 (Jr fun hK2=>(JLh (OW 1159 1 G0 ([]:List Int)) (G61 1159 3 1 O O O) O (G7 (hK2 (Js fun hK3=>Jr fun hK4=>(Ru (E1 l) O (JLl Gv O O O fun hm9=>(Ru (G0 0) O (G7 (hK4 (Gq ?_)))))))))))))))
 obtain⟨b21,kx21,hb21,hkx21,h⟩:=Hx h
 refine Hg (fun i21 (s21:(List Int))=>each b21 kx21 (List.drop i21 l) i21 s21=some r) (fun i21 s21=>[(1,.fn wanted_f wanted_c),(5,OW 1159 1 G0 s21),(8,E1 l),(9,Ei l.length),(10,Ei i21)]) (fun i21 s21=>[(1159,.spare 3 1 s21.length s21.length)]) (fun i21=>l.length - i21) 0 [] h ⟨⟨.same (Jc _ _ wanted_d),.same O,.same O,.same O,.same O,G⟩,⟨⟨_,O,.same⟩,G⟩,O⟩ ?_
 clear h
 intro i21 s21 hi21 K21 e21
 refine Jr fun hK22=>(JLh (BL (decide ((i21:Int) < (l.length:Int)))) (Hz O O O) O (G7 (hK22 (Js fun hK23=>Gk O (fun hb=>?_) (fun hb=>?_)))))
 ·
  have hk21:=Jb hb
  obtain⟨y21,nx21,hy21,hn21,h⟩:=Ho hi21 hk21
  replace h:=Rw hb21 h
  refine Gn (hK23 ?_)
  obtain⟨kj24,hkj24,h⟩:=Rg h
  refine Qg (fun j24:(List Int)=>kj24 j24=some r) (fun j24=>[(1,.fn wanted_f wanted_c),(5,OW 1159 1 G0 j24),(8,E1 l),(9,Ei l.length),(10,Ei i21)]) (fun j24=>[(1159,.spare 3 1 j24.length j24.length)]) (fun Kj24 ej24=>?_) ?_
  ·
   refine Gq (Jr fun hK25=>(Ru (Ei i21) O (JLh (.dptr [G0 y21]) (H4 (f:=G0) (xs:=l) (y:=y21) O O O Gv hy21 O) O (JLh (G0 y21) (Gf Gc O O O) O (Ru (Ei i21) O (Ru (G0 y21) O (G7 (hK25 (Jr fun hK26=>(Ru (.fn wanted_f wanted_c) O (Ru (G0 y21) O ?_)))))))))))
   obtain⟨r27,hr27,h⟩:=Ge h
   refine JLh (BL r27) (G15 (args:=[G0 y21]) (caps:=wanted_c) O O (wanted_w y21 _ hr27) wanted_B ⟨O,O,G⟩ wanted_d) O (G7 (hK26 (JCc O h (fun h hb=>?_) (fun h hb=>?_))))
   ·
    refine G3 (Ru (OW 1159 1 G0 s21) O (Ru (Ei i21) O (JLh (E1 [(i21:Int)]) (H9 (xs:=[Ei i21]) O ⟨O,O,G⟩ Gv Y0 O O O O) O ?_)))
    obtain⟨ha28,h⟩:=Jj h
    refine JLh (OW 1159 1 G0 (s21++[(i21:Int)])) (Rc (f:=G0) (xs:=s21) (ys:=[(i21:Int)]) O O O O Gv G43 ha28 (fun _=>O) (.inl O) O) O (Ru (OW 1159 1 G0 (s21++[(i21:Int)])) O (G7 (ej24 _ _ (s21++[(i21:Int)]) h ⟨⟨.same (Jc _ _ wanted_d),.same O,.same O,.same O,.same O,G⟩,⟨⟨_,O,.same⟩,G⟩,O⟩)))
   ·
    refine Gn (ej24 _ _ s21 h ⟨⟨.same (Jc _ _ wanted_d),.same O,.same O,.same O,.same O,G⟩,⟨⟨_,O,.same⟩,G⟩,O⟩)
  ·intro j24 h
   replace h:=app1 hkj24 h
   refine G3 (JLh (G0 ((i21+1:Nat):Int)) (Hu (He hk21 hm9) O O O) O (Ru (G0 ((i21+1:Nat):Int)) O (G7 (e21 _ _ (i21+1) j24 (app1 hn21 h) (by omega) ⟨⟨.same (Jc _ _ wanted_d),.same rfl,.same rfl,.same rfl,.same rfl,G⟩,⟨⟨_,rfl,.same⟩,G⟩,rfl⟩))))
 ·
  have h:=app1 hkx21 (Hp hi21 (H7 hb))
  refine Hr (hK3 (Jr fun hK29=>(Ru (OW 1159 1 G0 s21) O (Ru (OW 1159 1 G0 s21) O (G7 (hK29 (Gr (fin1l (fun r:(List Int)=>(E1 r:AV)) h))))))))

def G2c (x:G9) (c:G4):Option Bool:=
 bnd (bif decide (x.Bay=c.Bay) then Zv x.Rows (fun z0=>G25 z0 c) else some default) fun r3=>
 some ((decide (x.Bay=c.Bay))&&(decide (0 < (r3.length:Int))))
theorem H4c (x:G9) (c:G4) (r:Bool) (h:G2c x c=some r):Pure Ej 82 [.agg [G0 x.Bay,E1 x.Rows],.agg (G4.cs c)] (·=BL r):=by
 unfold G2c at h
 refine H1 [.tmp 4] Tryz.func82 O O (Jr fun hK1=>(JLh (.ptr 1147 0) (Jm (cs:=[G0 x.Bay,E1 x.Rows]) 1147 O O O O O) O (JLh (.ptr 1148 0) (Jm (cs:=(G4.cs c)) 1148 O O O O O) O (Ru (BL false) O (G7 (hK1 (Gp [(2,.dptr [G0 x.Bay,E1 x.Rows]),(3,.ptr 1148 0)] [(1148,.box 63 (G4.cs c))] 1147 rfl rfl rfl ⟨⟨_,rfl,.boxEq rfl rfl⟩,G⟩ rfl (by exact⟨.ptr,.conv (.same rfl),G⟩) ?_)))))))
 refine Gp [(2,.dptr [G0 x.Bay,E1 x.Rows]),(3,Ef c)] [] 1148 rfl rfl rfl G rfl (by exact⟨.conv (.same rfl),.ptr,G⟩) ?_
 refine Jr fun hK2=>(JLh (.dptr [G0 x.Bay,E1 x.Rows]) (Ga G54 O O O) O (JLh (G0 x.Bay) (Gf Gc O O O) O (JLh (Ef c) (Ga Zz O O O) O (JLh (G0 c.Bay) (Gf Gc O O O) O (JLh (BL (decide (x.Bay=c.Bay))) (Qh O O O) O (Ru (BL (decide (x.Bay=c.Bay))) O (JLo (.dptr [E1 x.Rows]) [] O .sct G (fun hc=>Ga G53 O O O) O (JLo (E1 x.Rows) [11] O .sct ⟨Ua,G⟩ (fun hc=>Gf Q1 O O O) O (JLo (.fn 104 [.dptr (G4.cs c)]) [] O .sct G (fun hc=>Rk (cs:=[.dptr (G4.cs c)]) O O) O ?_)))))))))
 obtain⟨r3,hr3,h⟩:=Ge h
 refine JLo (E1 r3) [12,13] O .sct ⟨Ua,Ua,G⟩ (fun hc=>Gt (args:=[E1 x.Rows,.fn 104 [.dptr (G4.cs c)]]) O (H92 x.Rows (fun z0=>G25 z0 c) 104 [.dptr (G4.cs c)] Jdc O (fun z0 q hq=>He5 z0 c q hq) r3 (H2 hc hr3)) Jdd ⟨O,O,O,O,G⟩) O (JLo (Ei r3.length) [14] O .sct ⟨Ua,G⟩ (fun hc=>Z4 (f:=G0) (xs:=r3) Gv O O) O (JLo (BL (decide (0 < (r3.length:Int)))) [15] O .sct ⟨Ua,G⟩ (fun hc=>G76 O O O) O (JLh (BL ((decide (x.Bay=c.Bay))&&(decide (0 < (r3.length:Int))))) (Qa O O O O) O (Ru (BL ((decide (x.Bay=c.Bay))&&(decide (0 < (r3.length:Int))))) O (G7 (hK2 ?_))))))
 refine Gr (fin1 BL h)

def Zd (x:G9) (p1:Gw) (p2:Int):Option Bool:=
 Rx p1.Columns p2 fun y3=>
 bnd (G2c x y3) fun r5=>
 some r5
theorem Hb8 (x:G9) (p1:Gw) (p2:Int) (r:Bool) (h:Zd x p1 p2=some r):Pure Ej 81 [.agg [G0 x.Bay,E1 x.Rows],Ec p1,.dptr [G0 p2]] (·=BL r):=by
 unfold Zd at h
 refine H1 [.tmp 4] Tryz.func81 O O (Jr fun hK1=>(JLh (.ptr 1146 0) (Jm (cs:=[G0 x.Bay,E1 x.Rows]) 1146 O O O O O) O (Ru (BL false) O (G7 (hK1 (Gp [(1,Ec p1),(2,.dptr [G0 p2]),(3,.dptr [G0 x.Bay,E1 x.Rows])] [] 1146 rfl rfl rfl G rfl (by exact⟨.conv (.same rfl),.conv (.same rfl),.ptr,G⟩) (Js fun hK2=>?_)))))))
 obtain⟨m4,y3,hm4,hy3,h⟩:=Yd h
 obtain⟨r5,hr5,h⟩:=Ge h
 refine JC_d0 Qb (by kernel_rfl) (Dq (.agg [G0 x.Bay,E1 x.Rows]) (Gi H12 O O O) O (Dq (Ec p1) (Ga J2 O O O) O (Dq (E3 p1.Columns) (Gf Ja O O O) O (Dq (G0 p2) (Gf Gc O O O) O (Dq (Ef y3) (H4 (f:=G4.av) (xs:=p1.Columns) (y:=y3) O O O J5 hy3 hm4) O (Dq (.agg (G4.cs y3)) (Gi G44 O O O) O (Dq (BL r5) (Gt (args:=[.agg [G0 x.Bay,E1 x.Rows],.agg (G4.cs y3)]) O (H4c x y3 r5 hr5) J59 ⟨O,O,O,O,G⟩) O (Dq (BL r5) (G8 O O) O (Dnil (hK2 (Gr (fin1 BL h))))))))))))

def Y9 (l:List G9) (wanted:G9→Option Bool):Option (List Int):=
 each (fun y21 i21 (s21:(List Int)) nx21=>
  jp (fun kj24=>
   bnd (wanted y21) fun r27=>
   bif r27 then
   (need (decide ((s21.length+[(i21:Int)].length)*8≤140737488355328∧s21.length+[(i21:Int)].length≤maxLen)) <|
    kj24 (s21++[(i21:Int)]))
   else
   (kj24 s21)) fun(j24:(List Int))=>
  nx21 j24)
 (fun(s21:(List Int))=>
  some s21) l 0 []
theorem H11 (l:List G9) (wanted:G9→Option Bool) (wanted_f:FuncId) (wanted_c:List AV) (wanted_B:Hf Ej wanted_f=true) (wanted_d:Ya (fun _=>false) wanted_c=true) (wanted_w:∀ a0 q,wanted a0=some q→Pure Ej wanted_f ([.agg [G0 a0.Bay,E1 a0.Rows]]++wanted_c) (·=BL q)) (r:(List Int)) (h:Y9 l wanted=some r):Pure Ej 80 [E4 l,.fn wanted_f wanted_c] (·=E1 r):=by
 unfold Y9 at h
 refine H1 [.tmp 4] Tryz.func80 O O (Jr fun hK1=>(JLh (E1 ([]:List Int)) (Ht 1 O O) O (G7 (hK1 (Jr fun hK2=>(JLh (OW 1144 1 G0 ([]:List Int)) (G61 1144 3 1 O O O) O (G7 (hK2 (Js fun hK3=>Jr fun hK4=>(Ru (E4 l) O (JLl Q8 O O O fun hm9=>(Ru (G0 0) O (G7 (hK4 (Gq ?_)))))))))))))))
 obtain⟨b21,kx21,hb21,hkx21,h⟩:=Hx h
 refine Hg (fun i21 (s21:(List Int))=>each b21 kx21 (List.drop i21 l) i21 s21=some r) (fun i21 s21=>[(1,.fn wanted_f wanted_c),(5,OW 1144 1 G0 s21),(8,E4 l),(9,Ei l.length),(10,Ei i21)]) (fun i21 s21=>[(1144,.spare 3 1 s21.length s21.length)]) (fun i21=>l.length - i21) 0 [] h ⟨⟨.same (Jc _ _ wanted_d),.same O,.same O,.same O,.same O,G⟩,⟨⟨_,O,.same⟩,G⟩,O⟩ ?_
 clear h
 intro i21 s21 hi21 K21 e21
 refine Jr fun hK22=>(JLh (BL (decide ((i21:Int) < (l.length:Int)))) (Hz O O O) O (G7 (hK22 (Js fun hK23=>Gk O (fun hb=>?_) (fun hb=>?_)))))
 ·
  have hk21:=Jb hb
  obtain⟨y21,nx21,hy21,hn21,h⟩:=Ho hi21 hk21
  replace h:=Rw hb21 h
  refine Gn (hK23 ?_)
  obtain⟨kj24,hkj24,h⟩:=Rg h
  refine Qg (fun j24:(List Int)=>kj24 j24=some r) (fun j24=>[(1,.fn wanted_f wanted_c),(5,OW 1144 1 G0 j24),(8,E4 l),(9,Ei l.length),(10,Ei i21)]) (fun j24=>[(1144,.spare 3 1 j24.length j24.length)]) (fun Kj24 ej24=>?_) ?_
  ·
   refine Gq (Jr fun hK25=>(Ru (Ei i21) O (JLh (.dptr [G0 y21.Bay,E1 y21.Rows]) (H4 (f:=G9.av) (xs:=l) (y:=y21) O O O Q8 hy21 O) O (JLh (.agg [G0 y21.Bay,E1 y21.Rows]) (Gi H12 O O O) O (JLh (.ptr 1145 0) (Hn 1145 2 Ga5 O O) O (Ru (Ei i21) O (Hs (u:=.junk) (Ha (u:=.agg [G0 y21.Bay,E1 y21.Rows]) (ds:=[G0 y21.Bay,E1 y21.Rows]) J49 O O O O O O O O) (G7 (hK25 ?_)))))))))
   refine Gp [(1,.fn wanted_f wanted_c),(5,OW 1144 1 G0 s21),(6,Ei i21),(7,.dptr [G0 y21.Bay,E1 y21.Rows]),(8,E4 l),(9,Ei l.length),(10,Ei i21)] [(1144,.spare 3 1 s21.length s21.length)] 1145 rfl rfl rfl ⟨⟨_,rfl,.same⟩,G⟩ rfl (by exact⟨.conv (.same (Jc _ _ wanted_d)),.conv (.same rfl),.conv (.same rfl),.ptr,.conv (.same rfl),.conv (.same rfl),.conv (.same rfl),G⟩) (Jr fun hK26=>(Ru (.fn wanted_f wanted_c) O (JLh (.agg [G0 y21.Bay,E1 y21.Rows]) (Gi H12 O O O) O ?_)))
   obtain⟨r27,hr27,h⟩:=Ge h
   refine JLh (BL r27) (G15 (args:=[.agg [G0 y21.Bay,E1 y21.Rows]]) (caps:=wanted_c) O O (wanted_w y21 _ hr27) wanted_B ⟨O,O,G⟩ wanted_d) O (G7 (hK26 (JCc O h (fun h hb=>?_) (fun h hb=>?_))))
   ·
    refine G3 (Ru (OW 1144 1 G0 s21) O (Ru (Ei i21) O (JLh (E1 [(i21:Int)]) (H9 (xs:=[Ei i21]) O ⟨O,O,G⟩ Gv Y0 O O O O) O ?_)))
    obtain⟨ha28,h⟩:=Jj h
    refine JLh (OW 1144 1 G0 (s21++[(i21:Int)])) (Rc (f:=G0) (xs:=s21) (ys:=[(i21:Int)]) O O O O Gv G43 ha28 (fun _=>O) (.inl O) O) O (Ru (OW 1144 1 G0 (s21++[(i21:Int)])) O (G7 (ej24 _ _ (s21++[(i21:Int)]) h ⟨⟨.same (Jc _ _ wanted_d),.same O,.same O,.same O,.same O,G⟩,⟨⟨_,O,.same⟩,G⟩,O⟩)))
   ·
    refine Gn (ej24 _ _ s21 h ⟨⟨.same (Jc _ _ wanted_d),.same O,.same O,.same O,.same O,G⟩,⟨⟨_,O,.same⟩,G⟩,O⟩)
  ·intro j24 h
   replace h:=app1 hkj24 h
   refine G3 (JLh (G0 ((i21+1:Nat):Int)) (Hu (He hk21 hm9) O O O) O (Ru (G0 ((i21+1:Nat):Int)) O (G7 (e21 _ _ (i21+1) j24 (app1 hn21 h) (by omega) ⟨⟨.same (Jc _ _ wanted_d),.same rfl,.same rfl,.same rfl,.same rfl,G⟩,⟨⟨_,rfl,.same⟩,G⟩,rfl⟩))))
 ·
  have h:=app1 hkx21 (Hp hi21 (H7 hb))
  refine Hr (hK3 (Jr fun hK29=>(Ru (OW 1144 1 G0 s21) O (Ru (OW 1144 1 G0 s21) O (G7 (hK29 (Gr (fin1l (fun r:(List Int)=>(E1 r:AV)) h))))))))

def Ri (s:Gw) (column:Int):Option Int:=
 bif ((decide (column < 0))||(decide ((s.Columns.length:Int)≤column))) then
 (some (-1))
 else
 (bnd (Y9 s.Covers (fun z0=>Zd z0 s column)) fun r6=>
  bif decide ((r6.length:Int)=0) then
  (some (-1))
  else
  (Rx r6 0 fun y11=>
   some y11))
theorem G4c (s:Gw) (column:Int) (r:Int) (h:Ri s column=some r):Pure Ej 51 [.agg (Gw.cs s),G0 column] (·=G0 r):=by
 unfold Ri at h
 refine H1 [.tmp 4] Tryz.func51 O O (Jr fun hK1=>(JLh (.ptr 1120 0) (Jm (cs:=(Gw.cs s)) 1120 O O O O O) O (JLh (.ptr 1121 0) (Jm (cs:=[G0 column]) 1121 O O O O O) O (Ru (G0 0) O (G7 (hK1 ?_))))))
 refine Gp [(2,Ec s),(3,.ptr 1121 0)] [(1121,.box 3 [G0 column])] 1120 rfl rfl rfl ⟨⟨_,rfl,.boxEq rfl rfl⟩,G⟩ rfl (by exact⟨.ptr,.conv (.same rfl),G⟩) (Gp [(2,Ec s),(3,.dptr [G0 column])] [] 1121 rfl rfl rfl G rfl (by exact⟨.conv (.same rfl),.ptr,G⟩) (Js fun hK2=>?_))
 refine Jr fun hK3=>(JLh (G0 column) (Gf Gc O O O) O (JLh (BL (decide (column < 0))) (Hz O O O) O (Ru (BL (decide (column < 0))) O (JLo (G0 column) [] O .scf G (fun hc=>Gf Gc O O O) O (JLo (Ec s) [] O .scf G (fun hc=>Ga J2 O O O) O (JLo (E3 s.Columns) [10] O .scf ⟨Ua,G⟩ (fun hc=>Gf Ja O O O) O (JLo (Ei s.Columns.length) [11] O .scf ⟨Ua,G⟩ (fun hc=>Z4 (f:=G4.av) (xs:=s.Columns) J5 O O) O (JLo (BL (decide ((s.Columns.length:Int)≤column))) [9,12] O .scf ⟨Ua,Ua,G⟩ (fun hc=>G8a O O O) O (JLh (BL ((decide (column < 0))||(decide ((s.Columns.length:Int)≤column)))) (G09 O O O O) O (G7 (hK3 ?_)))))))))))
 refine JCc O h (fun h hb=>?_) (fun h hb=>?_)
 ·
  refine Jr fun hK4=>(Ru (G0 (-1)) O (G7 (hK4 (Gr (fin1 G0 h)))))
 ·
  refine Gn (hK2 ?_)
  refine Jr fun hK5=>(JLh (.dptr [E4 s.Covers,G0 s.Light.Kilos,G0 s.Light.X,G0 s.Light.Y,G0 s.Light.Z,E5 s.Rows,E6 s.Frames,E7 s.Tanks,G0 s.G2.Tolerance,G0 s.G2.Trim,G0 s.G2.List_,G0 s.G2.Stability]) (Ga Q5 O O O) O (JLh (E4 s.Covers) (Gf Qo O O O) O (JLh (.fn 81 [.dptr (Gw.cs s),.dptr [G0 column]]) (Rk (cs:=[.dptr (Gw.cs s),.dptr [G0 column]]) O O) O ?_)))
  obtain⟨r6,hr6,h⟩:=Ge h
  refine JLh (E1 r6) (Gt O (H11 s.Covers (fun z0=>Zd z0 s column) 81 [.dptr (Gw.cs s),.dptr [G0 column]] Jfb O (fun z0 q hq=>Hb8 z0 s column q hq) r6 hr6) Jfc ⟨O,O,O,O,G⟩) O (Ru (E1 r6) O (G7 (hK5 (Js fun hK7=>Jr fun hK8=>(Ru (E1 r6) O (JLl Gv O O O fun hm20=>(JLh (BL (decide ((r6.length:Int)=0))) (Qh O O O) O (G7 (hK8 (JCc O h (fun h hb=>?_) (fun h hb=>?_)))))))))))
  ·
   refine Jr fun hK9=>(Ru (G0 (-1)) O (G7 (hK9 (Gr (fin1 G0 h)))))
  ·
   refine Gn (hK7 (Jr fun hK10=>(Ru (E1 r6) O ?_)))
   obtain⟨m12,y11,hm12,hy11,h⟩:=Yd h
   refine JLh (.dptr [G0 y11]) (H4 (f:=G0) (xs:=r6) (y:=y11) O O O Gv hy11 hm12) O (JLh (G0 y11) (Gf Gc O O O) O (Ru (G0 y11) O (G7 (hK10 (Gr (fin1 G0 h))))))

def G72 (a:Slot) (b:Slot):Option Bool:=
 bnd (bif ((decide (a.G4=b.G4))&&(decide (b.Tier < a.Tier))) then G2b a.Half b.Half else some default) fun r3=>
 some (((decide (a.G4=b.G4))&&(decide (b.Tier < a.Tier)))&&r3)
theorem H9c (a:Slot) (b:Slot) (r:Bool) (h:G72 a b=some r):Pure Ej 52 [.agg [G0 a.G4,G0 a.Tier,U8 a.Half],.agg [G0 b.G4,G0 b.Tier,U8 b.Half]] (·=BL r):=by
 unfold G72 at h
 refine H1 [.tmp 4] Tryz.func52 O O (Jr fun hK1=>(JLh (.ptr 1122 0) (Jm (cs:=[G0 a.G4,G0 a.Tier,U8 a.Half]) 1122 O O O O O) O (JLh (.ptr 1123 0) (Jm (cs:=[G0 b.G4,G0 b.Tier,U8 b.Half]) 1123 O O O O O) O (Ru (BL false) O (G7 (hK1 (Gp [(2,.dptr [G0 a.G4,G0 a.Tier,U8 a.Half]),(3,.ptr 1123 0)] [(1123,.box 78 [G0 b.G4,G0 b.Tier,U8 b.Half])] 1122 rfl rfl rfl ⟨⟨_,rfl,.boxEq rfl rfl⟩,G⟩ rfl (by exact⟨.ptr,.conv (.same rfl),G⟩) (Gp [(2,.dptr [G0 a.G4,G0 a.Tier,U8 a.Half]),(3,.dptr [G0 b.G4,G0 b.Tier,U8 b.Half])] [] 1123 rfl rfl rfl G rfl (by exact⟨.conv (.same rfl),.ptr,G⟩) ?_))))))))
 refine Jr fun hK2=>(JLh (.dptr [G0 a.G4,G0 a.Tier,U8 a.Half]) (Ga Jf O O O) O (JLh (G0 a.G4) (Gf Gc O O O) O (JLh (.dptr [G0 b.G4,G0 b.Tier,U8 b.Half]) (Ga Jf O O O) O (JLh (G0 b.G4) (Gf Gc O O O) O (JLh (BL (decide (a.G4=b.G4))) (Qh O O O) O (Ru (BL (decide (a.G4=b.G4))) O (JLo (.dptr [G0 a.Tier,U8 a.Half]) [] O .sct G (fun hc=>Ga Ry O O O) O (JLo (G0 a.Tier) [11] O .sct ⟨Ua,G⟩ (fun hc=>Gf Gc O O O) O (JLo (.dptr [G0 b.Tier,U8 b.Half]) [] O .sct G (fun hc=>Ga Ry O O O) O (JLo (G0 b.Tier) [13] O .sct ⟨Ua,G⟩ (fun hc=>Gf Gc O O O) O (JLo (BL (decide (b.Tier < a.Tier))) [12,14] O .sct ⟨Ua,Ua,G⟩ (fun hc=>G76 O O O) O (JLh (BL ((decide (a.G4=b.G4))&&(decide (b.Tier < a.Tier)))) (Qa O O O O) O (Ru (BL ((decide (a.G4=b.G4))&&(decide (b.Tier < a.Tier)))) O ?_)))))))))))))
 refine JLo (.dptr [U8 a.Half]) [] O .sct G (fun hc=>Ga Yh O O O) O (JLo (U8 a.Half) [18] O .sct ⟨Ua,G⟩ (fun hc=>Gf J6 O O O) O (JLo (.dptr [U8 b.Half]) [] O .sct G (fun hc=>Ga Yh O O O) O (JLo (U8 b.Half) [20] O .sct ⟨Ua,G⟩ (fun hc=>Gf J6 O O O) O ?_)))
 obtain⟨r3,hr3,h⟩:=Ge h
 refine JLo (BL r3) [19,21] O .sct ⟨Ua,Ua,G⟩ (fun hc=>Gt (args:=[U8 a.Half,U8 b.Half]) O (H4a a.Half b.Half r3 (H2 hc hr3)) J5b ⟨O,O,O,O,G⟩) O (JLh (BL (((decide (a.G4=b.G4))&&(decide (b.Tier < a.Tier)))&&r3)) (Qa O O O O) O (Ru (BL (((decide (a.G4=b.G4))&&(decide (b.Tier < a.Tier)))&&r3)) O (G7 (hK2 (Gr (fin1 BL h))))))

def Zi (m:H5 Int Unit) (k:Int):Option (Bool×(H5 Int Unit)):=
 bif (H5.has m k) then
 (some (false,m))
 else
 (some (true,(H5.put m k ())))
theorem Gb3 (m:H5 Int Unit) (k:Int) (r:Bool×(H5 Int Unit)) (h:Zi m k=some r):Qc Ej 50 [.mp 1073,G0 k] [(1073,MP 117 (fun n:Int=>Value.int .i64 n) (fun _:Unit=>.agg []) m)] (fun av L'=>av=BL r.1∧L'=[(1073,MP 117 (fun n:Int=>Value.int .i64 n) (fun _:Unit=>.agg []) r.2)]):=by
 unfold Zi at h
 refine Yy [1073] [.tmp 4] Tryz.func50 O O (H47 O) (Jr fun hK1=>(Ru (BL false) O (G7 (hK1 (Js fun hK2=>Jr fun hK3=>(Ru (.mp 1073) O (Ru (G0 k) O (JLh (.tup [.agg [],BL (H5.has m k)]) (Jaa (av:=(fun _:Unit=>.agg [])) (m:=m) (a:=k) () (.agg #[]) O O O O tk_3 J4d tf_zv_152 O) O (Ru (.tup [.agg [],BL (H5.has m k)]) O (JLh (.agg []) (H6 O O O) O (JLh (BL (H5.has m k)) (H6 O O O) O (JLh (.ptr 1119 0) (Hn 1119 0 Jc5 O O) O (Hs (u:=.junk) (A_store0 (u:=.agg []) Jd5 O O O O O O) (Ru (BL (H5.has m k)) O (G7 (hK3 ?_))))))))))))))))
 refine Gp [(0,.mp 1073),(1,G0 k),(6,BL (H5.has m k))] [(1073,MP 117 (fun n:Int=>Value.int .i64 n) (fun _:Unit=>.agg []) m)] 1119 rfl rfl rfl ⟨⟨_,rfl,.map⟩,G⟩ rfl (by exact⟨.conv (.same rfl),.conv (.same rfl),.conv (.same rfl),G⟩) (Jr fun hK5=>(Ru (BL (H5.has m k)) O (G7 (hK5 (JCc O h (fun h hb=>?_) (fun h hb=>?_))))))
 ·
  refine Jr fun hK6=>(Ru (BL false) O (G7 (hK6 (Gr ?_))))
  obtain rfl:=Option.some.inj h
  exact⟨[BL false],[(1073,MP 117 (fun n:Int=>Value.int .i64 n) (fun _:Unit=>.agg []) m)],⟨⟨_,O,.map⟩,G⟩,O,⟨⟨_,O,.conv (.same O)⟩,G⟩,O,O⟩
 ·
  refine Gn (hK2 (Jr fun hK7=>(Ru (.mp 1073) O (Ru (G0 k) O (JLh (.agg []) (J8 (cs:=[]) [] [] [] Jaf Jd1 G O O) O (Hs (u:=.junk) (H44 (m:=m) (a:=k) (v:=()) O O O O O O tk_3 J4d) (G7 (hK7 (Jr fun hK8=>(Ru (BL true) O (G7 (hK8 (Gr ?_)))))))))))))
  obtain rfl:=Option.some.inj h
  exact⟨[BL true],[(1073,MP 117 (fun n:Int=>Value.int .i64 n) (fun _:Unit=>.agg []) (H5.put m k ()))],⟨⟨_,O,.map⟩,G⟩,O,⟨⟨_,O,.conv (.same O)⟩,G⟩,O,O⟩
end
end Go.Proofs.YtkcdjcgifgdanaaGreat
