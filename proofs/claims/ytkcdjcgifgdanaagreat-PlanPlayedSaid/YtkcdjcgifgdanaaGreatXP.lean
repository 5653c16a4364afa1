/-
 Models of functions of the program,and that they return what the models say.
-/
import Derived.Test.YtkcdjcgifgdanaaGreatXPa
set_option linter.unnecessarySimpa false
set_option maxRecDepth 100000
set_option maxHeartbeats 1000000
set_option linter.unusedVariables false
set_option linter.unusedSimpArgs false
namespace Go.Proofs.YtkcdjcgifgdanaaGreat
open Go.RowKit
noncomputable section
open XAF
open XCF
open XVF
open XPF

def G6a (F:Nat) (s:Gw) (boxes:List Gd) (l:List Stowed) (open_:List Int) (x:Stowed):Option ((List Stowed)×Int):=
 bnd (Y6 s boxes l open_) fun r4=>
 bif (!r4) then
 (some ([],2))
 else
 (bnd (G3c boxes x.Gd) fun r7=>
  bif ((!r7.2)||((decide (r7.1.Size≠20))&&(decide (r7.1.Size≠40)))) then
  (some ([],6))
  else
  (bnd (Zu l x.Gd) fun r12=>
   bif decide (0≤r12) then
   (some ([],96))
   else
   (bnd (G4a s x.Slot r7.1.Size) fun r15=>
    bif (!r15) then
    (some ([],97))
    else
    (need (decide (4≤9223372036854775807)) <|
     upto (fun i60 (s60:Unit) nx60=>
      jp (fun kj63=>
       bif decide ((i60:Int)=0) then
       (bnd (Z0 (Hj.mk s boxes l open_ x)) fun r67=>
        bif r67 then
        (G0d (91+(i60:Int)) fun v69=>
         some ([],v69))
        else
        (kj63 ()))
       else
       (bif decide ((i60:Int)=1) then
        (bnd (Zg (Hj.mk s boxes l open_ x)) fun r71=>
         bif r71 then
         (G0d (91+(i60:Int)) fun v73=>
          some ([],v73))
         else
         (kj63 ()))
        else
        (bif decide ((i60:Int)=2) then
         (bnd (Zt (Hj.mk s boxes l open_ x)) fun r75=>
          bif r75 then
          (G0d (91+(i60:Int)) fun v77=>
           some ([],v77))
          else
          (kj63 ()))
         else
         (bif decide ((i60:Int)=3) then
          (bnd (G0e F (Hj.mk s boxes l open_ x)) fun r79=>
           bif r79 then
           (G0d (91+(i60:Int)) fun v81=>
            some ([],v81))
           else
           (kj63 ()))
          else
          (none))))) fun(j63:Unit)=>
      nx60 ())
     (fun(s60:Unit)=>
      bnd (Rb F (Hj.mk s boxes l open_ x)) fun r83=>
      some (r83,0)) (4:Int).toNat 0 ()))))
theorem M_stow_Put_w (F:Nat) (s:Gw) (boxes:List Gd) (l:List Stowed) (open_:List Int) (x:Stowed) (r:(List Stowed)×Int) (h:G6a F s boxes l open_ x=some r):Pure Ej 30 [.agg (Gw.cs s),E2 boxes,E0 l,E1 open_,.agg (Stowed.cs x)] (·=.tup [E0 r.1,G0 r.2]):=by
 unfold G6a at h
 refine H1 [.tmp 10,.tmp 11] Tryz.func30 O O (Jr fun hK1=>(JLh (.ptr 1085 0) (Jm (cs:=(Gw.cs s)) 1085 O O O O O) O (JLh (.ptr 1086 0) (Jm (cs:=[G0 x.Gd,G0 x.Slot.G4,G0 x.Slot.Tier,U8 x.Slot.Half]) 1086 O O O O O) O (JLh (E0 ([]:List Stowed)) (Ht 4 O O) O (Ru (G0 0) O (G7 (hK1 ?_)))))))
 refine Gp [(1,E2 boxes),(2,E0 l),(3,E1 open_),(5,Ec s),(9,.ptr 1086 0)] [(1086,.box 80 [G0 x.Gd,G0 x.Slot.G4,G0 x.Slot.Tier,U8 x.Slot.Half])] 1085 rfl rfl rfl ⟨⟨_,rfl,.boxEq rfl rfl⟩,G⟩ rfl (by repeat' (first | exact .ptr | constructor)) ?_
 refine Gp [(1,E2 boxes),(2,E0 l),(3,E1 open_),(5,Ec s),(9,Ed x)] [] 1086 rfl rfl rfl G rfl (by repeat' (first | exact .ptr | constructor)) (Js fun hK2=>?_)
 refine Jr fun hK3=>(JLh (.agg (Gw.cs s)) (Gi Hq O O O) O (Ru (E2 boxes) O (Ru (E0 l) O (Ru (E1 open_) O ?_))))
 obtain⟨r4,hr4,h⟩:=Ge h
 refine JLh (BL r4) (Gt O (G49 s boxes l open_ r4 hr4) H2a ⟨O,O,O,O,O,O,O,O,G⟩) O (JLh (BL (!r4)) (Rj (b:=r4) O O) O (G7 (hK3 (JCc O h (fun h hb=>?_) (fun h hb=>?_)))))
 ·
  refine Jr fun hK5=>(JLh (E0 ([]:List Stowed)) (Ht 4 O O) O (Ru (G0 2) O (G7 (hK5 (Gr (⟨[E0 ([]:List Stowed),G0 2],[],G,O,⟨⟨_,O,.conv (.same O)⟩,⟨_,O,.conv (.same O)⟩,G⟩,O,congrArg (fun r:(List Stowed)×Int=>(.tup [E0 r.1,G0 r.2]:AV)) (Option.some.inj h)⟩))))))
 ·
  refine Gn (hK2 (Jr fun hK6=>(Ru (E2 boxes) O (JLh (Ed x) (Ga Hv O O O) O (JLh (G0 x.Gd) (Gf Gc O O O) O ?_)))))
  obtain⟨r7,hr7,h⟩:=Ge h
  refine JLh (.tup [.agg (Gd.cs r7.1),BL r7.2]) (Gt O (H0d boxes x.Gd r7 hr7) Ha8 ⟨O,O,O,O,G⟩) O (Ru (.tup [.agg (Gd.cs r7.1),BL r7.2]) O (JLh (.agg (Gd.cs r7.1)) (H6 O O O) O (JLh (BL r7.2) (H6 O O O) O (JLh (.ptr 1087 0) (Hn 1087 9 Rn O O) O (Hs (u:=.junk) (Ha (u:=.agg (Gd.cs r7.1)) (ds:=(Gd.cs r7.1)) Yv O O O O O O O O) (Ru (BL r7.2) O (G7 (hK6 ?_))))))))
  refine Gp [(1,E2 boxes),(2,E0 l),(3,E1 open_),(5,Ec s),(9,Ed x),(12,Ee r7.1),(13,BL r7.2)] [] 1087 rfl rfl rfl G rfl (by repeat' (first | exact .ptr | constructor)) (Js fun hK8=>Gq ?_)
  refine Jr fun hK9=>(Ru (BL r7.2) O (JLh (BL (!r7.2)) (Rj (b:=r7.2) O O) O (Ru (BL (!r7.2)) O (JLo (.dptr ((Gd.cs r7.1).drop 2)) [] O .scf G (fun hc=>Ga Z7 O O O) O (JLo (U8 r7.1.Size) [34] O .scf ⟨Ua,G⟩ (fun hc=>Gf J6 O O O) O (JLo (BL (decide (r7.1.Size≠20))) [35] O .scf ⟨Ua,G⟩ (fun hc=>G50 O O O) O (JLo (BL (decide (r7.1.Size≠20))) [36] O .scf ⟨Ua,G⟩ (fun hc=>G6 O O) O (JLo (.dptr ((Gd.cs r7.1).drop 2)) [] O .optt G (fun hc=>Ga Z7 O O O) O (JLo (U8 r7.1.Size) [38] O .optt ⟨Ua,G⟩ (fun hc=>Gf J6 O O O) O (JLo (BL (decide (r7.1.Size≠40))) [39] O .optt ⟨Ua,G⟩ (fun hc=>G50 O O O) O (Gb (u:=BL ((decide (r7.1.Size≠20))&&(decide (r7.1.Size≠40)))) [(37,BL (decide (r7.1.Size≠20))),(40,_)] O O O .scf ⟨.all id,.part,G⟩ (fun hc=>Qa O O O O) ?_)))))))))))
  refine JLh (BL ((!r7.2)||((decide (r7.1.Size≠20))&&(decide (r7.1.Size≠40))))) (G09 O O O O) O (Ru (BL ((!r7.2)||((decide (r7.1.Size≠20))&&(decide (r7.1.Size≠40))))) O (G7 (hK9 (JCc O h (fun h hb=>?_) (fun h hb=>?_)))))
  ·
   refine Jr fun hK10=>(JLh (E0 ([]:List Stowed)) (Ht 4 O O) O (Ru (G0 6) O (G7 (hK10 (Gr (⟨[E0 ([]:List Stowed),G0 6],[],G,O,⟨⟨_,O,.conv (.same O)⟩,⟨_,O,.conv (.same O)⟩,G⟩,O,congrArg (fun r:(List Stowed)×Int=>(.tup [E0 r.1,G0 r.2]:AV)) (Option.some.inj h)⟩))))))
  ·
   refine Jr fun hK11=>(Ru (E0 l) O (JLh (Ed x) (Ga Hv O O O) O (JLh (G0 x.Gd) (Gf Gc O O O) O ?_)))
   obtain⟨r12,hr12,h⟩:=Ge h
   refine JLh (G0 r12) (Gt O (Ga0 l x.Gd r12 hr12) H29 ⟨O,O,O,O,G⟩) O (JLh (BL (decide (0≤r12))) (G8a O O O) O (Ru (BL (decide (0≤r12))) O (G7 (hK11 (JCc O h (fun h hb=>?_) (fun h hb=>?_))))))
   ·
    refine Jr fun hK13=>(JLh (E0 ([]:List Stowed)) (Ht 4 O O) O (Ru (G0 96) O (G7 (hK13 (Gr (⟨[E0 ([]:List Stowed),G0 96],[],G,O,⟨⟨_,O,.conv (.same O)⟩,⟨_,O,.conv (.same O)⟩,G⟩,O,congrArg (fun r:(List Stowed)×Int=>(.tup [E0 r.1,G0 r.2]:AV)) (Option.some.inj h)⟩))))))
   ·
    refine Jr fun hK14=>(JLh (.agg (Gw.cs s)) (Gi Hq O O O) O (JLh (.dptr ((Stowed.cs x).drop 1)) (Ga J1 O O O) O (JLh (.agg ((Stowed.cs x).drop 1)) (Gi Jp O O O) O (JLh (.dptr ((Gd.cs r7.1).drop 2)) (Ga Z7 O O O) O (JLh (U8 r7.1.Size) (Gf J6 O O O) O ?_)))))
    obtain⟨r15,hr15,h⟩:=Ge h
    refine JLh (BL r15) (Gt O (H73 s x.Slot r7.1.Size r15 hr15) J66 ⟨O,O,O,O,O,O,G⟩) O (JLh (BL (!r15)) (Rj (b:=r15) O O) O (Ru (BL (!r15)) O (G7 (hK14 (JCc O h (fun h hb=>?_) (fun h hb=>?_))))))
    ·
     refine Jr fun hK16=>(JLh (E0 ([]:List Stowed)) (Ht 4 O O) O (Ru (G0 97) O (G7 (hK16 (Gr (⟨[E0 ([]:List Stowed),G0 97],[],G,O,⟨⟨_,O,.conv (.same O)⟩,⟨_,O,.conv (.same O)⟩,G⟩,O,congrArg (fun r:(List Stowed)×Int=>(.tup [E0 r.1,G0 r.2]:AV)) (Option.some.inj h)⟩))))))
    ·
     refine Gn (hK8 ?_)
     refine Jr fun hK17=>(JLh (.agg (Gw.cs s)) (Gi Hq O O O) O (Ru (E2 boxes) O (Ru (E0 l) O (Ru (E1 open_) O (JLh (.agg (Stowed.cs x)) (Gi Q0 O O O) O (JLh (.agg [E3 s.Columns,E4 s.Covers,G0 s.Light.Kilos,G0 s.Light.X,G0 s.Light.Y,G0 s.Light.Z,E5 s.Rows,E6 s.Frames,E7 s.Tanks,G0 s.G2.Tolerance,G0 s.G2.Trim,G0 s.G2.List_,G0 s.G2.Stability,E2 boxes,E0 l,E1 open_,G0 x.Gd,G0 x.Slot.G4,G0 x.Slot.Tier,U8 x.Slot.Half]) (J8 (cs:=[E3 s.Columns,E4 s.Covers,G0 s.Light.Kilos,G0 s.Light.X,G0 s.Light.Y,G0 s.Light.Z,E5 s.Rows,E6 s.Frames,E7 s.Tanks,G0 s.G2.Tolerance,G0 s.G2.Trim,G0 s.G2.List_,G0 s.G2.Stability,E2 boxes,E0 l,E1 open_,G0 x.Gd,G0 x.Slot.G4,G0 x.Slot.Tier,U8 x.Slot.Half]) [(0,13),(13,1),(14,1),(15,1),(16,4)] [E3 ([]:List G4),E4 ([]:List G9),G0 0,G0 0,G0 0,G0 0,E5 ([]:List Row),E6 ([]:List Frame),E7 ([]:List Gj),G0 0,G0 0,G0 0,G0 0,E2 ([]:List Gd),E0 ([]:List Stowed),E1 ([]:List Int),G0 0,G0 0,G0 0,U8 0] [.slice none 0 0,.slice none 0 0,.int .i64 0,.int .i64 0,.int .i64 0,.int .i64 0,.slice none 0 0,.slice none 0 0,.slice none 0 0,.int .i64 0,.int .i64 0,.int .i64 0,.int .i64 0,.slice none 0 0,.slice none 0 0,.slice none 0 0,.int .i64 0,.int .i64 0,.int .i64 0,.int .u8 0] Jb0 Jd3 ⟨.inr ⟨_,O,O⟩,.inr ⟨_,O,O⟩,.inl O,.inl O,.inl O,.inl O,.inr ⟨_,O,O⟩,.inr ⟨_,O,O⟩,.inr ⟨_,O,O⟩,.inl O,.inl O,.inl O,.inl O,.inr ⟨_,O,O⟩,.inr ⟨_,O,O⟩,.inr ⟨_,O,O⟩,.inl O,.inl O,.inl O,.inl O,G⟩ O O) O (JLh (.ptr 1088 0) (Hn 1088 20 Jc6 O O) O (Hs (u:=.junk) (Ha (u:=.agg [E3 s.Columns,E4 s.Covers,G0 s.Light.Kilos,G0 s.Light.X,G0 s.Light.Y,G0 s.Light.Z,E5 s.Rows,E6 s.Frames,E7 s.Tanks,G0 s.G2.Tolerance,G0 s.G2.Trim,G0 s.G2.List_,G0 s.G2.Stability,E2 boxes,E0 l,E1 open_,G0 x.Gd,G0 x.Slot.G4,G0 x.Slot.Tier,U8 x.Slot.Half]) (ds:=[E3 s.Columns,E4 s.Covers,G0 s.Light.Kilos,G0 s.Light.X,G0 s.Light.Y,G0 s.Light.Z,E5 s.Rows,E6 s.Frames,E7 s.Tanks,G0 s.G2.Tolerance,G0 s.G2.Trim,G0 s.G2.List_,G0 s.G2.Stability,E2 boxes,E0 l,E1 open_,G0 x.Gd,G0 x.Slot.G4,G0 x.Slot.Tier,U8 x.Slot.Half]) Jd7 O O O O O O O O) (G7 (hK17 ?_))))))))))
     refine Gp [(14,.dptr [E3 s.Columns,E4 s.Covers,G0 s.Light.Kilos,G0 s.Light.X,G0 s.Light.Y,G0 s.Light.Z,E5 s.Rows,E6 s.Frames,E7 s.Tanks,G0 s.G2.Tolerance,G0 s.G2.Trim,G0 s.G2.List_,G0 s.G2.Stability,E2 boxes,E0 l,E1 open_,G0 x.Gd,G0 x.Slot.G4,G0 x.Slot.Tier,U8 x.Slot.Half])] [] 1088 rfl rfl rfl G rfl (by exact⟨.ptr,G⟩) (Js fun hK18=>?_)
     refine Jr fun hK19=>(JLh (.agg [E3 s.Columns,E4 s.Covers,G0 s.Light.Kilos,G0 s.Light.X,G0 s.Light.Y,G0 s.Light.Z,E5 s.Rows,E6 s.Frames,E7 s.Tanks,G0 s.G2.Tolerance,G0 s.G2.Trim,G0 s.G2.List_,G0 s.G2.Stability,E2 boxes,E0 l,E1 open_,G0 x.Gd,G0 x.Slot.G4,G0 x.Slot.Tier,U8 x.Slot.Half]) (Gi G92 O O O) O (JLh (.bfn 65 [.agg [E3 s.Columns,E4 s.Covers,G0 s.Light.Kilos,G0 s.Light.X,G0 s.Light.Y,G0 s.Light.Z,E5 s.Rows,E6 s.Frames,E7 s.Tanks,G0 s.G2.Tolerance,G0 s.G2.Trim,G0 s.G2.List_,G0 s.G2.Stability,E2 boxes,E0 l,E1 open_,G0 x.Gd,G0 x.Slot.G4,G0 x.Slot.Tier,U8 x.Slot.Half]]) (H05 (cs:=[.agg [E3 s.Columns,E4 s.Covers,G0 s.Light.Kilos,G0 s.Light.X,G0 s.Light.Y,G0 s.Light.Z,E5 s.Rows,E6 s.Frames,E7 s.Tanks,G0 s.G2.Tolerance,G0 s.G2.Trim,G0 s.G2.List_,G0 s.G2.Stability,E2 boxes,E0 l,E1 open_,G0 x.Gd,G0 x.Slot.G4,G0 x.Slot.Tier,U8 x.Slot.Half]]) O O) O (JLh (.agg [E3 s.Columns,E4 s.Covers,G0 s.Light.Kilos,G0 s.Light.X,G0 s.Light.Y,G0 s.Light.Z,E5 s.Rows,E6 s.Frames,E7 s.Tanks,G0 s.G2.Tolerance,G0 s.G2.Trim,G0 s.G2.List_,G0 s.G2.Stability,E2 boxes,E0 l,E1 open_,G0 x.Gd,G0 x.Slot.G4,G0 x.Slot.Tier,U8 x.Slot.Half]) (Gi G92 O O O) O (JLh (.bfn 66 [.agg [E3 s.Columns,E4 s.Covers,G0 s.Light.Kilos,G0 s.Light.X,G0 s.Light.Y,G0 s.Light.Z,E5 s.Rows,E6 s.Frames,E7 s.Tanks,G0 s.G2.Tolerance,G0 s.G2.Trim,G0 s.G2.List_,G0 s.G2.Stability,E2 boxes,E0 l,E1 open_,G0 x.Gd,G0 x.Slot.G4,G0 x.Slot.Tier,U8 x.Slot.Half]]) (H05 (cs:=[.agg [E3 s.Columns,E4 s.Covers,G0 s.Light.Kilos,G0 s.Light.X,G0 s.Light.Y,G0 s.Light.Z,E5 s.Rows,E6 s.Frames,E7 s.Tanks,G0 s.G2.Tolerance,G0 s.G2.Trim,G0 s.G2.List_,G0 s.G2.Stability,E2 boxes,E0 l,E1 open_,G0 x.Gd,G0 x.Slot.G4,G0 x.Slot.Tier,U8 x.Slot.Half]]) O O) O (JLh (.agg [E3 s.Columns,E4 s.Covers,G0 s.Light.Kilos,G0 s.Light.X,G0 s.Light.Y,G0 s.Light.Z,E5 s.Rows,E6 s.Frames,E7 s.Tanks,G0 s.G2.Tolerance,G0 s.G2.Trim,G0 s.G2.List_,G0 s.G2.Stability,E2 boxes,E0 l,E1 open_,G0 x.Gd,G0 x.Slot.G4,G0 x.Slot.Tier,U8 x.Slot.Half]) (Gi G92 O O O) O (JLh (.bfn 67 [.agg [E3 s.Columns,E4 s.Covers,G0 s.Light.Kilos,G0 s.Light.X,G0 s.Light.Y,G0 s.Light.Z,E5 s.Rows,E6 s.Frames,E7 s.Tanks,G0 s.G2.Tolerance,G0 s.G2.Trim,G0 s.G2.List_,G0 s.G2.Stability,E2 boxes,E0 l,E1 open_,G0 x.Gd,G0 x.Slot.G4,G0 x.Slot.Tier,U8 x.Slot.Half]]) (H05 (cs:=[.agg [E3 s.Columns,E4 s.Covers,G0 s.Light.Kilos,G0 s.Light.X,G0 s.Light.Y,G0 s.Light.Z,E5 s.Rows,E6 s.Frames,E7 s.Tanks,G0 s.G2.Tolerance,G0 s.G2.Trim,G0 s.G2.List_,G0 s.G2.Stability,E2 boxes,E0 l,E1 open_,G0 x.Gd,G0 x.Slot.G4,G0 x.Slot.Tier,U8 x.Slot.Half]]) O O) O (JLh (.agg [E3 s.Columns,E4 s.Covers,G0 s.Light.Kilos,G0 s.Light.X,G0 s.Light.Y,G0 s.Light.Z,E5 s.Rows,E6 s.Frames,E7 s.Tanks,G0 s.G2.Tolerance,G0 s.G2.Trim,G0 s.G2.List_,G0 s.G2.Stability,E2 boxes,E0 l,E1 open_,G0 x.Gd,G0 x.Slot.G4,G0 x.Slot.Tier,U8 x.Slot.Half]) (Gi G92 O O O) O (JLh (.bfn 68 [.agg [E3 s.Columns,E4 s.Covers,G0 s.Light.Kilos,G0 s.Light.X,G0 s.Light.Y,G0 s.Light.Z,E5 s.Rows,E6 s.Frames,E7 s.Tanks,G0 s.G2.Tolerance,G0 s.G2.Trim,G0 s.G2.List_,G0 s.G2.Stability,E2 boxes,E0 l,E1 open_,G0 x.Gd,G0 x.Slot.G4,G0 x.Slot.Tier,U8 x.Slot.Half]]) (H05 (cs:=[.agg [E3 s.Columns,E4 s.Covers,G0 s.Light.Kilos,G0 s.Light.X,G0 s.Light.Y,G0 s.Light.Z,E5 s.Rows,E6 s.Frames,E7 s.Tanks,G0 s.G2.Tolerance,G0 s.G2.Trim,G0 s.G2.List_,G0 s.G2.Stability,E2 boxes,E0 l,E1 open_,G0 x.Gd,G0 x.Slot.G4,G0 x.Slot.Tier,U8 x.Slot.Half]]) O O) O (JLh (.agg [.bfn 65 [.agg [E3 s.Columns,E4 s.Covers,G0 s.Light.Kilos,G0 s.Light.X,G0 s.Light.Y,G0 s.Light.Z,E5 s.Rows,E6 s.Frames,E7 s.Tanks,G0 s.G2.Tolerance,G0 s.G2.Trim,G0 s.G2.List_,G0 s.G2.Stability,E2 boxes,E0 l,E1 open_,G0 x.Gd,G0 x.Slot.G4,G0 x.Slot.Tier,U8 x.Slot.Half]],.bfn 66 [.agg [E3 s.Columns,E4 s.Covers,G0 s.Light.Kilos,G0 s.Light.X,G0 s.Light.Y,G0 s.Light.Z,E5 s.Rows,E6 s.Frames,E7 s.Tanks,G0 s.G2.Tolerance,G0 s.G2.Trim,G0 s.G2.List_,G0 s.G2.Stability,E2 boxes,E0 l,E1 open_,G0 x.Gd,G0 x.Slot.G4,G0 x.Slot.Tier,U8 x.Slot.Half]],.bfn 67 [.agg [E3 s.Columns,E4 s.Covers,G0 s.Light.Kilos,G0 s.Light.X,G0 s.Light.Y,G0 s.Light.Z,E5 s.Rows,E6 s.Frames,E7 s.Tanks,G0 s.G2.Tolerance,G0 s.G2.Trim,G0 s.G2.List_,G0 s.G2.Stability,E2 boxes,E0 l,E1 open_,G0 x.Gd,G0 x.Slot.G4,G0 x.Slot.Tier,U8 x.Slot.Half]],.bfn 68 [.agg [E3 s.Columns,E4 s.Covers,G0 s.Light.Kilos,G0 s.Light.X,G0 s.Light.Y,G0 s.Light.Z,E5 s.Rows,E6 s.Frames,E7 s.Tanks,G0 s.G2.Tolerance,G0 s.G2.Trim,G0 s.G2.List_,G0 s.G2.Stability,E2 boxes,E0 l,E1 open_,G0 x.Gd,G0 x.Slot.G4,G0 x.Slot.Tier,U8 x.Slot.Half]]]) (Hbf (cs:=[.bfn 65 [.agg [E3 s.Columns,E4 s.Covers,G0 s.Light.Kilos,G0 s.Light.X,G0 s.Light.Y,G0 s.Light.Z,E5 s.Rows,E6 s.Frames,E7 s.Tanks,G0 s.G2.Tolerance,G0 s.G2.Trim,G0 s.G2.List_,G0 s.G2.Stability,E2 boxes,E0 l,E1 open_,G0 x.Gd,G0 x.Slot.G4,G0 x.Slot.Tier,U8 x.Slot.Half]],.bfn 66 [.agg [E3 s.Columns,E4 s.Covers,G0 s.Light.Kilos,G0 s.Light.X,G0 s.Light.Y,G0 s.Light.Z,E5 s.Rows,E6 s.Frames,E7 s.Tanks,G0 s.G2.Tolerance,G0 s.G2.Trim,G0 s.G2.List_,G0 s.G2.Stability,E2 boxes,E0 l,E1 open_,G0 x.Gd,G0 x.Slot.G4,G0 x.Slot.Tier,U8 x.Slot.Half]],.bfn 67 [.agg [E3 s.Columns,E4 s.Covers,G0 s.Light.Kilos,G0 s.Light.X,G0 s.Light.Y,G0 s.Light.Z,E5 s.Rows,E6 s.Frames,E7 s.Tanks,G0 s.G2.Tolerance,G0 s.G2.Trim,G0 s.G2.List_,G0 s.G2.Stability,E2 boxes,E0 l,E1 open_,G0 x.Gd,G0 x.Slot.G4,G0 x.Slot.Tier,U8 x.Slot.Half]],.bfn 68 [.agg [E3 s.Columns,E4 s.Covers,G0 s.Light.Kilos,G0 s.Light.X,G0 s.Light.Y,G0 s.Light.Z,E5 s.Rows,E6 s.Frames,E7 s.Tanks,G0 s.G2.Tolerance,G0 s.G2.Trim,G0 s.G2.List_,G0 s.G2.Stability,E2 boxes,E0 l,E1 open_,G0 x.Gd,G0 x.Slot.G4,G0 x.Slot.Tier,U8 x.Slot.Half]]]) [.nilFunc,.nilFunc,.nilFunc,.nilFunc] Q23 Jd2 O O) O (Ru (G0 0) O (G7 (hK19 ?_))))))))))))
     refine Gq ?_
     obtain⟨hx60,h⟩:=Jj h
     obtain⟨b60,kx60,hb60,hkx60,h⟩:=Gf3 h
     refine Hg (fun i60 (s60:Unit)=>upto b60 kx60 ((4:Int).toNat - i60) i60 s60=some r) (fun i60 s60=>[(14,.dptr [E3 s.Columns,E4 s.Covers,G0 s.Light.Kilos,G0 s.Light.X,G0 s.Light.Y,G0 s.Light.Z,E5 s.Rows,E6 s.Frames,E7 s.Tanks,G0 s.G2.Tolerance,G0 s.G2.Trim,G0 s.G2.List_,G0 s.G2.Stability,E2 boxes,E0 l,E1 open_,G0 x.Gd,G0 x.Slot.G4,G0 x.Slot.Tier,U8 x.Slot.Half]),(71,.agg [.bfn 65 [.agg [E3 s.Columns,E4 s.Covers,G0 s.Light.Kilos,G0 s.Light.X,G0 s.Light.Y,G0 s.Light.Z,E5 s.Rows,E6 s.Frames,E7 s.Tanks,G0 s.G2.Tolerance,G0 s.G2.Trim,G0 s.G2.List_,G0 s.G2.Stability,E2 boxes,E0 l,E1 open_,G0 x.Gd,G0 x.Slot.G4,G0 x.Slot.Tier,U8 x.Slot.Half]],.bfn 66 [.agg [E3 s.Columns,E4 s.Covers,G0 s.Light.Kilos,G0 s.Light.X,G0 s.Light.Y,G0 s.Light.Z,E5 s.Rows,E6 s.Frames,E7 s.Tanks,G0 s.G2.Tolerance,G0 s.G2.Trim,G0 s.G2.List_,G0 s.G2.Stability,E2 boxes,E0 l,E1 open_,G0 x.Gd,G0 x.Slot.G4,G0 x.Slot.Tier,U8 x.Slot.Half]],.bfn 67 [.agg [E3 s.Columns,E4 s.Covers,G0 s.Light.Kilos,G0 s.Light.X,G0 s.Light.Y,G0 s.Light.Z,E5 s.Rows,E6 s.Frames,E7 s.Tanks,G0 s.G2.Tolerance,G0 s.G2.Trim,G0 s.G2.List_,G0 s.G2.Stability,E2 boxes,E0 l,E1 open_,G0 x.Gd,G0 x.Slot.G4,G0 x.Slot.Tier,U8 x.Slot.Half]],.bfn 68 [.agg [E3 s.Columns,E4 s.Covers,G0 s.Light.Kilos,G0 s.Light.X,G0 s.Light.Y,G0 s.Light.Z,E5 s.Rows,E6 s.Frames,E7 s.Tanks,G0 s.G2.Tolerance,G0 s.G2.Trim,G0 s.G2.List_,G0 s.G2.Stability,E2 boxes,E0 l,E1 open_,G0 x.Gd,G0 x.Slot.G4,G0 x.Slot.Tier,U8 x.Slot.Half]]]),(72,Ei i60)]) (fun i60 s60=>[]) (fun i60=>(4:Int).toNat - i60) 0 () h ⟨⟨.same O,.same O,.same O,G⟩,G,O⟩ ?_
     clear h
     intro i60 s60 hi60 K60 e60
     refine Jr fun hK61=>(JLh (BL (decide ((i60:Int) < 4))) (Hz O O O) O (G7 (hK61 (Js fun hK62=>Gk O (fun hb=>?_) (fun hb=>?_)))))
     ·
      have hk60:=Ga7 hb
      obtain⟨nx60,hn60,h⟩:=Ga3 hi60 hk60
      replace h:=app3 hb60 h
      refine Gn (hK62 ?_)
      obtain⟨kj63,hkj63,h⟩:=Rg h
      refine Qg (fun j63:Unit=>kj63 j63=some r) (fun j63=>[(14,.dptr [E3 s.Columns,E4 s.Covers,G0 s.Light.Kilos,G0 s.Light.X,G0 s.Light.Y,G0 s.Light.Z,E5 s.Rows,E6 s.Frames,E7 s.Tanks,G0 s.G2.Tolerance,G0 s.G2.Trim,G0 s.G2.List_,G0 s.G2.Stability,E2 boxes,E0 l,E1 open_,G0 x.Gd,G0 x.Slot.G4,G0 x.Slot.Tier,U8 x.Slot.Half]),(71,.agg [.bfn 65 [.agg [E3 s.Columns,E4 s.Covers,G0 s.Light.Kilos,G0 s.Light.X,G0 s.Light.Y,G0 s.Light.Z,E5 s.Rows,E6 s.Frames,E7 s.Tanks,G0 s.G2.Tolerance,G0 s.G2.Trim,G0 s.G2.List_,G0 s.G2.Stability,E2 boxes,E0 l,E1 open_,G0 x.Gd,G0 x.Slot.G4,G0 x.Slot.Tier,U8 x.Slot.Half]],.bfn 66 [.agg [E3 s.Columns,E4 s.Covers,G0 s.Light.Kilos,G0 s.Light.X,G0 s.Light.Y,G0 s.Light.Z,E5 s.Rows,E6 s.Frames,E7 s.Tanks,G0 s.G2.Tolerance,G0 s.G2.Trim,G0 s.G2.List_,G0 s.G2.Stability,E2 boxes,E0 l,E1 open_,G0 x.Gd,G0 x.Slot.G4,G0 x.Slot.Tier,U8 x.Slot.Half]],.bfn 67 [.agg [E3 s.Columns,E4 s.Covers,G0 s.Light.Kilos,G0 s.Light.X,G0 s.Light.Y,G0 s.Light.Z,E5 s.Rows,E6 s.Frames,E7 s.Tanks,G0 s.G2.Tolerance,G0 s.G2.Trim,G0 s.G2.List_,G0 s.G2.Stability,E2 boxes,E0 l,E1 open_,G0 x.Gd,G0 x.Slot.G4,G0 x.Slot.Tier,U8 x.Slot.Half]],.bfn 68 [.agg [E3 s.Columns,E4 s.Covers,G0 s.Light.Kilos,G0 s.Light.X,G0 s.Light.Y,G0 s.Light.Z,E5 s.Rows,E6 s.Frames,E7 s.Tanks,G0 s.G2.Tolerance,G0 s.G2.Trim,G0 s.G2.List_,G0 s.G2.Stability,E2 boxes,E0 l,E1 open_,G0 x.Gd,G0 x.Slot.G4,G0 x.Slot.Tier,U8 x.Slot.Half]]]),(72,Ei i60)]) (fun j63=>[]) (fun Kj63 ej63=>?_) ?_
      ·
       refine Gq (Jr fun hK64=>(Ru (Ei i60) O ((Decidable.em ((i60:Int)=0)).elim (fun hq65_0=>?_) (fun hq65_0=>?_))))
       ·
        replace h:=H2 (decide_eq_true hq65_0) h
        refine JLh (.bfn 65 [.agg [E3 s.Columns,E4 s.Covers,G0 s.Light.Kilos,G0 s.Light.X,G0 s.Light.Y,G0 s.Light.Z,E5 s.Rows,E6 s.Frames,E7 s.Tanks,G0 s.G2.Tolerance,G0 s.G2.Trim,G0 s.G2.List_,G0 s.G2.Stability,E2 boxes,E0 l,E1 open_,G0 x.Gd,G0 x.Slot.G4,G0 x.Slot.Tier,U8 x.Slot.Half]]) (H8e (j:=0) H2e O O O hq65_0 O O) O (Ru (Ei i60) O (Ru (.bfn 65 [.agg [E3 s.Columns,E4 s.Covers,G0 s.Light.Kilos,G0 s.Light.X,G0 s.Light.Y,G0 s.Light.Z,E5 s.Rows,E6 s.Frames,E7 s.Tanks,G0 s.G2.Tolerance,G0 s.G2.Trim,G0 s.G2.List_,G0 s.G2.Stability,E2 boxes,E0 l,E1 open_,G0 x.Gd,G0 x.Slot.G4,G0 x.Slot.Tier,U8 x.Slot.Half]]) O (G7 (hK64 ?_))))
        refine Jr fun hK66=>(Ru (.bfn 65 [.agg [E3 s.Columns,E4 s.Covers,G0 s.Light.Kilos,G0 s.Light.X,G0 s.Light.Y,G0 s.Light.Z,E5 s.Rows,E6 s.Frames,E7 s.Tanks,G0 s.G2.Tolerance,G0 s.G2.Trim,G0 s.G2.List_,G0 s.G2.Stability,E2 boxes,E0 l,E1 open_,G0 x.Gd,G0 x.Slot.G4,G0 x.Slot.Tier,U8 x.Slot.Half]]) O ?_)
        obtain⟨r67,hr67,h⟩:=Ge h
        refine JLh (BL r67) (H8f (args:=[]) (firsts:=[.agg [E3 s.Columns,E4 s.Covers,G0 s.Light.Kilos,G0 s.Light.X,G0 s.Light.Y,G0 s.Light.Z,E5 s.Rows,E6 s.Frames,E7 s.Tanks,G0 s.G2.Tolerance,G0 s.G2.Trim,G0 s.G2.List_,G0 s.G2.Stability,E2 boxes,E0 l,E1 open_,G0 x.Gd,G0 x.Slot.G4,G0 x.Slot.Tier,U8 x.Slot.Half]]) O O (H4e (Hj.mk s boxes l open_ x) r67 hr67) Q05 G O) O (G7 (hK66 (JCc O h (fun h hb=>?_) (fun h hb=>?_))))
        ·
         refine Jr fun hK68=>(Ru (Ei i60) O ?_)
         obtain⟨v69,hv69,h⟩:=J7 h
         refine JLh (G0 v69) (Hu hv69 O O O) O (JLh (E0 ([]:List Stowed)) (Ht 4 O O) O (Ru (G0 v69) O (G7 (hK68 (Gr (⟨[E0 ([]:List Stowed),G0 v69],[],G,O,⟨⟨_,O,.conv (.same O)⟩,⟨_,O,.conv (.same O)⟩,G⟩,O,congrArg (fun r:(List Stowed)×Int=>(.tup [E0 r.1,G0 r.2]:AV)) (Option.some.inj h)⟩))))))
        ·
         refine Gn (ej63 _ _ () h ⟨⟨.same O,.same O,.same O,G⟩,G,O⟩)
       ·
        replace h:=Hm (decide_eq_false hq65_0) h
        refine(Decidable.em ((i60:Int)=1)).elim (fun hq65_1=>?_) (fun hq65_1=>?_)
        ·
         replace h:=H2 (decide_eq_true hq65_1) h
         refine JLh (.bfn 66 [.agg [E3 s.Columns,E4 s.Covers,G0 s.Light.Kilos,G0 s.Light.X,G0 s.Light.Y,G0 s.Light.Z,E5 s.Rows,E6 s.Frames,E7 s.Tanks,G0 s.G2.Tolerance,G0 s.G2.Trim,G0 s.G2.List_,G0 s.G2.Stability,E2 boxes,E0 l,E1 open_,G0 x.Gd,G0 x.Slot.G4,G0 x.Slot.Tier,U8 x.Slot.Half]]) (H8e (j:=1) H2e O O O hq65_1 O O) O (Ru (Ei i60) O (Ru (.bfn 66 [.agg [E3 s.Columns,E4 s.Covers,G0 s.Light.Kilos,G0 s.Light.X,G0 s.Light.Y,G0 s.Light.Z,E5 s.Rows,E6 s.Frames,E7 s.Tanks,G0 s.G2.Tolerance,G0 s.G2.Trim,G0 s.G2.List_,G0 s.G2.Stability,E2 boxes,E0 l,E1 open_,G0 x.Gd,G0 x.Slot.G4,G0 x.Slot.Tier,U8 x.Slot.Half]]) O (G7 (hK64 ?_))))
         refine Jr fun hK70=>(Ru (.bfn 66 [.agg [E3 s.Columns,E4 s.Covers,G0 s.Light.Kilos,G0 s.Light.X,G0 s.Light.Y,G0 s.Light.Z,E5 s.Rows,E6 s.Frames,E7 s.Tanks,G0 s.G2.Tolerance,G0 s.G2.Trim,G0 s.G2.List_,G0 s.G2.Stability,E2 boxes,E0 l,E1 open_,G0 x.Gd,G0 x.Slot.G4,G0 x.Slot.Tier,U8 x.Slot.Half]]) O ?_)
         obtain⟨r71,hr71,h⟩:=Ge h
         refine JLh (BL r71) (H8f (args:=[]) (firsts:=[.agg [E3 s.Columns,E4 s.Covers,G0 s.Light.Kilos,G0 s.Light.X,G0 s.Light.Y,G0 s.Light.Z,E5 s.Rows,E6 s.Frames,E7 s.Tanks,G0 s.G2.Tolerance,G0 s.G2.Trim,G0 s.G2.List_,G0 s.G2.Stability,E2 boxes,E0 l,E1 open_,G0 x.Gd,G0 x.Slot.G4,G0 x.Slot.Tier,U8 x.Slot.Half]]) O O (H72 (Hj.mk s boxes l open_ x) r71 hr71) Q04 G O) O (G7 (hK70 (JCc O h (fun h hb=>?_) (fun h hb=>?_))))
         ·
          refine Jr fun hK72=>(Ru (Ei i60) O ?_)
          obtain⟨v73,hv73,h⟩:=J7 h
          refine JLh (G0 v73) (Hu hv73 O O O) O (JLh (E0 ([]:List Stowed)) (Ht 4 O O) O (Ru (G0 v73) O (G7 (hK72 (Gr (⟨[E0 ([]:List Stowed),G0 v73],[],G,O,⟨⟨_,O,.conv (.same O)⟩,⟨_,O,.conv (.same O)⟩,G⟩,O,congrArg (fun r:(List Stowed)×Int=>(.tup [E0 r.1,G0 r.2]:AV)) (Option.some.inj h)⟩))))))
         ·
          refine Gn (ej63 _ _ () h ⟨⟨.same O,.same O,.same O,G⟩,G,O⟩)
        ·
         replace h:=Hm (decide_eq_false hq65_1) h
         refine(Decidable.em ((i60:Int)=2)).elim (fun hq65_2=>?_) (fun hq65_2=>?_)
         ·
          replace h:=H2 (decide_eq_true hq65_2) h
          refine JLh (.bfn 67 [.agg [E3 s.Columns,E4 s.Covers,G0 s.Light.Kilos,G0 s.Light.X,G0 s.Light.Y,G0 s.Light.Z,E5 s.Rows,E6 s.Frames,E7 s.Tanks,G0 s.G2.Tolerance,G0 s.G2.Trim,G0 s.G2.List_,G0 s.G2.Stability,E2 boxes,E0 l,E1 open_,G0 x.Gd,G0 x.Slot.G4,G0 x.Slot.Tier,U8 x.Slot.Half]]) (H8e (j:=2) H2e O O O hq65_2 O O) O (Ru (Ei i60) O (Ru (.bfn 67 [.agg [E3 s.Columns,E4 s.Covers,G0 s.Light.Kilos,G0 s.Light.X,G0 s.Light.Y,G0 s.Light.Z,E5 s.Rows,E6 s.Frames,E7 s.Tanks,G0 s.G2.Tolerance,G0 s.G2.Trim,G0 s.G2.List_,G0 s.G2.Stability,E2 boxes,E0 l,E1 open_,G0 x.Gd,G0 x.Slot.G4,G0 x.Slot.Tier,U8 x.Slot.Half]]) O (G7 (hK64 ?_))))
          refine Jr fun hK74=>(Ru (.bfn 67 [.agg [E3 s.Columns,E4 s.Covers,G0 s.Light.Kilos,G0 s.Light.X,G0 s.Light.Y,G0 s.Light.Z,E5 s.Rows,E6 s.Frames,E7 s.Tanks,G0 s.G2.Tolerance,G0 s.G2.Trim,G0 s.G2.List_,G0 s.G2.Stability,E2 boxes,E0 l,E1 open_,G0 x.Gd,G0 x.Slot.G4,G0 x.Slot.Tier,U8 x.Slot.Half]]) O ?_)
          obtain⟨r75,hr75,h⟩:=Ge h
          refine JLh (BL r75) (H8f (args:=[]) (firsts:=[.agg [E3 s.Columns,E4 s.Covers,G0 s.Light.Kilos,G0 s.Light.X,G0 s.Light.Y,G0 s.Light.Z,E5 s.Rows,E6 s.Frames,E7 s.Tanks,G0 s.G2.Tolerance,G0 s.G2.Trim,G0 s.G2.List_,G0 s.G2.Stability,E2 boxes,E0 l,E1 open_,G0 x.Gd,G0 x.Slot.G4,G0 x.Slot.Tier,U8 x.Slot.Half]]) O O (H40 (Hj.mk s boxes l open_ x) r75 hr75) Q03 G O) O (G7 (hK74 (JCc O h (fun h hb=>?_) (fun h hb=>?_))))
          ·
           refine Jr fun hK76=>(Ru (Ei i60) O ?_)
           obtain⟨v77,hv77,h⟩:=J7 h
           refine JLh (G0 v77) (Hu hv77 O O O) O (JLh (E0 ([]:List Stowed)) (Ht 4 O O) O (Ru (G0 v77) O (G7 (hK76 (Gr (⟨[E0 ([]:List Stowed),G0 v77],[],G,O,⟨⟨_,O,.conv (.same O)⟩,⟨_,O,.conv (.same O)⟩,G⟩,O,congrArg (fun r:(List Stowed)×Int=>(.tup [E0 r.1,G0 r.2]:AV)) (Option.some.inj h)⟩))))))
          ·
           refine Gn (ej63 _ _ () h ⟨⟨.same O,.same O,.same O,G⟩,G,O⟩)
         ·
          replace h:=Hm (decide_eq_false hq65_2) h
          refine(Decidable.em ((i60:Int)=3)).elim (fun hq65_3=>?_) (fun hq65_3=>?_)
          ·
           replace h:=H2 (decide_eq_true hq65_3) h
           refine JLh (.bfn 68 [.agg [E3 s.Columns,E4 s.Covers,G0 s.Light.Kilos,G0 s.Light.X,G0 s.Light.Y,G0 s.Light.Z,E5 s.Rows,E6 s.Frames,E7 s.Tanks,G0 s.G2.Tolerance,G0 s.G2.Trim,G0 s.G2.List_,G0 s.G2.Stability,E2 boxes,E0 l,E1 open_,G0 x.Gd,G0 x.Slot.G4,G0 x.Slot.Tier,U8 x.Slot.Half]]) (H8e (j:=3) H2e O O O hq65_3 O O) O (Ru (Ei i60) O (Ru (.bfn 68 [.agg [E3 s.Columns,E4 s.Covers,G0 s.Light.Kilos,G0 s.Light.X,G0 s.Light.Y,G0 s.Light.Z,E5 s.Rows,E6 s.Frames,E7 s.Tanks,G0 s.G2.Tolerance,G0 s.G2.Trim,G0 s.G2.List_,G0 s.G2.Stability,E2 boxes,E0 l,E1 open_,G0 x.Gd,G0 x.Slot.G4,G0 x.Slot.Tier,U8 x.Slot.Half]]) O (G7 (hK64 ?_))))
           refine Jr fun hK78=>(Ru (.bfn 68 [.agg [E3 s.Columns,E4 s.Covers,G0 s.Light.Kilos,G0 s.Light.X,G0 s.Light.Y,G0 s.Light.Z,E5 s.Rows,E6 s.Frames,E7 s.Tanks,G0 s.G2.Tolerance,G0 s.G2.Trim,G0 s.G2.List_,G0 s.G2.Stability,E2 boxes,E0 l,E1 open_,G0 x.Gd,G0 x.Slot.G4,G0 x.Slot.Tier,U8 x.Slot.Half]]) O ?_)
           obtain⟨r79,hr79,h⟩:=Ge h
           refine JLh (BL r79) (H8f (args:=[]) (firsts:=[.agg [E3 s.Columns,E4 s.Covers,G0 s.Light.Kilos,G0 s.Light.X,G0 s.Light.Y,G0 s.Light.Z,E5 s.Rows,E6 s.Frames,E7 s.Tanks,G0 s.G2.Tolerance,G0 s.G2.Trim,G0 s.G2.List_,G0 s.G2.Stability,E2 boxes,E0 l,E1 open_,G0 x.Gd,G0 x.Slot.G4,G0 x.Slot.Tier,U8 x.Slot.Half]]) O O (H4f F (Hj.mk s boxes l open_ x) r79 hr79) Q02 G O) O (G7 (hK78 (JCc O h (fun h hb=>?_) (fun h hb=>?_))))
           ·
            refine Jr fun hK80=>(Ru (Ei i60) O ?_)
            obtain⟨v81,hv81,h⟩:=J7 h
            refine JLh (G0 v81) (Hu hv81 O O O) O (JLh (E0 ([]:List Stowed)) (Ht 4 O O) O (Ru (G0 v81) O (G7 (hK80 (Gr (⟨[E0 ([]:List Stowed),G0 v81],[],G,O,⟨⟨_,O,.conv (.same O)⟩,⟨_,O,.conv (.same O)⟩,G⟩,O,congrArg (fun r:(List Stowed)×Int=>(.tup [E0 r.1,G0 r.2]:AV)) (Option.some.inj h)⟩))))))
           ·
            refine Gn (ej63 _ _ () h ⟨⟨.same O,.same O,.same O,G⟩,G,O⟩)
          ·
           replace h:=Hm (decide_eq_false hq65_3) h
           cases h
      ·intro j63 h
       replace h:=app1 hkj63 h
       refine G3 (JLh (G0 ((i60+1:Nat):Int)) (Hu (He hk60 (G6c hx60)) O O O) O (Ru (G0 ((i60+1:Nat):Int)) O (G7 (e60 _ _ (i60+1) () (app1 hn60 h) (by omega) ⟨⟨.same rfl,.same rfl,.same rfl,G⟩,G,rfl⟩))))
     ·
      have h:=app1 hkx60 (Ga4 hi60 (Zq hb))
      refine Hr (hK18 (Jr fun hK82=>(JLh (.agg [E3 s.Columns,E4 s.Covers,G0 s.Light.Kilos,G0 s.Light.X,G0 s.Light.Y,G0 s.Light.Z,E5 s.Rows,E6 s.Frames,E7 s.Tanks,G0 s.G2.Tolerance,G0 s.G2.Trim,G0 s.G2.List_,G0 s.G2.Stability,E2 boxes,E0 l,E1 open_,G0 x.Gd,G0 x.Slot.G4,G0 x.Slot.Tier,U8 x.Slot.Half]) (Gi G92 O O O) O ?_)))
      obtain⟨r83,hr83,h⟩:=Ge h
      refine JLh (E0 r83) (Gt O (G71 F (Hj.mk s boxes l open_ x) r83 hr83) J5e ⟨O,O,G⟩) O (Ru (E0 r83) O (Ru (G0 0) O (G7 (hK82 (Gr (⟨[E0 r83,G0 0],[],G,O,⟨⟨_,O,.conv (.same O)⟩,⟨_,O,.conv (.same O)⟩,G⟩,O,congrArg (fun r:(List Stowed)×Int=>(.tup [E0 r.1,G0 r.2]:AV)) (Option.some.inj h)⟩))))))

def Qw (a:List Stowed) (b:List Stowed):Option Bool:=
 bif decide ((a.length:Int)≠(b.length:Int)) then
 (some false)
 else
 (each (fun y24 i24 (s24:Unit) nx24=>
   Rx b (i24:Int) fun y29=>
   bif (!decide (y24=y29)) then
   (some false)
   else
   (nx24 ()))
  (fun(s24:Unit)=>
   some true) a 0 ())
theorem Gbb (a:List Stowed) (b:List Stowed) (r:Bool) (h:Qw a b=some r):Pure Ej 31 [E0 a,E0 b] (·=BL r):=by
 unfold Qw at h
 refine H1 [.tmp 4] Tryz.func31 O O (Jr fun hK1=>(Ru (BL false) O (G7 (hK1 (Js fun hK2=>Jr fun hK3=>(Ru (E0 a) O (JLl Gx O O O fun hm7=>(Ru (E0 b) O (JLl Gx O O O fun hm9=>(JLh (BL (decide ((a.length:Int)≠(b.length:Int)))) (G50 O O O) O (G7 (hK3 (JCc O h (fun h hb=>?_) (fun h hb=>?_))))))))))))))
 ·
  refine Jr fun hK4=>(Ru (BL false) O (G7 (hK4 (Gr (fin1 BL h)))))
 ·
  refine Gn (hK2 (Js fun hK5=>Jr fun hK6=>(Ru (G0 0) O (G7 (hK6 (Gq ?_))))))
  obtain⟨b24,kx24,hb24,hkx24,h⟩:=Hx h
  refine Hg (fun i24 (s24:Unit)=>each b24 kx24 (List.drop i24 a) i24 s24=some r) (fun i24 s24=>[(0,E0 a),(1,E0 b),(5,Ei i24)]) (fun i24 s24=>[]) (fun i24=>a.length - i24) 0 () h ⟨⟨.same O,.same O,.same O,G⟩,G,O⟩ ?_
  clear h
  intro i24 s24 hi24 K24 e24
  refine Js fun hK25=>Jr fun hK26=>(Ru (Ei i24) O (Ru (E0 a) O (JLl Gx O O O fun hm13=>(JLh (BL (decide ((i24:Int) < (a.length:Int)))) (Hz O O O) O (G7 (hK26 (Gk O (fun hb=>?_) (fun hb=>?_))))))))
  ·
   have hk24:=Jb hb
   obtain⟨y24,nx24,hy24,hn24,h⟩:=Ho hi24 hk24
   replace h:=Rw hb24 h
   refine Gn (hK25 (Js fun hK27=>Gq (Js fun hK28=>?_)))
   obtain⟨m30,y29,hm30,hy29,h⟩:=Yd h
   refine JC_d0 Qb (by kernel_rfl) (Dq (E0 a) (G6 O O) O (Dq (Ei i24) (G6 O O) O (Dq (Ed y24) (H4 (f:=Stowed.av) (xs:=a) (y:=y24) O O O Gx hy24 O) O (Dq (.agg (Stowed.cs y24)) (Gi Q0 O O O) O (Dq (E0 b) (G6 O O) O (Dq (Ei i24) (G6 O O) O (Dq (Ed y29) (H4 (f:=Stowed.av) (xs:=b) (y:=y29) O O O Gx hy29 hm30) O (Dq (.agg (Stowed.cs y29)) (Gi Q0 O O O) O (Dq (BL (!decide (y24=y29))) (Jcb (vs:=[.int .i64 y24.Gd,.int .i64 y24.Slot.G4,.int .i64 y24.Slot.Tier,.int .u8 y24.Slot.Half]) (us:=[.int .i64 y29.Gd,.int .i64 y29.Slot.G4,.int .i64 y29.Slot.Tier,.int .u8 y29.Slot.Half]) 4 O (tq_80 y24 y29) Je1 tf_eqg_80 O O O) O (Dnil (hK28 (JCc O h (fun h hb=>?_) (fun h hb=>?_)))))))))))))
   ·
    refine Jr fun hK31=>(Ru (BL false) O (G7 (hK31 (Gr (fin1 BL h)))))
   ·
    refine Gn (hK27 (G3 (Ru (Ei i24) O (JLh (G0 ((i24+1:Nat):Int)) (Hu (He hk24 hm13) O O O) O (Ru (G0 ((i24+1:Nat):Int)) O (G7 (e24 _ _ (i24+1) () (app1 hn24 h) (by omega) ⟨⟨.same rfl,.same rfl,.same rfl,G⟩,G,rfl⟩)))))))
  ·
   have h:=app1 hkx24 (Hp hi24 (H7 hb))
   refine Hr (hK5 (Jr fun hK32=>(Ru (BL true) O (G7 (hK32 (Gr (fin1 BL h)))))))

def Rr (F:Nat) (s:Gw) (boxes:List Gd) (before:List Stowed) (after:List Stowed) (set:List Int):Option Bool:=
 loop (fun nx7 (s7:(List Stowed)×(List Int)×Int×Bool)=>
  bif (s7.2.2.2&&(decide (s7.2.2.1 < 100))) then
  (each (fun y32 i32 (s32:(List Int)×Bool) nx32=>
    jp (fun kj35=>
     bnd (Gad F s boxes s7.1 s32.1 (i32:Int)) fun r38=>
     bnd (bif decide (r38.2=0) then Hy s32.1 (i32:Int) else some default) fun r40=>
     bnd (bif ((decide (r38.2=0))&&(!r40)) then Hy r38.1 (i32:Int) else some default) fun r41=>
     bnd (bif (((decide (r38.2=0))&&(!r40))&&r41) then Ro s before after set (i32:Int) else some default) fun r42=>
     bif ((((decide (r38.2=0))&&(!r40))&&r41)&&r42) then
     (kj35 (r38.1,true))
     else
     (kj35 (s32.1,s32.2))) fun(j35:(List Int)×Bool)=>
    nx32 (j35.1,j35.2))
   (fun(s32:(List Int)×Bool)=>
    each (fun y60 i60 (s60:(List Stowed)×Bool) nx60=>
     jp (fun kj63=>
      bnd (G3b s boxes s60.1 s32.1 y60) fun r66=>
      bif ((decide (r66.2=0))&&(decide ((r66.1.length:Int) < (s60.1.length:Int)))) then
      (kj63 (r66.1,true))
      else
      (kj63 (s60.1,s60.2))) fun(j63:(List Stowed)×Bool)=>
     nx60 (j63.1,j63.2))
    (fun(s60:(List Stowed)×Bool)=>
     G0d (s7.2.2.1+1) fun v68=>
     nx7 (s60.1,s32.1,v68,s60.2)) set 0 (s7.1,s32.2)) s.Covers 0 (s7.2.1,false))
  else
  (need (decide (2≤9223372036854775807)) <|
   upto (fun i71 (s71:(List Stowed)×(List Int)) nx71=>
    each (fun y93 i93 (s93:(List Int)) nx93=>
     jp (fun kj96=>
      bnd (G84 F s boxes s71.1 s93 (i93:Int)) fun r99=>
      bnd (bif ((decide ((i71:Int)=1))&&(decide (r99.2=0))) then Hy s93 (i93:Int) else some default) fun r101=>
      bnd (bif (((decide ((i71:Int)=1))&&(decide (r99.2=0)))&&r101) then Hy r99.1 (i93:Int) else some default) fun r102=>
      bif ((((decide ((i71:Int)=1))&&(decide (r99.2=0)))&&r101)&&(!r102)) then
      (kj96 r99.1)
      else
      (kj96 s93)) fun(j96:(List Int))=>
     nx93 j96)
    (fun(s93:(List Int))=>
     need (decide (10≤9223372036854775807)) <|
     upto (fun i104 (s104:(List Stowed)) nx104=>
      each (fun y139 i139 (s139:(List Stowed)) nx139=>
       jp (fun kj142=>
        bnd (bif decide (y139.Slot.Tier=(i104:Int)) then Hy set y139.Gd else some default) fun r145=>
        bnd (bif ((decide (y139.Slot.Tier=(i104:Int)))&&r145) then Rx s.Columns y139.Slot.G4 some else some default) fun y146=>
        bif (((decide (y139.Slot.Tier=(i104:Int)))&&r145)&&(y146.Deck==(decide ((i71:Int)=1)))) then
        (bnd (G6a F s boxes s139 s93 y139) fun r148=>
         bif decide (r148.2≠0) then
         (some false)
         else
         (kj142 r148.1))
        else
        (kj142 s139)) fun(j142:(List Stowed))=>
       nx139 j142)
      (fun(s139:(List Stowed))=>
       nx104 s139) after 0 s104)
     (fun(s104:(List Stowed))=>
      nx71 (s104,s93)) (10:Int).toNat 0 s71.1) s.Covers 0 s71.2)
   (fun(s71:(List Stowed)×(List Int))=>
    bnd (Qw s71.1 after) fun r153=>
    some r153) (2:Int).toNat 0 (s7.1,s7.2.1))) F (before,[],0,true)
theorem Gee (F:Nat) (s:Gw) (boxes:List Gd) (before:List Stowed) (after:List Stowed) (set:List Int) (r:Bool) (h:Rr F s boxes before after set=some r):Pure Ej 9 [.agg (Gw.cs s),E2 boxes,E0 before,E0 after,E1 set] (·=BL r):=by
 unfold Rr at h
 refine H1 [.tmp 10] Tryz.func9 O O (Jr fun hK1=>(JLh (.ptr 1028 0) (Jm (cs:=(Gw.cs s)) 1028 O O O O O) O (Ru (BL false) O (G7 (hK1 ?_)))))
 refine Gp [(1,E2 boxes),(2,E0 before),(3,E0 after),(4,E1 set),(5,Ec s)] [] 1028 rfl rfl rfl G rfl (by repeat' (first | exact .ptr | constructor)) (Jr fun hK2=>(Ru (E0 before) O (Ru (E0 before) O (G7 (hK2 (Jr fun hK3=>(JLh (E1 ([]:List Int)) (Ht 1 O O) O (G7 (hK3 (Jr fun hK4=>(Ru (G0 0) O (G7 (hK4 (Js fun hK5=>Jr fun hK6=>(Ru (BL true) O (G7 (hK6 (Gq ?_))))))))))))))))))
 obtain⟨b7,hb7,h⟩:=Hd9 h
 refine Hg (fun i7 (s7:(List Stowed)×(List Int)×Int×Bool)=>loop b7 i7 s7=some r) (fun i7 s7=>[(1,E2 boxes),(2,E0 before),(3,E0 after),(4,E1 set),(5,Ec s),(11,E0 s7.1),(12,E1 s7.2.1),(13,G0 s7.2.2.1),(14,BL s7.2.2.2)]) (fun i7 s7=>[]) (fun i7=>i7) F (before,[],0,true) h ⟨(by repeat' constructor),G,rfl⟩ ?_
 clear h
 intro i7 s7 hi7 K7 e7
 obtain⟨m7,nx7,hm_7,hn7,h⟩:=H5c hi7
 replace h:=app2 hb7 h
 refine Js fun hK8=>Jr fun hK9=>(Ru (BL s7.2.2.2) O (Ru (BL s7.2.2.2) O (JLo (G0 s7.2.2.1) [] O .sct G (fun hc=>G6 O O) O (JLo (BL (decide (s7.2.2.1 < 100))) [34] O .sct ⟨Ua,G⟩ (fun hc=>Hz O O O) O (JLh (BL (s7.2.2.2&&(decide (s7.2.2.1 < 100)))) (Qa O O O O) O (G7 (hK9 (JCc O h (fun h hb=>?_) (fun h hb=>?_)))))))))
 ·
  refine Gn (hK8 (Js fun hK10=>Gq (Jr fun hK11=>(Ru (BL false) O (G7 (hK11 (Js fun hK12=>Jr fun hK13=>(JLh (.dptr [E4 s.Covers,G0 s.Light.Kilos,G0 s.Light.X,G0 s.Light.Y,G0 s.Light.Z,E5 s.Rows,E6 s.Frames,E7 s.Tanks,G0 s.G2.Tolerance,G0 s.G2.Trim,G0 s.G2.List_,G0 s.G2.Stability]) (Ga Q5 O O O) O (JLh (E4 s.Covers) (Gf Qo O O O) O (JLl Q8 O O O fun hm41=>(Ru (G0 0) O (G7 (hK13 (Gq ?_))))))))))))))
  obtain⟨b32,kx32,hb32,hkx32,h⟩:=Hx h
  refine Hg (fun i32 (s32:(List Int)×Bool)=>each b32 kx32 (List.drop i32 s.Covers) i32 s32=some r) (fun i32 s32=>[(1,E2 boxes),(2,E0 before),(3,E0 after),(4,E1 set),(5,Ec s),(11,E0 s7.1),(12,E1 s32.1),(13,G0 s7.2.2.1),(14,BL s32.2),(41,Ei s.Covers.length),(42,Ei i32)]) (fun i32 s32=>[]) (fun i32=>s.Covers.length - i32) 0 (s7.2.1,false) h ⟨(by repeat' constructor),G,rfl⟩ ?_
  clear h
  intro i32 s32 hi32 K32 e32
  refine Jr fun hK33=>(JLh (BL (decide ((i32:Int) < (s.Covers.length:Int)))) (Hz O O O) O (G7 (hK33 (Js fun hK34=>Gk O (fun hb=>?_) (fun hb=>?_)))))
  ·
   have hk32:=Jb hb
   obtain⟨y32,nx32,hy32,hn32,h⟩:=Ho hi32 hk32
   replace h:=Rw hb32 h
   refine Gn (hK34 ?_)
   obtain⟨kj35,hkj35,h⟩:=Rg h
   refine Qg (fun j35:(List Int)×Bool=>kj35 j35=some r) (fun j35=>[(1,E2 boxes),(2,E0 before),(3,E0 after),(4,E1 set),(5,Ec s),(11,E0 s7.1),(12,E1 j35.1),(13,G0 s7.2.2.1),(14,BL j35.2),(41,Ei s.Covers.length),(42,Ei i32)]) (fun j35=>[]) (fun Kj35 ej35=>?_) ?_
   ·
    refine Gq (Jr fun hK36=>(Ru (Ei i32) O (Ru (Ei i32) O (G7 (hK36 (Jr fun hK37=>(JLh (.agg (Gw.cs s)) (Gi Hq O O O) O (Ru (E2 boxes) O (Ru (E0 s7.1) O (Ru (E1 s32.1) O (Ru (Ei i32) O ?_)))))))))))
    obtain⟨r38,hr38,h⟩:=Ge h
    refine JLh (.tup [E1 r38.1,G0 r38.2]) (Gt O (M_stow_Open_w F s boxes s7.1 s32.1 (i32:Int) r38 hr38) Q19 ⟨O,O,O,O,O,O,O,O,O,O,G⟩) O (Ru (.tup [E1 r38.1,G0 r38.2]) O (JLh (E1 r38.1) (H6 O O O) O (JLh (G0 r38.2) (H6 O O O) O (Ru (E1 r38.1) O (Ru (G0 r38.2) O (G7 (hK37 (Jr fun hK39=>(Ru (G0 r38.2) O (JLh (BL (decide (r38.2=0))) (Qh O O O) O (Ru (BL (decide (r38.2=0))) O (JLo (E1 s32.1) [] O .sct G (fun hc=>G6 O O) O (JLo (Ei i32) [] O .sct G (fun hc=>G6 O O) O ?_)))))))))))))
    obtain⟨r40,hr40,h⟩:=Ge h
    refine JLo (BL r40) [57,58] O .sct ⟨Ua,Ua,G⟩ (fun hc=>Gt (args:=[E1 s32.1,Ei i32]) O (Jz s32.1 (i32:Int) r40 (H2 hc hr40)) G1d ⟨O,O,O,O,G⟩) O (JLo (BL (!r40)) [59] O .sct ⟨Ua,G⟩ (fun hc=>Rj (b:=r40) O O) O (JLh (BL ((decide (r38.2=0))&&(!r40))) (Qa O O O O) O (Ru (BL ((decide (r38.2=0))&&(!r40))) O (JLo (E1 r38.1) [] O .sct G (fun hc=>G6 O O) O (JLo (Ei i32) [] O .sct G (fun hc=>G6 O O) O ?_)))))
    obtain⟨r41,hr41,h⟩:=Ge h
    refine JLo (BL r41) [63,64] O .sct ⟨Ua,Ua,G⟩ (fun hc=>Gt (args:=[E1 r38.1,Ei i32]) O (Jz r38.1 (i32:Int) r41 (H2 hc hr41)) G1d ⟨O,O,O,O,G⟩) O (JLh (BL (((decide (r38.2=0))&&(!r40))&&r41)) (Qa O O O O) O (Ru (BL (((decide (r38.2=0))&&(!r40))&&r41)) O (JLo (.agg (Gw.cs s)) [] O .sct G (fun hc=>Gi Hq O O O) O (JLo (E0 before) [] O .sct G (fun hc=>G6 O O) O (JLo (E0 after) [] O .sct G (fun hc=>G6 O O) O (JLo (E1 set) [] O .sct G (fun hc=>G6 O O) O (JLo (Ei i32) [] O .sct G (fun hc=>G6 O O) O ?_)))))))
    obtain⟨r42,hr42,h⟩:=Ge h
    refine JLo (BL r42) [68,69,70,71,72] O .sct ⟨Ua,Ua,Ua,Ua,Ua,G⟩ (fun hc=>Gt (args:=[.agg (Gw.cs s),E0 before,E0 after,E1 set,Ei i32]) O (Ged s before after set (i32:Int) r42 (H2 hc hr42)) Q18 ⟨O,O,O,O,O,O,O,O,O,O,G⟩) O (JLh (BL ((((decide (r38.2=0))&&(!r40))&&r41)&&r42)) (Qa O O O O) O (G7 (hK39 (JCc O h (fun h hb=>?_) (fun h hb=>?_)))))
    ·
     refine G3 (Ru (E1 r38.1) O (Ru (E1 r38.1) O (Ru (BL true) O (G7 (ej35 _ _ (r38.1,true) h ⟨(by repeat' constructor),G,rfl⟩)))))
    ·
     refine Gn (ej35 _ _ (s32.1,s32.2) h ⟨(by repeat' constructor),G,rfl⟩)
   ·intro j35 h
    replace h:=app1 hkj35 h
    refine G3 (JLh (G0 ((i32+1:Nat):Int)) (Hu (He hk32 hm41) O O O) O (Ru (G0 ((i32+1:Nat):Int)) O (G7 (e32 _ _ (i32+1) (j35.1,j35.2) (app1 hn32 h) (by omega) ⟨(by repeat' constructor),G,rfl⟩))))
  ·
   have h:=app1 hkx32 (Hp hi32 (H7 hb))
   refine Hr (hK12 (Jr fun hK43=>(Ru (E1 set) O (JLl Gv O O O fun hm78=>(Ru (G0 0) O (G7 (hK43 (Gq ?_))))))))
   obtain⟨b60,kx60,hb60,hkx60,h⟩:=Hx h
   refine Hg (fun i60 (s60:(List Stowed)×Bool)=>each b60 kx60 (List.drop i60 set) i60 s60=some r) (fun i60 s60=>[(1,E2 boxes),(2,E0 before),(3,E0 after),(4,E1 set),(5,Ec s),(11,E0 s60.1),(12,E1 s32.1),(13,G0 s7.2.2.1),(14,BL s60.2),(77,E1 set),(78,Ei set.length),(79,Ei i60)]) (fun i60 s60=>[]) (fun i60=>set.length - i60) 0 (s7.1,s32.2) h ⟨(by repeat' constructor),G,rfl⟩ ?_
   clear h
   intro i60 s60 hi60 K60 e60
   refine Jr fun hK61=>(JLh (BL (decide ((i60:Int) < (set.length:Int)))) (Hz O O O) O (G7 (hK61 (Js fun hK62=>Gk O (fun hb=>?_) (fun hb=>?_)))))
   ·
    have hk60:=Jb hb
    obtain⟨y60,nx60,hy60,hn60,h⟩:=Ho hi60 hk60
    replace h:=Rw hb60 h
    refine Gn (hK62 ?_)
    obtain⟨kj63,hkj63,h⟩:=Rg h
    refine Qg (fun j63:(List Stowed)×Bool=>kj63 j63=some r) (fun j63=>[(1,E2 boxes),(2,E0 before),(3,E0 after),(4,E1 set),(5,Ec s),(11,E0 j63.1),(12,E1 s32.1),(13,G0 s7.2.2.1),(14,BL j63.2),(77,E1 set),(78,Ei set.length),(79,Ei i60)]) (fun j63=>[]) (fun Kj63 ej63=>?_) ?_
    ·
     refine Gq (Jr fun hK64=>(JLh (.dptr [G0 y60]) (H4 (f:=G0) (xs:=set) (y:=y60) O O O Gv hy60 O) O (JLh (G0 y60) (Gf Gc O O O) O (Ru (G0 y60) O (G7 (hK64 (Jr fun hK65=>(JLh (.agg (Gw.cs s)) (Gi Hq O O O) O (Ru (E2 boxes) O (Ru (E0 s60.1) O (Ru (E1 s32.1) O (Ru (G0 y60) O ?_))))))))))))
     obtain⟨r66,hr66,h⟩:=Ge h
     refine JLh (.tup [E0 r66.1,G0 r66.2]) (Gt O (M_stow_Take_w s boxes s60.1 s32.1 y60 r66 hr66) Q17 ⟨O,O,O,O,O,O,O,O,O,O,G⟩) O (Ru (.tup [E0 r66.1,G0 r66.2]) O (JLh (E0 r66.1) (H6 O O O) O (JLh (G0 r66.2) (H6 O O O) O (Ru (E0 r66.1) O (Ru (G0 r66.2) O (G7 (hK65 ?_)))))))
     refine Jr fun hK67=>(Ru (G0 r66.2) O (JLh (BL (decide (r66.2=0))) (Qh O O O) O (Ru (BL (decide (r66.2=0))) O (JLo (E0 r66.1) [] O .sct G (fun hc=>G6 O O) O (JLo (Ei r66.1.length) [95] O .sct ⟨Ua,G⟩ (fun hc=>Z4 (f:=Stowed.av) (xs:=r66.1) Gx O O) O (JLo (E0 s60.1) [] O .sct G (fun hc=>G6 O O) O (JLo (Ei s60.1.length) [97] O .sct ⟨Ua,G⟩ (fun hc=>Z4 (f:=Stowed.av) (xs:=s60.1) Gx O O) O (JLo (BL (decide ((r66.1.length:Int) < (s60.1.length:Int)))) [96,98] O .sct ⟨Ua,Ua,G⟩ (fun hc=>Hz O O O) O (JLh (BL ((decide (r66.2=0))&&(decide ((r66.1.length:Int) < (s60.1.length:Int))))) (Qa O O O O) O (G7 (hK67 (JCc O h (fun h hb=>?_) (fun h hb=>?_)))))))))))))
     ·
      refine G3 (Ru (E0 r66.1) O (Ru (E0 r66.1) O (Ru (BL true) O (G7 (ej63 _ _ (r66.1,true) h ⟨(by repeat' constructor),G,rfl⟩)))))
     ·
      refine Gn (ej63 _ _ (s60.1,s60.2) h ⟨(by repeat' constructor),G,rfl⟩)
    ·intro j63 h
     replace h:=app1 hkj63 h
     refine G3 (JLh (G0 ((i60+1:Nat):Int)) (Hu (He hk60 hm78) O O O) O (Ru (G0 ((i60+1:Nat):Int)) O (G7 (e60 _ _ (i60+1) (j63.1,j63.2) (app1 hn60 h) (by omega) ⟨(by repeat' constructor),G,rfl⟩))))
   ·
    have h:=app1 hkx60 (Hp hi60 (H7 hb))
    refine Hr (hK10 (G3 (Ru (G0 s7.2.2.1) O ?_)))
    obtain⟨v68,hv68,h⟩:=J7 h
    refine JLh (G0 v68) (Hu hv68 O O O) O (Ru (G0 v68) O (G7 (e7 _ _ m7 (s60.1,s32.1,v68,s60.2) (app1 hn7 h) (by omega) ⟨(by repeat' constructor),G,rfl⟩)))
 ·
  refine Hr (hK5 (Js fun hK69=>Jr fun hK70=>(Ru (G0 0) O (G7 (hK70 (Gq ?_))))))
  obtain⟨hx71,h⟩:=Jj h
  obtain⟨b71,kx71,hb71,hkx71,h⟩:=Gf3 h
  refine Hg (fun i71 (s71:(List Stowed)×(List Int))=>upto b71 kx71 ((2:Int).toNat - i71) i71 s71=some r) (fun i71 s71=>[(1,E2 boxes),(3,E0 after),(4,E1 set),(5,Ec s),(11,E0 s71.1),(12,E1 s71.2),(22,Ei i71)]) (fun i71 s71=>[]) (fun i71=>(2:Int).toNat - i71) 0 (s7.1,s7.2.1) h ⟨(by repeat' constructor),G,rfl⟩ ?_
  clear h
  intro i71 s71 hi71 K71 e71
  refine Js fun hK72=>Jr fun hK73=>(Ru (Ei i71) O (JLh (BL (decide ((i71:Int) < 2))) (Hz O O O) O (G7 (hK73 (Gk O (fun hb=>?_) (fun hb=>?_))))))
  ·
   have hk71:=Ga7 hb
   obtain⟨nx71,hn71,h⟩:=Ga3 hi71 hk71
   replace h:=app3 hb71 h
   refine Gn (hK72 (Js fun hK74=>Gq (Js fun hK75=>Jr fun hK76=>(JLh (.dptr [E4 s.Covers,G0 s.Light.Kilos,G0 s.Light.X,G0 s.Light.Y,G0 s.Light.Z,E5 s.Rows,E6 s.Frames,E7 s.Tanks,G0 s.G2.Tolerance,G0 s.G2.Trim,G0 s.G2.List_,G0 s.G2.Stability]) (Ga Q5 O O O) O (JLh (E4 s.Covers) (Gf Qo O O O) O (JLl Q8 O O O fun hm109=>(Ru (G0 0) O (G7 (hK76 (Gq ?_))))))))))
   obtain⟨b93,kx93,hb93,hkx93,h⟩:=Hx h
   refine Hg (fun i93 (s93:(List Int))=>each b93 kx93 (List.drop i93 s.Covers) i93 s93=some r) (fun i93 s93=>[(1,E2 boxes),(3,E0 after),(4,E1 set),(5,Ec s),(11,E0 s71.1),(12,E1 s93),(22,Ei i71),(109,Ei s.Covers.length),(110,Ei i93)]) (fun i93 s93=>[]) (fun i93=>s.Covers.length - i93) 0 s71.2 h ⟨(by repeat' constructor),G,rfl⟩ ?_
   clear h
   intro i93 s93 hi93 K93 e93
   refine Jr fun hK94=>(JLh (BL (decide ((i93:Int) < (s.Covers.length:Int)))) (Hz O O O) O (G7 (hK94 (Js fun hK95=>Gk O (fun hb=>?_) (fun hb=>?_)))))
   ·
    have hk93:=Jb hb
    obtain⟨y93,nx93,hy93,hn93,h⟩:=Ho hi93 hk93
    replace h:=Rw hb93 h
    refine Gn (hK95 ?_)
    obtain⟨kj96,hkj96,h⟩:=Rg h
    refine Qg (fun j96:(List Int)=>kj96 j96=some r) (fun j96=>[(1,E2 boxes),(3,E0 after),(4,E1 set),(5,Ec s),(11,E0 s71.1),(12,E1 j96),(22,Ei i71),(109,Ei s.Covers.length),(110,Ei i93)]) (fun j96=>[]) (fun Kj96 ej96=>?_) ?_
    ·
     refine Gq (Jr fun hK97=>(Ru (Ei i93) O (Ru (Ei i93) O (G7 (hK97 (Jr fun hK98=>(JLh (.agg (Gw.cs s)) (Gi Hq O O O) O (Ru (E2 boxes) O (Ru (E0 s71.1) O (Ru (E1 s93) O (Ru (Ei i93) O ?_)))))))))))
     obtain⟨r99,hr99,h⟩:=Ge h
     refine JLh (.tup [E1 r99.1,G0 r99.2]) (Gt O (J97 F s boxes s71.1 s93 (i93:Int) r99 hr99) Q16 ⟨O,O,O,O,O,O,O,O,O,O,G⟩) O (Ru (.tup [E1 r99.1,G0 r99.2]) O (JLh (E1 r99.1) (H6 O O O) O (JLh (G0 r99.2) (H6 O O O) O (Ru (E1 r99.1) O (Ru (G0 r99.2) O (G7 (hK98 ?_)))))))
     refine Jr fun hK100=>(Ru (Ei i71) O (JLh (BL (decide ((i71:Int)=1))) (Qh O O O) O (Ru (BL (decide ((i71:Int)=1))) O (JLo (G0 r99.2) [] O .sct G (fun hc=>G6 O O) O (JLo (BL (decide (r99.2=0))) [125] O .sct ⟨Ua,G⟩ (fun hc=>Qh O O O) O (JLh (BL ((decide ((i71:Int)=1))&&(decide (r99.2=0)))) (Qa O O O O) O (Ru (BL ((decide ((i71:Int)=1))&&(decide (r99.2=0)))) O (JLo (E1 s93) [] O .sct G (fun hc=>G6 O O) O (JLo (Ei i93) [] O .sct G (fun hc=>G6 O O) O ?_)))))))))
     obtain⟨r101,hr101,h⟩:=Ge h
     refine JLo (BL r101) [129,130] O .sct ⟨Ua,Ua,G⟩ (fun hc=>Gt (args:=[E1 s93,Ei i93]) O (Jz s93 (i93:Int) r101 (H2 hc hr101)) G1d ⟨O,O,O,O,G⟩) O (JLh (BL (((decide ((i71:Int)=1))&&(decide (r99.2=0)))&&r101)) (Qa O O O O) O (Ru (BL (((decide ((i71:Int)=1))&&(decide (r99.2=0)))&&r101)) O (JLo (E1 r99.1) [] O .sct G (fun hc=>G6 O O) O (JLo (Ei i93) [] O .sct G (fun hc=>G6 O O) O ?_))))
     obtain⟨r102,hr102,h⟩:=Ge h
     refine JLo (BL r102) [134,135] O .sct ⟨Ua,Ua,G⟩ (fun hc=>Gt (args:=[E1 r99.1,Ei i93]) O (Jz r99.1 (i93:Int) r102 (H2 hc hr102)) G1d ⟨O,O,O,O,G⟩) O (JLo (BL (!r102)) [136] O .sct ⟨Ua,G⟩ (fun hc=>Rj (b:=r102) O O) O (JLh (BL ((((decide ((i71:Int)=1))&&(decide (r99.2=0)))&&r101)&&(!r102))) (Qa O O O O) O (G7 (hK100 (JCc O h (fun h hb=>?_) (fun h hb=>?_))))))
     ·
      refine G3 (Ru (E1 r99.1) O (Ru (E1 r99.1) O (G7 (ej96 _ _ r99.1 h ⟨(by repeat' constructor),G,rfl⟩))))
     ·
      refine Gn (ej96 _ _ s93 h ⟨(by repeat' constructor),G,rfl⟩)
    ·intro j96 h
     replace h:=app1 hkj96 h
     refine G3 (JLh (G0 ((i93+1:Nat):Int)) (Hu (He hk93 hm109) O O O) O (Ru (G0 ((i93+1:Nat):Int)) O (G7 (e93 _ _ (i93+1) j96 (app1 hn93 h) (by omega) ⟨(by repeat' constructor),G,rfl⟩))))
   ·
    have h:=app1 hkx93 (Hp hi93 (H7 hb))
    refine Hr (hK75 (Jr fun hK103=>(Ru (G0 0) O (G7 (hK103 (Gq ?_))))))
    obtain⟨hx104,h⟩:=Jj h
    obtain⟨b104,kx104,hb104,hkx104,h⟩:=Gf3 h
    refine Hg (fun i104 (s104:(List Stowed))=>upto b104 kx104 ((10:Int).toNat - i104) i104 s104=some r) (fun i104 s104=>[(1,E2 boxes),(3,E0 after),(4,E1 set),(5,Ec s),(11,E0 s104),(12,E1 s93),(22,Ei i71),(26,Ei i104)]) (fun i104 s104=>[]) (fun i104=>(10:Int).toNat - i104) 0 s71.1 h ⟨(by repeat' constructor),G,rfl⟩ ?_
    clear h
    intro i104 s104 hi104 K104 e104
    refine Js fun hK105=>Jr fun hK106=>(Ru (Ei i104) O (JLh (BL (decide ((i104:Int) < 10))) (Hz O O O) O (G7 (hK106 (Gk O (fun hb=>?_) (fun hb=>?_))))))
    ·
     have hk104:=Ga7 hb
     obtain⟨nx104,hn104,h⟩:=Ga3 hi104 hk104
     replace h:=app3 hb104 h
     refine Gn (hK105 (Js fun hK107=>Gq (Jr fun hK108=>(Ru (E0 after) O (JLl Gx O O O fun hm146=>(Ru (G0 0) O (G7 (hK108 (Gq ?_)))))))))
     obtain⟨b139,kx139,hb139,hkx139,h⟩:=Hx h
     refine Hg (fun i139 (s139:(List Stowed))=>each b139 kx139 (List.drop i139 after) i139 s139=some r) (fun i139 s139=>[(1,E2 boxes),(3,E0 after),(4,E1 set),(5,Ec s),(11,E0 s139),(12,E1 s93),(22,Ei i71),(26,Ei i104),(145,E0 after),(146,Ei after.length),(147,Ei i139)]) (fun i139 s139=>[]) (fun i139=>after.length - i139) 0 s104 h ⟨(by repeat' constructor),G,rfl⟩ ?_
     clear h
     intro i139 s139 hi139 K139 e139
     refine Jr fun hK140=>(JLh (BL (decide ((i139:Int) < (after.length:Int)))) (Hz O O O) O (G7 (hK140 (Js fun hK141=>Gk O (fun hb=>?_) (fun hb=>?_)))))
     ·
      have hk139:=Jb hb
      obtain⟨y139,nx139,hy139,hn139,h⟩:=Ho hi139 hk139
      replace h:=Rw hb139 h
      refine Gn (hK141 ?_)
      obtain⟨kj142,hkj142,h⟩:=Rg h
      refine Qg (fun j142:(List Stowed)=>kj142 j142=some r) (fun j142=>[(1,E2 boxes),(3,E0 after),(4,E1 set),(5,Ec s),(11,E0 j142),(12,E1 s93),(22,Ei i71),(26,Ei i104),(145,E0 after),(146,Ei after.length),(147,Ei i139)]) (fun j142=>[]) (fun Kj142 ej142=>?_) ?_
      ·
       refine Gq (Jr fun hK143=>(JLh (Ed y139) (H4 (f:=Stowed.av) (xs:=after) (y:=y139) O O O Gx hy139 O) O (JLh (.agg (Stowed.cs y139)) (Gi Q0 O O O) O (JLh (.ptr 1029 0) (Hn 1029 4 Je O O) O (Hs (u:=.junk) (Ha (u:=.agg (Stowed.cs y139)) (ds:=[G0 y139.Gd,G0 y139.Slot.G4,G0 y139.Slot.Tier,U8 y139.Slot.Half]) Qv O O O O O O O O) (G7 (hK143 ?_)))))))
       refine Gp [(1,E2 boxes),(3,E0 after),(4,E1 set),(5,Ec s),(11,E0 s139),(12,E1 s93),(22,Ei i71),(26,Ei i104),(28,Ed y139),(145,E0 after),(146,Ei after.length),(147,Ei i139)] [] 1029 rfl rfl rfl G rfl (by repeat' (first | exact .ptr | constructor)) ?_
       refine Jr fun hK144=>(JLh (.dptr ((Stowed.cs y139).drop 1)) (Ga J1 O O O) O (JLh (.dptr [G0 y139.Slot.Tier,U8 y139.Slot.Half]) (Ga Ry O O O) O (JLh (G0 y139.Slot.Tier) (Gf Gc O O O) O (Ru (Ei i104) O (JLh (BL (decide (y139.Slot.Tier=(i104:Int)))) (Qh O O O) O (Ru (BL (decide (y139.Slot.Tier=(i104:Int)))) O (JLo (E1 set) [] O .sct G (fun hc=>G6 O O) O (JLo (Ed y139) [] O .sct G (fun hc=>Ga Hv O O O) O (JLo (G0 y139.Gd) [158] O .sct ⟨Ua,G⟩ (fun hc=>Gf Gc O O O) O ?_)))))))))
       obtain⟨r145,hr145,h⟩:=Ge h
       refine JLo (BL r145) [157,159] O .sct ⟨Ua,Ua,G⟩ (fun hc=>Gt (args:=[E1 set,G0 y139.Gd]) O (Jz set y139.Gd r145 (H2 hc hr145)) G1d ⟨O,O,O,O,G⟩) O (JLh (BL ((decide (y139.Slot.Tier=(i104:Int)))&&r145)) (Qa O O O O) O (Ru (BL ((decide (y139.Slot.Tier=(i104:Int)))&&r145)) O (JLo (Ec s) [] O .sct G (fun hc=>Ga J2 O O O) O (JLo (E3 s.Columns) [163] O .sct ⟨Ua,G⟩ (fun hc=>Gf Ja O O O) O (JLo (.dptr ((Stowed.cs y139).drop 1)) [] O .sct G (fun hc=>Ga J1 O O O) O (JLo (.dptr ((Stowed.cs y139).drop 1)) [165] O .sct ⟨Ua,G⟩ (fun hc=>Ga Jf O O O) O (JLo (G0 y139.Slot.G4) [166] O .sct ⟨Ua,G⟩ (fun hc=>Gf Gc O O O) O ?_)))))))
       obtain⟨y146,hy146,h⟩:=Ge h
       refine JLo (Ef y146) [164,167] O .sct ⟨Ua,Ua,G⟩ (fun hc=>(match Qq (H2 hc hy146) with | ⟨_,hm_,hy_⟩=>H4 (f:=G4.av) (xs:=s.Columns) (y:=y146) O O O J5 hy_ hm_)) O (JLo (.dptr ((G4.cs y146).drop 2)) [168] O .sct ⟨Ua,G⟩ (fun hc=>Ga Rf O O O) O (JLo (BL y146.Deck) [169] O .sct ⟨Ua,G⟩ (fun hc=>Gf Q9 O O O) O (JLo (Ei i71) [] O .sct G (fun hc=>G6 O O) O (JLo (BL (decide ((i71:Int)=1))) [171] O .sct ⟨Ua,G⟩ (fun hc=>Qh O O O) O (JLo (BL (y146.Deck==(decide ((i71:Int)=1)))) [170,172] O .sct ⟨Ua,Ua,G⟩ (fun hc=>Hed G91 O O O) O (JLh (BL (((decide (y139.Slot.Tier=(i104:Int)))&&r145)&&(y146.Deck==(decide ((i71:Int)=1))))) (Qa O O O O) O (G7 (hK144 (JCc O h (fun h hb=>?_) (fun h hb=>?_))))))))))
       ·
        refine Jr fun hK147=>(JLh (.agg (Gw.cs s)) (Gi Hq O O O) O (Ru (E2 boxes) O (Ru (E0 s139) O (Ru (E1 s93) O (JLh (.agg (Stowed.cs y139)) (Gi Q0 O O O) O ?_)))))
        obtain⟨r148,hr148,h⟩:=Ge h
        refine JLh (.tup [E0 r148.1,G0 r148.2]) (Gt O (M_stow_Put_w F s boxes s139 s93 y139 r148 hr148) Q15 ⟨O,O,O,O,O,O,O,O,O,O,G⟩) O (Ru (.tup [E0 r148.1,G0 r148.2]) O (JLh (E0 r148.1) (H6 O O O) O (JLh (G0 r148.2) (H6 O O O) O (Ru (E0 r148.1) O (Ru (G0 r148.2) O (G7 (hK147 (Js fun hK149=>Jr fun hK150=>(Ru (G0 r148.2) O (JLh (BL (decide (r148.2≠0))) (G50 O O O) O (G7 (hK150 (JCc O h (fun h hb=>?_) (fun h hb=>?_))))))))))))))
        ·
         refine Jr fun hK151=>(Ru (BL false) O (G7 (hK151 (Gr (fin1 BL h)))))
        ·
         refine Gn (hK149 (G3 (Ru (E0 r148.1) O (Ru (E0 r148.1) O (G7 (ej142 _ _ r148.1 h ⟨(by repeat' constructor),G,rfl⟩))))))
       ·
        refine Gn (ej142 _ _ s139 h ⟨(by repeat' constructor),G,rfl⟩)
      ·intro j142 h
       replace h:=app1 hkj142 h
       refine G3 (JLh (G0 ((i139+1:Nat):Int)) (Hu (He hk139 hm146) O O O) O (Ru (G0 ((i139+1:Nat):Int)) O (G7 (e139 _ _ (i139+1) j142 (app1 hn139 h) (by omega) ⟨(by repeat' constructor),G,rfl⟩))))
     ·
      have h:=app1 hkx139 (Hp hi139 (H7 hb))
      refine Hr (hK107 (G3 (Ru (Ei i104) O (JLh (G0 ((i104+1:Nat):Int)) (Hu (He hk104 (G6c hx104)) O O O) O (Ru (G0 ((i104+1:Nat):Int)) O (G7 (e104 _ _ (i104+1) s139 (app1 hn104 h) (by omega) ⟨(by repeat' constructor),G,rfl⟩)))))))
    ·
     have h:=app1 hkx104 (Ga4 hi104 (Zq hb))
     refine Hr (hK74 (G3 (Ru (Ei i71) O (JLh (G0 ((i71+1:Nat):Int)) (Hu (He hk71 (G6c hx71)) O O O) O (Ru (G0 ((i71+1:Nat):Int)) O (G7 (e71 _ _ (i71+1) (s104,s93) (app1 hn71 h) (by omega) ⟨(by repeat' constructor),G,rfl⟩)))))))
  ·
   have h:=app1 hkx71 (Ga4 hi71 (Zq hb))
   refine Hr (hK69 (Jr fun hK152=>(Ru (E0 s71.1) O (Ru (E0 after) O ?_))))
   obtain⟨r153,hr153,h⟩:=Ge h
   refine JLh (BL r153) (Gt O (Gbb s71.1 after r153 hr153) Q14 ⟨O,O,O,O,G⟩) O (Ru (BL r153) O (G7 (hK152 (Gr (fin1 BL h)))))

def G05 :Option Gw:=
 some (Gw.mk ([(G4.mk 0 0 false 2 0 0 0 0 [] 0 0 0),(G4.mk 0 1 false 2 0 0 0 0 [] 0 0 0),(G4.mk 0 0 true 3 0 0 0 0 [] 0 0 0),(G4.mk 0 1 true 3 0 0 0 0 [] 0 0 0),(G4.mk 1 1 true 4 0 0 0 0 [] 0 0 0)]) ([(G9.mk 0 [0,1])]) (Light.mk 0 0 0 0) [] [] [] (G2.mk 0 0 0 0))
theorem Ge4  (r:Gw) (h:G05 =some r):Pure Ej 32 [] (·=.agg (Gw.cs r)):=by
 unfold G05 at h
 refine H1 [.cell 0 35] Tryz.func32 O O (Jr fun hK1=>(JLh (.ptr 1089 0) (G16 1089 [E3 ([]:List G4),E4 ([]:List G9),G0 0,G0 0,G0 0,G0 0,E5 ([]:List Row),E6 ([]:List Frame),E7 ([]:List Gj),G0 0,G0 0,G0 0,G0 0] [.slice none 0 0,.slice none 0 0,.int .i64 0,.int .i64 0,.int .i64 0,.int .i64 0,.slice none 0 0,.slice none 0 0,.slice none 0 0,.int .i64 0,.int .i64 0,.int .i64 0,.int .i64 0] H24 ⟨.inr ⟨_,O,O⟩,.inr ⟨_,O,O⟩,.inl O,.inl O,.inl O,.inl O,.inr ⟨_,O,O⟩,.inr ⟨_,O,O⟩,.inr ⟨_,O,O⟩,.inl O,.inl O,.inl O,.inl O,G⟩ O O) O (G7 (hK1 ?_))))
 refine Jr fun hK2=>(JLh (.agg [G0 0,G0 0,BL false,G0 2,G0 0,G0 0,G0 0,G0 0,E1 ([]:List Int),G0 0,G0 0,G0 0]) (J8 (cs:=[G0 0,G0 0,BL false,G0 2,G0 0,G0 0,G0 0,G0 0,E1 ([]:List Int),G0 0,G0 0,G0 0]) [(0,1),(1,1),(2,1),(3,1),(4,1),(5,1),(6,1),(7,1),(8,1),(9,1),(10,1),(11,1)] [G0 0,G0 0,BL false,G0 0,G0 0,G0 0,G0 0,G0 0,E1 ([]:List Int),G0 0,G0 0,G0 0] [.int .i64 0,.int .i64 0,.bool false,.int .i64 0,.int .i64 0,.int .i64 0,.int .i64 0,.int .i64 0,.slice none 0 0,.int .i64 0,.int .i64 0,.int .i64 0] G1c G65 ⟨.inl O,.inl O,.inl O,.inl O,.inl O,.inl O,.inl O,.inl O,.inr ⟨_,O,O⟩,.inl O,.inl O,.inl O,G⟩ O O) O (JLh (.agg [G0 0,G0 1,BL false,G0 2,G0 0,G0 0,G0 0,G0 0,E1 ([]:List Int),G0 0,G0 0,G0 0]) (J8 (cs:=[G0 0,G0 1,BL false,G0 2,G0 0,G0 0,G0 0,G0 0,E1 ([]:List Int),G0 0,G0 0,G0 0]) [(0,1),(1,1),(2,1),(3,1),(4,1),(5,1),(6,1),(7,1),(8,1),(9,1),(10,1),(11,1)] [G0 0,G0 0,BL false,G0 0,G0 0,G0 0,G0 0,G0 0,E1 ([]:List Int),G0 0,G0 0,G0 0] [.int .i64 0,.int .i64 0,.bool false,.int .i64 0,.int .i64 0,.int .i64 0,.int .i64 0,.int .i64 0,.slice none 0 0,.int .i64 0,.int .i64 0,.int .i64 0] G1c G65 ⟨.inl O,.inl O,.inl O,.inl O,.inl O,.inl O,.inl O,.inl O,.inr ⟨_,O,O⟩,.inl O,.inl O,.inl O,G⟩ O O) O (JLh (.agg [G0 0,G0 0,BL true,G0 3,G0 0,G0 0,G0 0,G0 0,E1 ([]:List Int),G0 0,G0 0,G0 0]) (J8 (cs:=[G0 0,G0 0,BL true,G0 3,G0 0,G0 0,G0 0,G0 0,E1 ([]:List Int),G0 0,G0 0,G0 0]) [(0,1),(1,1),(2,1),(3,1),(4,1),(5,1),(6,1),(7,1),(8,1),(9,1),(10,1),(11,1)] [G0 0,G0 0,BL false,G0 0,G0 0,G0 0,G0 0,G0 0,E1 ([]:List Int),G0 0,G0 0,G0 0] [.int .i64 0,.int .i64 0,.bool false,.int .i64 0,.int .i64 0,.int .i64 0,.int .i64 0,.int .i64 0,.slice none 0 0,.int .i64 0,.int .i64 0,.int .i64 0] G1c G65 ⟨.inl O,.inl O,.inl O,.inl O,.inl O,.inl O,.inl O,.inl O,.inr ⟨_,O,O⟩,.inl O,.inl O,.inl O,G⟩ O O) O (JLh (.agg [G0 0,G0 1,BL true,G0 3,G0 0,G0 0,G0 0,G0 0,E1 ([]:List Int),G0 0,G0 0,G0 0]) (J8 (cs:=[G0 0,G0 1,BL true,G0 3,G0 0,G0 0,G0 0,G0 0,E1 ([]:List Int),G0 0,G0 0,G0 0]) [(0,1),(1,1),(2,1),(3,1),(4,1),(5,1),(6,1),(7,1),(8,1),(9,1),(10,1),(11,1)] [G0 0,G0 0,BL false,G0 0,G0 0,G0 0,G0 0,G0 0,E1 ([]:List Int),G0 0,G0 0,G0 0] [.int .i64 0,.int .i64 0,.bool false,.int .i64 0,.int .i64 0,.int .i64 0,.int .i64 0,.int .i64 0,.slice none 0 0,.int .i64 0,.int .i64 0,.int .i64 0] G1c G65 ⟨.inl O,.inl O,.inl O,.inl O,.inl O,.inl O,.inl O,.inl O,.inr ⟨_,O,O⟩,.inl O,.inl O,.inl O,G⟩ O O) O (JLh (.agg [G0 1,G0 1,BL true,G0 4,G0 0,G0 0,G0 0,G0 0,E1 ([]:List Int),G0 0,G0 0,G0 0]) (J8 (cs:=[G0 1,G0 1,BL true,G0 4,G0 0,G0 0,G0 0,G0 0,E1 ([]:List Int),G0 0,G0 0,G0 0]) [(0,1),(1,1),(2,1),(3,1),(4,1),(5,1),(6,1),(7,1),(8,1),(9,1),(10,1),(11,1)] [G0 0,G0 0,BL false,G0 0,G0 0,G0 0,G0 0,G0 0,E1 ([]:List Int),G0 0,G0 0,G0 0] [.int .i64 0,.int .i64 0,.bool false,.int .i64 0,.int .i64 0,.int .i64 0,.int .i64 0,.int .i64 0,.slice none 0 0,.int .i64 0,.int .i64 0,.int .i64 0] G1c G65 ⟨.inl O,.inl O,.inl O,.inl O,.inl O,.inl O,.inl O,.inl O,.inr ⟨_,O,O⟩,.inl O,.inl O,.inl O,G⟩ O O) O (JLh (E3 ([(G4.mk 0 0 false 2 0 0 0 0 [] 0 0 0),(G4.mk 0 1 false 2 0 0 0 0 [] 0 0 0),(G4.mk 0 0 true 3 0 0 0 0 [] 0 0 0),(G4.mk 0 1 true 3 0 0 0 0 [] 0 0 0),(G4.mk 1 1 true 4 0 0 0 0 [] 0 0 0)])) (H9 (xs:=[.agg [G0 0,G0 0,BL false,G0 2,G0 0,G0 0,G0 0,G0 0,E1 ([]:List Int),G0 0,G0 0,G0 0],.agg [G0 0,G0 1,BL false,G0 2,G0 0,G0 0,G0 0,G0 0,E1 ([]:List Int),G0 0,G0 0,G0 0],.agg [G0 0,G0 0,BL true,G0 3,G0 0,G0 0,G0 0,G0 0,E1 ([]:List Int),G0 0,G0 0,G0 0],.agg [G0 0,G0 1,BL true,G0 3,G0 0,G0 0,G0 0,G0 0,E1 ([]:List Int),G0 0,G0 0,G0 0],.agg [G0 1,G0 1,BL true,G0 4,G0 0,G0 0,G0 0,G0 0,E1 ([]:List Int),G0 0,G0 0,G0 0]]) O ⟨O,O,O,O,O,O,O,O,O,O,G⟩ J5 G17 O O O O) O (JLh (E1 [0,1]) (H9 (xs:=[G0 0,G0 1]) O ⟨O,O,O,O,G⟩ Gv Y0 O O O O) O (JLh (.agg [G0 0,E1 [0,1]]) (J8 (cs:=[G0 0,E1 [0,1]]) [(0,1),(1,1)] [G0 0,E1 ([]:List Int)] [.int .i64 0,.slice none 0 0] H27 Ha3 ⟨.inl O,.inr ⟨_,O,O⟩,G⟩ O O) O (JLh (E4 ([(G9.mk 0 [0,1])])) (H9 (xs:=[.agg [G0 0,E1 [0,1]]]) O ⟨O,O,G⟩ Q8 Ga5 O O O O) O (JLh (.agg [E3 ([(G4.mk 0 0 false 2 0 0 0 0 [] 0 0 0),(G4.mk 0 1 false 2 0 0 0 0 [] 0 0 0),(G4.mk 0 0 true 3 0 0 0 0 [] 0 0 0),(G4.mk 0 1 true 3 0 0 0 0 [] 0 0 0),(G4.mk 1 1 true 4 0 0 0 0 [] 0 0 0)]),E4 ([(G9.mk 0 [0,1])]),G0 0,G0 0,G0 0,G0 0,E5 ([]:List Row),E6 ([]:List Frame),E7 ([]:List Gj),G0 0,G0 0,G0 0,G0 0]) (J8 (cs:=[E3 ([(G4.mk 0 0 false 2 0 0 0 0 [] 0 0 0),(G4.mk 0 1 false 2 0 0 0 0 [] 0 0 0),(G4.mk 0 0 true 3 0 0 0 0 [] 0 0 0),(G4.mk 0 1 true 3 0 0 0 0 [] 0 0 0),(G4.mk 1 1 true 4 0 0 0 0 [] 0 0 0)]),E4 ([(G9.mk 0 [0,1])]),G0 0,G0 0,G0 0,G0 0,E5 ([]:List Row),E6 ([]:List Frame),E7 ([]:List Gj),G0 0,G0 0,G0 0,G0 0]) [(0,1),(1,1),(2,4),(6,1),(7,1),(8,1),(9,4)] [E3 ([]:List G4),E4 ([]:List G9),G0 0,G0 0,G0 0,G0 0,E5 ([]:List Row),E6 ([]:List Frame),E7 ([]:List Gj),G0 0,G0 0,G0 0,G0 0] [.slice none 0 0,.slice none 0 0,.int .i64 0,.int .i64 0,.int .i64 0,.int .i64 0,.slice none 0 0,.slice none 0 0,.slice none 0 0,.int .i64 0,.int .i64 0,.int .i64 0,.int .i64 0] Jc8 H24 ⟨.inr ⟨_,O,O⟩,.inr ⟨_,O,O⟩,.inl O,.inl O,.inl O,.inl O,.inr ⟨_,O,O⟩,.inr ⟨_,O,O⟩,.inr ⟨_,O,O⟩,.inl O,.inl O,.inl O,.inl O,G⟩ O O) O (Hs (u:=.junk) (Ha (u:=.agg [E3 ([(G4.mk 0 0 false 2 0 0 0 0 [] 0 0 0),(G4.mk 0 1 false 2 0 0 0 0 [] 0 0 0),(G4.mk 0 0 true 3 0 0 0 0 [] 0 0 0),(G4.mk 0 1 true 3 0 0 0 0 [] 0 0 0),(G4.mk 1 1 true 4 0 0 0 0 [] 0 0 0)]),E4 ([(G9.mk 0 [0,1])]),G0 0,G0 0,G0 0,G0 0,E5 ([]:List Row),E6 ([]:List Frame),E7 ([]:List Gj),G0 0,G0 0,G0 0,G0 0]) (ds:=[E3 ([(G4.mk 0 0 false 2 0 0 0 0 [] 0 0 0),(G4.mk 0 1 false 2 0 0 0 0 [] 0 0 0),(G4.mk 0 0 true 3 0 0 0 0 [] 0 0 0),(G4.mk 0 1 true 3 0 0 0 0 [] 0 0 0),(G4.mk 1 1 true 4 0 0 0 0 [] 0 0 0)]),E4 ([(G9.mk 0 [0,1])]),G0 0,G0 0,G0 0,G0 0,E5 ([]:List Row),E6 ([]:List Frame),E7 ([]:List Gj),G0 0,G0 0,G0 0,G0 0]) H25 O O O O O O O O) (G7 (hK2 ?_)))))))))))))
 refine Gr (⟨[.agg [E3 ([(G4.mk 0 0 false 2 0 0 0 0 [] 0 0 0),(G4.mk 0 1 false 2 0 0 0 0 [] 0 0 0),(G4.mk 0 0 true 3 0 0 0 0 [] 0 0 0),(G4.mk 0 1 true 3 0 0 0 0 [] 0 0 0),(G4.mk 1 1 true 4 0 0 0 0 [] 0 0 0)]),E4 ([(G9.mk 0 [0,1])]),G0 0,G0 0,G0 0,G0 0,E5 ([]:List Row),E6 ([]:List Frame),E7 ([]:List Gj),G0 0,G0 0,G0 0,G0 0]],[],G,O,⟨⟨_,⟨_,_,_,_,O,O,O,.inl ⟨Hq,O⟩⟩,.conv (.same O)⟩,G⟩,O,congrArg (fun r:Gw=>(.agg (Gw.cs r):AV)) (Option.some.inj h)⟩)

def Jd (box:Int) (column:Int) (tier:Int):Option Stowed:=
 some (Stowed.mk box (Slot.mk column tier 0))
theorem Jg (box:Int) (column:Int) (tier:Int) (r:Stowed) (h:Jd box column tier=some r):Pure Ej 33 [G0 box,G0 column,G0 tier] (·=.agg (Stowed.cs r)):=by
 unfold Jd at h
 refine H1 [.cell 6 80] Tryz.func33 O O (Jr fun hK1=>(JLh (.ptr 1090 0) (G16 1090 [G0 0,G0 0,G0 0,U8 0] [.int .i64 0,.int .i64 0,.int .i64 0,.int .u8 0] H23 ⟨.inl O,.inl O,.inl O,.inl O,G⟩ O O) O (G7 (hK1 ?_))))
 refine Jr fun hK2=>(Ru (G0 box) O (Ru (G0 column) O (Ru (G0 tier) O (JLh (.agg [G0 column,G0 tier,U8 0]) (J8 (cs:=[G0 column,G0 tier,U8 0]) [(0,1),(1,1),(2,1)] [G0 0,G0 0,U8 0] [.int .i64 0,.int .i64 0,.int .u8 0] Gc2 Gce ⟨.inl O,.inl O,.inl O,G⟩ O O) O (JLh (.agg [G0 box,G0 column,G0 tier,U8 0]) (J8 (cs:=[G0 box,G0 column,G0 tier,U8 0]) [(0,1),(1,3)] [G0 0,G0 0,G0 0,U8 0] [.int .i64 0,.int .i64 0,.int .i64 0,.int .u8 0] H26 H23 ⟨.inl O,.inl O,.inl O,.inl O,G⟩ O O) O (Hs (u:=.junk) (Ha (u:=.agg [G0 box,G0 column,G0 tier,U8 0]) (ds:=[G0 box,G0 column,G0 tier,U8 0]) Qv O O O O O O O O) (G7 (hK2 (Gr ?_)))))))))
 exact⟨[.agg [G0 box,G0 column,G0 tier,U8 0]],[],G,O,⟨⟨_,⟨_,_,_,_,O,O,O,.inl ⟨Q0,O⟩⟩,.conv (.same O)⟩,G⟩,O,congrArg (fun r:Stowed=>(.agg (Stowed.cs r):AV)) (Option.some.inj h)⟩

def H42 (F:Nat) (s:Gw) (boxes:List Gd) (calls:Int) (p:G2f):Option (Int×Int):=
 bnd (Zj F s boxes calls p) fun r3=>
 each (fun y19 i19 (s19:Int) nx19=>
  G0d (s19+(y19.length:Int)) fun v24=>
  nx19 v24)
 (fun(s19:Int)=>
  some (s19,r3.2)) r3.1 0 0
theorem Ja0 (F:Nat) (s:Gw) (boxes:List Gd) (calls:Int) (p:G2f) (r:Int×Int) (h:H42 F s boxes calls p=some r):Pure Ej 34 [.agg (Gw.cs s),E2 boxes,G0 calls,.agg [LS 1 (E0) p.States,LS 1 (E1) p.Water]] (·=.tup [G0 r.1,G0 r.2]):=by
 unfold H42 at h
 refine H1 [.tmp 8,.tmp 9] Tryz.func34 O O (Jr fun hK1=>(JLh (.ptr 1091 0) (Jm (cs:=(Gw.cs s)) 1091 O O O O O) O (JLh (.ptr 1092 0) (Jm (cs:=[LS 1 (E0) p.States,LS 1 (E1) p.Water]) 1092 O O O O O) O (Ru (G0 0) O (Ru (G0 0) O (G7 (hK1 ?_)))))))
 refine Gp [(1,E2 boxes),(2,G0 calls),(4,Ec s),(7,.ptr 1092 0)] [(1092,.box 41 [LS 1 (E0) p.States,LS 1 (E1) p.Water])] 1091 rfl rfl rfl ⟨⟨_,rfl,.boxEq rfl rfl⟩,G⟩ rfl (by repeat' (first | exact .ptr | constructor)) ?_
 refine Gp [(1,E2 boxes),(2,G0 calls),(4,Ec s),(7,.dptr [LS 1 (E0) p.States,LS 1 (E1) p.Water])] [] 1092 rfl rfl rfl G rfl (by repeat' (first | exact .ptr | constructor)) ?_
 refine Jr fun hK2=>(JLh (.agg (Gw.cs s)) (Gi Hq O O O) O (Ru (E2 boxes) O (Ru (G0 calls) O (JLh (.agg [LS 1 (E0) p.States,LS 1 (E1) p.Water]) (Gi Ys O O O) O ?_))))
 obtain⟨r3,hr3,h⟩:=Ge h
 refine JLh (.tup [LS 1 (E1) r3.1,G0 r3.2]) (Gt O (G98 F s boxes calls p r3 hr3) Hf3 ⟨O,O,O,O,O,O,O,O,G⟩) O (Ru (.tup [LS 1 (E1) r3.1,G0 r3.2]) O (JLh (LS 1 (E1) r3.1) (H6 O O O) O (JLh (G0 r3.2) (H6 O O O) O (Ru (LS 1 (E1) r3.1) O (Ru (G0 r3.2) O (G7 (hK2 (Jr fun hK4=>(Ru (G0 0) O (G7 (hK4 (Js fun hK5=>Jr fun hK6=>(Ru (LS 1 (E1) r3.1) O (JLl Z6 O O O fun hm24=>(Ru (G0 0) O (G7 (hK6 (Gq ?_))))))))))))))))))
 obtain⟨b19,kx19,hb19,hkx19,h⟩:=Hx h
 refine Hg (fun i19 (s19:Int)=>each b19 kx19 (List.drop i19 r3.1) i19 s19=some r) (fun i19 s19=>[(11,G0 r3.2),(12,G0 s19),(23,LS 1 (E1) r3.1),(24,Ei r3.1.length),(25,Ei i19)]) (fun i19 s19=>[]) (fun i19=>r3.1.length - i19) 0 0 h ⟨(by repeat' constructor),G,rfl⟩ ?_
 clear h
 intro i19 s19 hi19 K19 e19
 refine Jr fun hK20=>(JLh (BL (decide ((i19:Int) < (r3.1.length:Int)))) (Hz O O O) O (G7 (hK20 (Js fun hK21=>Gk O (fun hb=>?_) (fun hb=>?_)))))
 ·
  have hk19:=Jb hb
  obtain⟨y19,nx19,hy19,hn19,h⟩:=Ho hi19 hk19
  replace h:=Rw hb19 h
  refine Gn (hK21 (Js fun hK22=>Gq (Jr fun hK23=>(JLh (.dptr [E1 y19]) (H4 (f:=(E1)) (xs:=r3.1) (y:=y19) O O O Z6 hy19 O) O (JLh (E1 y19) (Gf Q1 O O O) O (Ru (E1 y19) O (G7 (hK23 (G3 (Ru (G0 s19) O (Ru (E1 y19) O (JLl Gv O O O fun hm31=>?_))))))))))))
  obtain⟨v24,hv24,h⟩:=J7 h
  refine JLh (G0 v24) (Hu hv24 O O O) O (Ru (G0 v24) O (G7 (hK22 (G3 (JLh (G0 ((i19+1:Nat):Int)) (Hu (He hk19 hm24) O O O) O (Ru (G0 ((i19+1:Nat):Int)) O (G7 (e19 _ _ (i19+1) v24 (app1 hn19 h) (by omega) ⟨(by repeat' constructor),G,rfl⟩))))))))
 ·
  have h:=app1 hkx19 (Hp hi19 (H7 hb))
  refine Hr (hK5 (Jr fun hK25=>(Ru (G0 s19) O (Ru (G0 r3.2) O (Ru (G0 s19) O (Ru (G0 r3.2) O (G7 (hK25 (Gr (⟨[G0 s19,G0 r3.2],[],G,O,⟨⟨_,O,.conv (.same O)⟩,⟨_,O,.conv (.same O)⟩,G⟩,O,congrArg (fun r:Int×Int=>(.tup [G0 r.1,G0 r.2]:AV)) (Option.some.inj h)⟩))))))))))

def Q4 (a:List Int) (b:List Int):Option Bool:=
 bif decide ((a.length:Int)≠(b.length:Int)) then
 (some false)
 else
 (each (fun y24 i24 (s24:Unit) nx24=>
   Rx b (i24:Int) fun y29=>
   bif decide (y24≠y29) then
   (some false)
   else
   (nx24 ()))
  (fun(s24:Unit)=>
   some true) a 0 ())
theorem Yb (a:List Int) (b:List Int) (r:Bool) (h:Q4 a b=some r):Pure Ej 35 [E1 a,E1 b] (·=BL r):=by
 unfold Q4 at h
 refine H1 [.tmp 4] Tryz.func35 O O (Jr fun hK1=>(Ru (BL false) O (G7 (hK1 (Js fun hK2=>Jr fun hK3=>(Ru (E1 a) O (JLl Gv O O O fun hm7=>(Ru (E1 b) O (JLl Gv O O O fun hm9=>(JLh (BL (decide ((a.length:Int)≠(b.length:Int)))) (G50 O O O) O (G7 (hK3 (JCc O h (fun h hb=>?_) (fun h hb=>?_))))))))))))))
 ·
  refine Jr fun hK4=>(Ru (BL false) O (G7 (hK4 (Gr (fin1 BL h)))))
 ·
  refine Gn (hK2 (Js fun hK5=>Jr fun hK6=>(Ru (G0 0) O (G7 (hK6 (Gq ?_))))))
  obtain⟨b24,kx24,hb24,hkx24,h⟩:=Hx h
  refine Hg (fun i24 (s24:Unit)=>each b24 kx24 (List.drop i24 a) i24 s24=some r) (fun i24 s24=>[(0,E1 a),(1,E1 b),(5,Ei i24)]) (fun i24 s24=>[]) (fun i24=>a.length - i24) 0 () h ⟨⟨.same O,.same O,.same O,G⟩,G,O⟩ ?_
  clear h
  intro i24 s24 hi24 K24 e24
  refine Js fun hK25=>Jr fun hK26=>(Ru (Ei i24) O (Ru (E1 a) O (JLl Gv O O O fun hm13=>(JLh (BL (decide ((i24:Int) < (a.length:Int)))) (Hz O O O) O (G7 (hK26 (Gk O (fun hb=>?_) (fun hb=>?_))))))))
  ·
   have hk24:=Jb hb
   obtain⟨y24,nx24,hy24,hn24,h⟩:=Ho hi24 hk24
   replace h:=Rw hb24 h
   refine Gn (hK25 (Js fun hK27=>Gq (Js fun hK28=>?_)))
   obtain⟨m30,y29,hm30,hy29,h⟩:=Yd h
   refine JC_d0 Qb (by kernel_rfl) (Dq (E1 a) (G6 O O) O (Dq (Ei i24) (G6 O O) O (Dq (.dptr [G0 y24]) (H4 (f:=G0) (xs:=a) (y:=y24) O O O Gv hy24 O) O (Dq (G0 y24) (Gf Gc O O O) O (Dq (E1 b) (G6 O O) O (Dq (Ei i24) (G6 O O) O (Dq (.dptr [G0 y29]) (H4 (f:=G0) (xs:=b) (y:=y29) O O O Gv hy29 hm30) O (Dq (G0 y29) (Gf Gc O O O) O (Dq (BL (decide (y24≠y29))) (G50 O O O) O (Dnil (hK28 (JCc O h (fun h hb=>?_) (fun h hb=>?_)))))))))))))
   ·
    refine Jr fun hK31=>(Ru (BL false) O (G7 (hK31 (Gr (fin1 BL h)))))
   ·
    refine Gn (hK27 (G3 (Ru (Ei i24) O (JLh (G0 ((i24+1:Nat):Int)) (Hu (He hk24 hm13) O O O) O (Ru (G0 ((i24+1:Nat):Int)) O (G7 (e24 _ _ (i24+1) () (app1 hn24 h) (by omega) ⟨⟨.same rfl,.same rfl,.same rfl,G⟩,G,rfl⟩)))))))
  ·
   have h:=app1 hkx24 (Hp hi24 (H7 hb))
   refine Hr (hK5 (Jr fun hK32=>(Ru (BL true) O (G7 (hK32 (Gr (fin1 BL h)))))))

def Y4 (F:Nat) :Option Bool:=
 bnd (G05) fun r3=>
 bnd (Jd 1 4 0) fun r6=>
 bnd (Jd 2 4 1) fun r7=>
 bnd (Jd 2 4 1) fun r8=>
 bnd (Jd 3 4 0) fun r9=>
 bnd (Qz F r3 [(Gd.mk 1 ByteArray.empty 40 false 0 0 1 0 false),(Gd.mk 2 ByteArray.empty 40 false 0 0 2 0 false),(Gd.mk 3 ByteArray.empty 40 false 0 1 2 0 false)] [r6,r7] [r8,r9]) fun r10=>
 bnd (Jd 1 0 0) fun r12=>
 bnd (Jd 2 3 0) fun r13=>
 bnd (Jd 2 3 0) fun r14=>
 bnd (Qz F r3 [(Gd.mk 1 ByteArray.empty 40 false 0 0 1 0 false),(Gd.mk 2 ByteArray.empty 40 false 0 0 2 0 false),(Gd.mk 3 ByteArray.empty 40 false 0 1 2 0 false)] [r12,r13] [r14]) fun r15=>
 bnd (Jd 1 4 0) fun r17=>
 bnd (Jd 2 4 1) fun r18=>
 bnd (Jd 2 4 1) fun r19=>
 bnd (Jd 3 4 0) fun r20=>
 bnd (Zj F r3 [(Gd.mk 1 ByteArray.empty 40 false 0 0 1 0 false),(Gd.mk 2 ByteArray.empty 40 false 0 0 2 0 false),(Gd.mk 3 ByteArray.empty 40 false 0 1 2 0 false)] 3 (G2f.mk ([[r17,r18],[r19,r20],[]]) [])) fun r22=>
 bnd (H42 F r3 [(Gd.mk 1 ByteArray.empty 40 false 0 0 1 0 false),(Gd.mk 2 ByteArray.empty 40 false 0 0 2 0 false),(Gd.mk 3 ByteArray.empty 40 false 0 1 2 0 false)] 3 (G2f.mk ([[r17,r18],[r19,r20],[]]) [])) fun r24=>
 bnd (G21 r3 [(Gd.mk 1 ByteArray.empty 40 false 0 0 1 0 false),(Gd.mk 2 ByteArray.empty 40 false 0 0 2 0 false),(Gd.mk 3 ByteArray.empty 40 false 0 1 2 0 false)] 4 (G2f.mk ([[r17,r18],[r19,r20],[]]) [])) fun r26=>
 G0d (r10.2+r15.2) fun v28=>
 G0d (v28+r22.2) fun v29=>
 G0d (v29+r24.2) fun v30=>
 bnd (bif ((decide (v30=0))&&(decide (r26.2=231))) then Q4 r10.1 [1,2,3] else some default) fun r31=>
 bnd (bif (((decide (v30=0))&&(decide (r26.2=231)))&&r31) then Q4 r15.1 [1,2] else some default) fun r32=>
 bnd (bif ((((((decide (v30=0))&&(decide (r26.2=231)))&&r31)&&r32)&&(decide (r24.1=1)))&&(decide ((r22.1.length:Int)=3))) then Rx r22.1 0 some else some default) fun y33=>
 bnd (bif ((((((decide (v30=0))&&(decide (r26.2=231)))&&r31)&&r32)&&(decide (r24.1=1)))&&(decide ((r22.1.length:Int)=3))) then Rx r22.1 2 some else some default) fun y34=>
 bnd (bif ((((((decide (v30=0))&&(decide (r26.2=231)))&&r31)&&r32)&&(decide (r24.1=1)))&&(decide ((r22.1.length:Int)=3))) then G0d ((y33.length:Int)+(y34.length:Int)) some else some 0) fun v35=>
 bnd (bif (((((((decide (v30=0))&&(decide (r26.2=231)))&&r31)&&r32)&&(decide (r24.1=1)))&&(decide ((r22.1.length:Int)=3)))&&(decide (v35=0))) then Rx r22.1 1 some else some default) fun y36=>
 bnd (bif (((((((decide (v30=0))&&(decide (r26.2=231)))&&r31)&&r32)&&(decide (r24.1=1)))&&(decide ((r22.1.length:Int)=3)))&&(decide (v35=0))) then Q4 y36 [2] else some default) fun r37=>
 bnd (bif ((((((((decide (v30=0))&&(decide (r26.2=231)))&&r31)&&r32)&&(decide (r24.1=1)))&&(decide ((r22.1.length:Int)=3)))&&(decide (v35=0)))&&r37) then G2d [(Gd.mk 1 ByteArray.empty 40 false 0 0 1 0 false),(Gd.mk 2 ByteArray.empty 40 false 0 0 2 0 false),(Gd.mk 3 ByteArray.empty 40 false 0 1 2 0 false)] 1 else some default) fun r38=>
 bnd (bif ((((((((decide (v30=0))&&(decide (r26.2=231)))&&r31)&&r32)&&(decide (r24.1=1)))&&(decide ((r22.1.length:Int)=3)))&&(decide (v35=0)))&&r37) then Q4 r38 [2,3] else some default) fun r39=>
 some (((((((((decide (v30=0))&&(decide (r26.2=231)))&&r31)&&r32)&&(decide (r24.1=1)))&&(decide ((r22.1.length:Int)=3)))&&(decide (v35=0)))&&r37)&&r39)
theorem H0b (F:Nat)  (r:Bool) (h:Y4 F =some r):Pure Ej 12 [] (·=BL r):=by
 unfold Y4 at h
 refine H1 [.tmp 0] Tryz.func12 O O (Jr fun hK1=>(Ru (BL false) O (G7 (hK1 (Jr fun hK2=>?_)))))
 obtain⟨r3,hr3,h⟩:=Ge h
 refine JLh (.agg (Gw.cs r3)) (Gt O (Ge4  r3 hr3) Q13 G) O (JLh (.ptr 1031 0) (Hn 1031 13 J11 O O) O (Hs (u:=.junk) (Ha (u:=.agg (Gw.cs r3)) (ds:=(Gw.cs r3)) H25 O O O O O O O O) (G7 (hK2 (Gp [(1,Ec r3)] [] 1031 rfl rfl rfl G rfl (by exact⟨.ptr,G⟩) ?_)))))
 refine Jr fun hK4=>(JLh (.agg [G0 1,ST ByteArray.empty,U8 40,BL false,G0 0,G0 0,G0 1,U8 0,BL false]) (J8 (cs:=[G0 1,ST ByteArray.empty,U8 40,BL false,G0 0,G0 0,G0 1,U8 0,BL false]) [(0,1),(1,1),(2,1),(3,1),(4,1),(5,1),(6,1),(7,1),(8,1)] [G0 0,ST ByteArray.empty,U8 0,BL false,G0 0,G0 0,G0 0,U8 0,BL false] [.int .i64 0,.string ByteArray.empty,.int .u8 0,.bool false,.int .i64 0,.int .i64 0,.int .i64 0,.int .u8 0,.bool false] G42 G66 ⟨.inl O,.inl O,.inl O,.inl O,.inl O,.inl O,.inl O,.inl O,.inl O,G⟩ O O) O (JLh (.agg [G0 2,ST ByteArray.empty,U8 40,BL false,G0 0,G0 0,G0 2,U8 0,BL false]) (J8 (cs:=[G0 2,ST ByteArray.empty,U8 40,BL false,G0 0,G0 0,G0 2,U8 0,BL false]) [(0,1),(1,1),(2,1),(3,1),(4,1),(5,1),(6,1),(7,1),(8,1)] [G0 0,ST ByteArray.empty,U8 0,BL false,G0 0,G0 0,G0 0,U8 0,BL false] [.int .i64 0,.string ByteArray.empty,.int .u8 0,.bool false,.int .i64 0,.int .i64 0,.int .i64 0,.int .u8 0,.bool false] G42 G66 ⟨.inl O,.inl O,.inl O,.inl O,.inl O,.inl O,.inl O,.inl O,.inl O,G⟩ O O) O (JLh (.agg [G0 3,ST ByteArray.empty,U8 40,BL false,G0 0,G0 1,G0 2,U8 0,BL false]) (J8 (cs:=[G0 3,ST ByteArray.empty,U8 40,BL false,G0 0,G0 1,G0 2,U8 0,BL false]) [(0,1),(1,1),(2,1),(3,1),(4,1),(5,1),(6,1),(7,1),(8,1)] [G0 0,ST ByteArray.empty,U8 0,BL false,G0 0,G0 0,G0 0,U8 0,BL false] [.int .i64 0,.string ByteArray.empty,.int .u8 0,.bool false,.int .i64 0,.int .i64 0,.int .i64 0,.int .u8 0,.bool false] G42 G66 ⟨.inl O,.inl O,.inl O,.inl O,.inl O,.inl O,.inl O,.inl O,.inl O,G⟩ O O) O (JLh (E2 [(Gd.mk 1 ByteArray.empty 40 false 0 0 1 0 false),(Gd.mk 2 ByteArray.empty 40 false 0 0 2 0 false),(Gd.mk 3 ByteArray.empty 40 false 0 1 2 0 false)]) (H9 (xs:=[.agg [G0 1,ST ByteArray.empty,U8 40,BL false,G0 0,G0 0,G0 1,U8 0,BL false],.agg [G0 2,ST ByteArray.empty,U8 40,BL false,G0 0,G0 0,G0 2,U8 0,BL false],.agg [G0 3,ST ByteArray.empty,U8 40,BL false,G0 0,G0 1,G0 2,U8 0,BL false]]) O ⟨O,O,O,O,O,O,G⟩ Jw Rn O O O O) O (Ru (E2 [(Gd.mk 1 ByteArray.empty 40 false 0 0 1 0 false),(Gd.mk 2 ByteArray.empty 40 false 0 0 2 0 false),(Gd.mk 3 ByteArray.empty 40 false 0 1 2 0 false)]) O (G7 (hK4 ?_)))))))
 refine Js fun hK5=>?_
 obtain⟨r6,hr6,h⟩:=Ge h
 obtain⟨r7,hr7,h⟩:=Ge h
 obtain⟨r8,hr8,h⟩:=Ge h
 obtain⟨r9,hr9,h⟩:=Ge h
 obtain⟨r10,hr10,h⟩:=Ge h
 refine JC_d0 Qb (by kernel_rfl) (Dq (.agg (Gw.cs r3)) (Gi Hq O O O) O (Dq (E2 [(Gd.mk 1 ByteArray.empty 40 false 0 0 1 0 false),(Gd.mk 2 ByteArray.empty 40 false 0 0 2 0 false),(Gd.mk 3 ByteArray.empty 40 false 0 1 2 0 false)]) (G6 O O) O (Dq (.agg (Stowed.cs r6)) (Gt (args:=[G0 1,G0 4,G0 0]) O (Jg 1 4 0 r6 hr6) Ze ⟨O,O,O,O,O,O,G⟩) O (Dq (.agg (Stowed.cs r7)) (Gt (args:=[G0 2,G0 4,G0 1]) O (Jg 2 4 1 r7 hr7) Ze ⟨O,O,O,O,O,O,G⟩) O (Dq (E0 [r6,r7]) (H9 (xs:=[.agg (Stowed.cs r6),.agg (Stowed.cs r7)]) O ⟨O,O,O,O,G⟩ Gx Je O O O O) O (Dq (.agg (Stowed.cs r8)) (Gt (args:=[G0 2,G0 4,G0 1]) O (Jg 2 4 1 r8 hr8) Ze ⟨O,O,O,O,O,O,G⟩) O (Dq (.agg (Stowed.cs r9)) (Gt (args:=[G0 3,G0 4,G0 0]) O (Jg 3 4 0 r9 hr9) Ze ⟨O,O,O,O,O,O,G⟩) O (Dq (E0 [r8,r9]) (H9 (xs:=[.agg (Stowed.cs r8),.agg (Stowed.cs r9)]) O ⟨O,O,O,O,G⟩ Gx Je O O O O) O (Dq (.tup [E1 r10.1,G0 r10.2]) (Gt (args:=[.agg (Gw.cs r3),E2 [(Gd.mk 1 ByteArray.empty 40 false 0 0 1 0 false),(Gd.mk 2 ByteArray.empty 40 false 0 0 2 0 false),(Gd.mk 3 ByteArray.empty 40 false 0 1 2 0 false)],E0 [r6,r7],E0 [r8,r9]]) O (Gbd F r3 [(Gd.mk 1 ByteArray.empty 40 false 0 0 1 0 false),(Gd.mk 2 ByteArray.empty 40 false 0 0 2 0 false),(Gd.mk 3 ByteArray.empty 40 false 0 1 2 0 false)] [r6,r7] [r8,r9] r10 hr10) Hf2 ⟨O,O,O,O,O,O,O,O,G⟩) O (Dq (.tup [E1 r10.1,G0 r10.2]) (G6 O O) O (Dq (E1 r10.1) (H6 O O O) O (Dq (G0 r10.2) (H6 O O O) O (Dq (E1 r10.1) (G8 O O) O ?_)))))))))))))
 refine Dq (G0 r10.2) (G8 O O) O (Dnil (hK5 (Js fun hK11=>?_)))
 obtain⟨r12,hr12,h⟩:=Ge h
 obtain⟨r13,hr13,h⟩:=Ge h
 obtain⟨r14,hr14,h⟩:=Ge h
 obtain⟨r15,hr15,h⟩:=Ge h
 refine JC_d0 Qb (by kernel_rfl) (Dq (.agg (Gw.cs r3)) (Gi Hq O O O) O (Dq (E2 [(Gd.mk 1 ByteArray.empty 40 false 0 0 1 0 false),(Gd.mk 2 ByteArray.empty 40 false 0 0 2 0 false),(Gd.mk 3 ByteArray.empty 40 false 0 1 2 0 false)]) (G6 O O) O (Dq (.agg (Stowed.cs r12)) (Gt (args:=[G0 1,G0 0,G0 0]) O (Jg 1 0 0 r12 hr12) Ze ⟨O,O,O,O,O,O,G⟩) O (Dq (.agg (Stowed.cs r13)) (Gt (args:=[G0 2,G0 3,G0 0]) O (Jg 2 3 0 r13 hr13) Ze ⟨O,O,O,O,O,O,G⟩) O (Dq (E0 [r12,r13]) (H9 (xs:=[.agg (Stowed.cs r12),.agg (Stowed.cs r13)]) O ⟨O,O,O,O,G⟩ Gx Je O O O O) O (Dq (.agg (Stowed.cs r14)) (Gt (args:=[G0 2,G0 3,G0 0]) O (Jg 2 3 0 r14 hr14) Ze ⟨O,O,O,O,O,O,G⟩) O (Dq (E0 [r14]) (H9 (xs:=[.agg (Stowed.cs r14)]) O ⟨O,O,G⟩ Gx Je O O O O) O (Dq (.tup [E1 r15.1,G0 r15.2]) (Gt (args:=[.agg (Gw.cs r3),E2 [(Gd.mk 1 ByteArray.empty 40 false 0 0 1 0 false),(Gd.mk 2 ByteArray.empty 40 false 0 0 2 0 false),(Gd.mk 3 ByteArray.empty 40 false 0 1 2 0 false)],E0 [r12,r13],E0 [r14]]) O (Gbd F r3 [(Gd.mk 1 ByteArray.empty 40 false 0 0 1 0 false),(Gd.mk 2 ByteArray.empty 40 false 0 0 2 0 false),(Gd.mk 3 ByteArray.empty 40 false 0 1 2 0 false)] [r12,r13] [r14] r15 hr15) Hf2 ⟨O,O,O,O,O,O,O,O,G⟩) O (Dq (.tup [E1 r15.1,G0 r15.2]) (G6 O O) O (Dq (E1 r15.1) (H6 O O O) O (Dq (G0 r15.2) (H6 O O O) O (Dq (E1 r15.1) (G8 O O) O (Dq (G0 r15.2) (G8 O O) O (Dnil ?_))))))))))))))
 refine hK11 (Jr fun hK16=>?_)
 obtain⟨r17,hr17,h⟩:=Ge h
 refine JLh (.agg (Stowed.cs r17)) (Gt O (Jg 1 4 0 r17 hr17) Ze ⟨O,O,O,O,O,O,G⟩) O ?_
 obtain⟨r18,hr18,h⟩:=Ge h
 refine JLh (.agg (Stowed.cs r18)) (Gt O (Jg 2 4 1 r18 hr18) Ze ⟨O,O,O,O,O,O,G⟩) O (JLh (E0 [r17,r18]) (H9 (xs:=[.agg (Stowed.cs r17),.agg (Stowed.cs r18)]) O ⟨O,O,O,O,G⟩ Gx Je O O O O) O ?_)
 obtain⟨r19,hr19,h⟩:=Ge h
 refine JLh (.agg (Stowed.cs r19)) (Gt O (Jg 2 4 1 r19 hr19) Ze ⟨O,O,O,O,O,O,G⟩) O ?_
 obtain⟨r20,hr20,h⟩:=Ge h
 refine JLh (.agg (Stowed.cs r20)) (Gt O (Jg 3 4 0 r20 hr20) Ze ⟨O,O,O,O,O,O,G⟩) O (JLh (E0 [r19,r20]) (H9 (xs:=[.agg (Stowed.cs r19),.agg (Stowed.cs r20)]) O ⟨O,O,O,O,G⟩ Gx Je O O O O) O (JLh (LS 1 (E0) ([[r17,r18],[r19,r20],[]])) (Jbb (xs:=[E0 [r17,r18],E0 [r19,r20],E0 ([]:List Stowed)]) O ⟨.inl O,O,.inl O,O,.inr ⟨_,O,O⟩,O,G⟩ J9 G34 O O O O) O (JLh (.agg [LS 1 (E0) ([[r17,r18],[r19,r20],[]]),LS 1 (E1) ([]:List (List Int))]) (J8 (cs:=[LS 1 (E0) ([[r17,r18],[r19,r20],[]]),LS 1 (E1) ([]:List (List Int))]) [(0,1),(1,1)] [LS 1 (E0) ([]:List (List Stowed)),LS 1 (E1) ([]:List (List Int))] [.slice none 0 0,.slice none 0 0] H28 G8f ⟨.inr ⟨_,O,O⟩,.inr ⟨_,O,O⟩,G⟩ O O) O (JLh (.ptr 1032 0) (Hn 1032 2 H51 O O) O (Hs (u:=.junk) (Ha (u:=.agg [LS 1 (E0) ([[r17,r18],[r19,r20],[]]),LS 1 (E1) ([]:List (List Int))]) (ds:=[LS 1 (E0) ([[r17,r18],[r19,r20],[]]),LS 1 (E1) ([]:List (List Int))]) G67 O O O O O O O O) (G7 (hK16 ?_)))))))
 refine Gp [(1,Ec r3),(2,E2 [(Gd.mk 1 ByteArray.empty 40 false 0 0 1 0 false),(Gd.mk 2 ByteArray.empty 40 false 0 0 2 0 false),(Gd.mk 3 ByteArray.empty 40 false 0 1 2 0 false)]),(3,E1 r10.1),(4,G0 r10.2),(5,E1 r15.1),(6,G0 r15.2),(7,.dptr [LS 1 (E0) ([[r17,r18],[r19,r20],[]]),LS 1 (E1) ([]:List (List Int))])] [] 1032 rfl rfl rfl G rfl (by repeat' (first | exact .ptr | constructor)) (Jr fun hK21=>(JLh (.agg (Gw.cs r3)) (Gi Hq O O O) O (Ru (E2 [(Gd.mk 1 ByteArray.empty 40 false 0 0 1 0 false),(Gd.mk 2 ByteArray.empty 40 false 0 0 2 0 false),(Gd.mk 3 ByteArray.empty 40 false 0 1 2 0 false)]) O (JLh (.agg [LS 1 (E0) ([[r17,r18],[r19,r20],[]]),LS 1 (E1) ([]:List (List Int))]) (Gi Ys O O O) O ?_))))
 obtain⟨r22,hr22,h⟩:=Ge h
 refine JLh (.tup [LS 1 (E1) r22.1,G0 r22.2]) (Gt O (G98 F r3 [(Gd.mk 1 ByteArray.empty 40 false 0 0 1 0 false),(Gd.mk 2 ByteArray.empty 40 false 0 0 2 0 false),(Gd.mk 3 ByteArray.empty 40 false 0 1 2 0 false)] 3 (G2f.mk ([[r17,r18],[r19,r20],[]]) []) r22 hr22) Hf3 ⟨O,O,O,O,O,O,O,O,G⟩) O (Ru (.tup [LS 1 (E1) r22.1,G0 r22.2]) O (JLh (LS 1 (E1) r22.1) (H6 O O O) O (JLh (G0 r22.2) (H6 O O O) O (Ru (LS 1 (E1) r22.1) O (Ru (G0 r22.2) O (G7 (hK21 ?_)))))))
 refine Jr fun hK23=>(JLh (.agg (Gw.cs r3)) (Gi Hq O O O) O (Ru (E2 [(Gd.mk 1 ByteArray.empty 40 false 0 0 1 0 false),(Gd.mk 2 ByteArray.empty 40 false 0 0 2 0 false),(Gd.mk 3 ByteArray.empty 40 false 0 1 2 0 false)]) O (JLh (.agg [LS 1 (E0) ([[r17,r18],[r19,r20],[]]),LS 1 (E1) ([]:List (List Int))]) (Gi Ys O O O) O ?_)))
 obtain⟨r24,hr24,h⟩:=Ge h
 refine JLh (.tup [G0 r24.1,G0 r24.2]) (Gt O (Ja0 F r3 [(Gd.mk 1 ByteArray.empty 40 false 0 0 1 0 false),(Gd.mk 2 ByteArray.empty 40 false 0 0 2 0 false),(Gd.mk 3 ByteArray.empty 40 false 0 1 2 0 false)] 3 (G2f.mk ([[r17,r18],[r19,r20],[]]) []) r24 hr24) Q12 ⟨O,O,O,O,O,O,O,O,G⟩) O (Ru (.tup [G0 r24.1,G0 r24.2]) O (JLh (G0 r24.1) (H6 O O O) O (JLh (G0 r24.2) (H6 O O O) O (Ru (G0 r24.1) O (Ru (G0 r24.2) O (G7 (hK23 (Jr fun hK25=>(JLh (.agg (Gw.cs r3)) (Gi Hq O O O) O (Ru (E2 [(Gd.mk 1 ByteArray.empty 40 false 0 0 1 0 false),(Gd.mk 2 ByteArray.empty 40 false 0 0 2 0 false),(Gd.mk 3 ByteArray.empty 40 false 0 1 2 0 false)]) O (JLh (.agg [LS 1 (E0) ([[r17,r18],[r19,r20],[]]),LS 1 (E1) ([]:List (List Int))]) (Gi Ys O O O) O ?_)))))))))))
 obtain⟨r26,hr26,h⟩:=Ge h
 refine JLh (.tup [G0 r26.1,G0 r26.2]) (Gt O (Ge6 r3 [(Gd.mk 1 ByteArray.empty 40 false 0 0 1 0 false),(Gd.mk 2 ByteArray.empty 40 false 0 0 2 0 false),(Gd.mk 3 ByteArray.empty 40 false 0 1 2 0 false)] 4 (G2f.mk ([[r17,r18],[r19,r20],[]]) []) r26 hr26) Hf4 ⟨O,O,O,O,O,O,O,O,G⟩) O (Ru (.tup [G0 r26.1,G0 r26.2]) O (JLh (G0 r26.1) (H6 O O O) O (JLh (G0 r26.2) (H6 O O O) O (Ru (G0 r26.1) O (Ru (G0 r26.2) O (G7 (hK25 (Js fun hK27=>?_))))))))
 obtain⟨v28,hv28,h⟩:=J7 h
 obtain⟨v29,hv29,h⟩:=J7 h
 obtain⟨v30,hv30,h⟩:=J7 h
 obtain⟨r31,hr31,h⟩:=Ge h
 obtain⟨r32,hr32,h⟩:=Ge h
 obtain⟨y33,hy33,h⟩:=Ge h
 obtain⟨y34,hy34,h⟩:=Ge h
 obtain⟨v35,hv35,h⟩:=Ge h
 obtain⟨y36,hy36,h⟩:=Ge h
 obtain⟨r37,hr37,h⟩:=Ge h
 obtain⟨r38,hr38,h⟩:=Ge h
 obtain⟨r39,hr39,h⟩:=Ge h
 refine JC_d0 Qb (by kernel_rfl) (Dq (G0 r10.2) (G6 O O) O (Dq (G0 r15.2) (G6 O O) O (Dq (G0 v28) (Hu hv28 O O O) O (Dq (G0 r22.2) (G6 O O) O (Dq (G0 v29) (Hu hv29 O O O) O (Dq (G0 r24.2) (G6 O O) O (Dq (G0 v30) (Hu hv30 O O O) O (Dq (BL (decide (v30=0))) (Qh O O O) O (Dq (BL (decide (v30=0))) (G6 O O) O (Do (G0 r26.2) [] O .sct G (fun hc=>G6 O O) O (Do (BL (decide (r26.2=231))) [80] O .sct ⟨Ua,G⟩ (fun hc=>Qh O O O) O (Dq (BL ((decide (v30=0))&&(decide (r26.2=231)))) (Qa O O O O) O (Dq (BL ((decide (v30=0))&&(decide (r26.2=231)))) (G6 O O) O ?_)))))))))))))
 refine Do (E1 r10.1) [] O .sct G (fun hc=>G6 O O) O (Do (E1 [1,2,3]) [] O .sct G (fun hc=>H9 (xs:=[G0 1,G0 2,G0 3]) O ⟨O,O,O,O,O,O,G⟩ Gv Y0 O O O O) O (Do (BL r31) [84,85] O .sct ⟨Ua,Ua,G⟩ (fun hc=>Gt (args:=[E1 r10.1,E1 [1,2,3]]) O (Yb r10.1 [1,2,3] r31 (H2 hc hr31)) H2d ⟨O,O,O,O,G⟩) O (Dq (BL (((decide (v30=0))&&(decide (r26.2=231)))&&r31)) (Qa O O O O) O (Dq (BL (((decide (v30=0))&&(decide (r26.2=231)))&&r31)) (G6 O O) O (Do (E1 r15.1) [] O .sct G (fun hc=>G6 O O) O (Do (E1 [1,2]) [] O .sct G (fun hc=>H9 (xs:=[G0 1,G0 2]) O ⟨O,O,O,O,G⟩ Gv Y0 O O O O) O (Do (BL r32) [89,90] O .sct ⟨Ua,Ua,G⟩ (fun hc=>Gt (args:=[E1 r15.1,E1 [1,2]]) O (Yb r15.1 [1,2] r32 (H2 hc hr32)) H2d ⟨O,O,O,O,G⟩) O (Dq (BL ((((decide (v30=0))&&(decide (r26.2=231)))&&r31)&&r32)) (Qa O O O O) O (Dq (BL ((((decide (v30=0))&&(decide (r26.2=231)))&&r31)&&r32)) (G6 O O) O (Do (G0 r24.1) [] O .sct G (fun hc=>G6 O O) O (Do (BL (decide (r24.1=1))) [94] O .sct ⟨Ua,G⟩ (fun hc=>Qh O O O) O (Dq (BL (((((decide (v30=0))&&(decide (r26.2=231)))&&r31)&&r32)&&(decide (r24.1=1)))) (Qa O O O O) O (Dq (BL (((((decide (v30=0))&&(decide (r26.2=231)))&&r31)&&r32)&&(decide (r24.1=1)))) (G6 O O) O ?_)))))))))))))
 refine Do (LS 1 (E1) r22.1) [] O .sct G (fun hc=>G6 O O) O (Do (Ei r22.1.length) [98] O .sct ⟨Ua,G⟩ (fun hc=>Z4 (f:=(E1)) (xs:=r22.1) Z6 O O) O (Do (BL (decide ((r22.1.length:Int)=3))) [99] O .sct ⟨Ua,G⟩ (fun hc=>Qh O O O) O (Dq (BL ((((((decide (v30=0))&&(decide (r26.2=231)))&&r31)&&r32)&&(decide (r24.1=1)))&&(decide ((r22.1.length:Int)=3)))) (Qa O O O O) O (Dq (BL ((((((decide (v30=0))&&(decide (r26.2=231)))&&r31)&&r32)&&(decide (r24.1=1)))&&(decide ((r22.1.length:Int)=3)))) (G6 O O) O (Do (LS 1 (E1) r22.1) [] O .sct G (fun hc=>G6 O O) O (Do (.dptr [E1 y33]) [103] O .sct ⟨Ua,G⟩ (fun hc=>(match Qq (H2 hc hy33) with | ⟨_,hm_,hy_⟩=>H4 (f:=(E1)) (xs:=r22.1) (y:=y33) O O O Z6 hy_ hm_)) O (Do (E1 y33) [104] O .sct ⟨Ua,G⟩ (fun hc=>Gf Q1 O O O) O (Do (Ei y33.length) [105] O .sct ⟨Ua,G⟩ (fun hc=>Z4 (f:=G0) (xs:=y33) Gv O O) O (Do (LS 1 (E1) r22.1) [] O .sct G (fun hc=>G6 O O) O (Do (.dptr [E1 y34]) [107] O .sct ⟨Ua,G⟩ (fun hc=>(match Qq (H2 hc hy34) with | ⟨_,hm_,hy_⟩=>H4 (f:=(E1)) (xs:=r22.1) (y:=y34) O O O Z6 hy_ hm_)) O (Do (E1 y34) [108] O .sct ⟨Ua,G⟩ (fun hc=>Gf Q1 O O O) O (Do (Ei y34.length) [109] O .sct ⟨Ua,G⟩ (fun hc=>Z4 (f:=G0) (xs:=y34) Gv O O) O (Do (G0 v35) [106,110] O .sct ⟨Ua,Ua,G⟩ (fun hc=>Hu (H16 (H2 hc hv35)) O O O) O ?_)))))))))))))
 refine Do (BL (decide (v35=0))) [111] O .sct ⟨Ua,G⟩ (fun hc=>Qh O O O) O (Dq (BL (((((((decide (v30=0))&&(decide (r26.2=231)))&&r31)&&r32)&&(decide (r24.1=1)))&&(decide ((r22.1.length:Int)=3)))&&(decide (v35=0)))) (Qa O O O O) O (Dq (BL (((((((decide (v30=0))&&(decide (r26.2=231)))&&r31)&&r32)&&(decide (r24.1=1)))&&(decide ((r22.1.length:Int)=3)))&&(decide (v35=0)))) (G6 O O) O (Do (LS 1 (E1) r22.1) [] O .sct G (fun hc=>G6 O O) O (Do (.dptr [E1 y36]) [115] O .sct ⟨Ua,G⟩ (fun hc=>(match Qq (H2 hc hy36) with | ⟨_,hm_,hy_⟩=>H4 (f:=(E1)) (xs:=r22.1) (y:=y36) O O O Z6 hy_ hm_)) O (Do (E1 y36) [116] O .sct ⟨Ua,G⟩ (fun hc=>Gf Q1 O O O) O (Do (E1 [2]) [] O .sct G (fun hc=>H9 (xs:=[G0 2]) O ⟨O,O,G⟩ Gv Y0 O O O O) O (Do (BL r37) [117,118] O .sct ⟨Ua,Ua,G⟩ (fun hc=>Gt (args:=[E1 y36,E1 [2]]) O (Yb y36 [2] r37 (H2 hc hr37)) H2d ⟨O,O,O,O,G⟩) O (Dq (BL ((((((((decide (v30=0))&&(decide (r26.2=231)))&&r31)&&r32)&&(decide (r24.1=1)))&&(decide ((r22.1.length:Int)=3)))&&(decide (v35=0)))&&r37)) (Qa O O O O) O (Dq (BL ((((((((decide (v30=0))&&(decide (r26.2=231)))&&r31)&&r32)&&(decide (r24.1=1)))&&(decide ((r22.1.length:Int)=3)))&&(decide (v35=0)))&&r37)) (G6 O O) O (Do (E2 [(Gd.mk 1 ByteArray.empty 40 false 0 0 1 0 false),(Gd.mk 2 ByteArray.empty 40 false 0 0 2 0 false),(Gd.mk 3 ByteArray.empty 40 false 0 1 2 0 false)]) [] O .sct G (fun hc=>G6 O O) O (Do (E1 r38) [122] O .sct ⟨Ua,G⟩ (fun hc=>Gt (args:=[E2 [(Gd.mk 1 ByteArray.empty 40 false 0 0 1 0 false),(Gd.mk 2 ByteArray.empty 40 false 0 0 2 0 false),(Gd.mk 3 ByteArray.empty 40 false 0 1 2 0 false)],G0 1]) O (H4d [(Gd.mk 1 ByteArray.empty 40 false 0 0 1 0 false),(Gd.mk 2 ByteArray.empty 40 false 0 0 2 0 false),(Gd.mk 3 ByteArray.empty 40 false 0 1 2 0 false)] 1 r38 (H2 hc hr38)) J6b ⟨O,O,O,O,G⟩) O (Do (E1 [2,3]) [] O .sct G (fun hc=>H9 (xs:=[G0 2,G0 3]) O ⟨O,O,O,O,G⟩ Gv Y0 O O O O) O (Do (BL r39) [123,124] O .sct ⟨Ua,Ua,G⟩ (fun hc=>Gt (args:=[E1 r38,E1 [2,3]]) O (Yb r38 [2,3] r39 (H2 hc hr39)) H2d ⟨O,O,O,O,G⟩) O ?_)))))))))))))
 refine Dq (BL (((((((((decide (v30=0))&&(decide (r26.2=231)))&&r31)&&r32)&&(decide (r24.1=1)))&&(decide ((r22.1.length:Int)=3)))&&(decide (v35=0)))&&r37)&&r39)) (Qa O O O O) O (Dq (BL (((((((((decide (v30=0))&&(decide (r26.2=231)))&&r31)&&r32)&&(decide (r24.1=1)))&&(decide ((r22.1.length:Int)=3)))&&(decide (v35=0)))&&r37)&&r39)) (G8 O O) O (Dnil (hK27 (Gr (fin1 BL h)))))

def Qp (F:Nat) (l:List Hi) (covers:Int) (items:List Hd) (n:Int):Option Bool:=
 bnd (Y5 l covers) fun r3=>
 G0d (n) fun v4=>
 bnd (H46 v4 5) fun v5=>
 G0d (2+v5) fun v6=>
 bnd (Rs F r3 items v6 8) fun r8=>
 bnd (G21 r3 r8.1 v6 r8.2) fun r11=>
 bnd (bif (!((decide (r11.2≠0))||(decide ((r8.2.States.length:Int)≠v6)))) then G0d (v6 - 1) some else some 0) fun v13=>
 bnd (bif (!((decide (r11.2≠0))||(decide ((r8.2.States.length:Int)≠v6)))) then Rx r8.2.States v13 some else some default) fun y14=>
 bif (((decide (r11.2≠0))||(decide ((r8.2.States.length:Int)≠v6)))||(decide ((y14.length:Int)≠0))) then
 (some false)
 else
 (bnd (Zj F r3 r8.1 v6 r8.2) fun r17=>
  bif ((decide (r17.2≠0))||(decide ((r17.1.length:Int)≠v6))) then
  (some false)
  else
  (each (fun y24 i24 (s24:(List Stowed)) nx24=>
    bnd (Qz F r3 r8.1 s24 y24) fun r30=>
    bnd (bif (!(decide (r30.2≠0))) then Rr F r3 r8.1 s24 y24 r30.1 else some default) fun r33=>
    bif ((decide (r30.2≠0))||(!r33)) then
    (some false)
    else
    (each (fun y65 i65 (s65:Unit) nx65=>
      bnd (Hy r30.1 y65.ID) fun r71=>
      bnd (bif r71 then M_twistlocklaw23_holds s24 y65.ID else some default) fun r72=>
      bnd (bif (r71&&r72) then M_twistlocklaw23_holds y24 y65.ID else some default) fun r73=>
      Rx r17.1 (i24:Int) fun y75=>
      bnd (Hy y75 y65.ID) fun r77=>
      bif (!(((r71&&r72)&&r73)==r77)) then
      (some false)
      else
      (nx65 ()))
     (fun(s65:Unit)=>
      nx24 y24) r8.1 0 ()))
   (fun(s24:(List Stowed))=>
    bnd (Y4 F) fun r80=>
    some r80) r8.2.States 0 []))
theorem Gaa (F:Nat) (l:List Hi) (covers:Int) (items:List Hd) (n:Int) (r:Bool) (h:Qp F l covers items n=some r):Pure Ej 3 [Eb l,.sc (.int .u32 covers),Ea items,U8 n] (·=BL r):=by
 unfold Qp at h
 refine H1 [.tmp 8] Tryz.func3 O O (Jr fun hK1=>(Ru (BL false) O (G7 (hK1 (Jr fun hK2=>(Ru (Eb l) O (Ru (.sc (.int .u32 covers)) O ?_)))))))
 obtain⟨r3,hr3,h⟩:=Ge h
 refine JLh (.agg (Gw.cs r3)) (Gt O (H0c l covers r3 hr3) tf_call_4 ⟨O,O,O,O,G⟩) O (Ru (U8 n) O ?_)
 obtain⟨v4,hv4,h⟩:=J7 h
 refine JLh (G0 v4) (Gbe G22 G52 hv4 O O) O ?_
 obtain⟨v5,hv5,h⟩:=Ge h
 refine JLh (G0 v5) (Hec (R8 hv5).1 (R8 hv5).2 O O O) O ?_
 obtain⟨v6,hv6,h⟩:=J7 h
 refine JLh (G0 v6) (Hu hv6 O O O) O (JLh (.ptr 1001 0) (Hn 1001 13 J11 O O) O (Hs (u:=.junk) (Ha (u:=.agg (Gw.cs r3)) (ds:=(Gw.cs r3)) H25 O O O O O O O O) (Ru (G0 v6) O (G7 (hK2 (Gp [(2,Ea items),(9,Ec r3),(10,G0 v6)] [] 1001 rfl rfl rfl G rfl (by exact⟨.conv (.same rfl),.ptr,.conv (.same rfl),G⟩) (Jr fun hK7=>(JLh (.agg (Gw.cs r3)) (Gi Hq O O O) O (Ru (Ea items) O (Ru (G0 v6) O ?_))))))))))
 obtain⟨r8,hr8,h⟩:=Ge h
 refine JLh (.tup [E2 r8.1,.agg [LS 1 (E0) r8.2.States,LS 1 (E1) r8.2.Water]]) (Gt O (Gef F r3 items v6 8 r8 hr8) tf_call_5 ⟨O,O,O,O,O,O,O,O,G⟩) O (Ru (.tup [E2 r8.1,.agg [LS 1 (E0) r8.2.States,LS 1 (E1) r8.2.Water]]) O (JLh (E2 r8.1) (H6 O O O) O (JLh (.agg [LS 1 (E0) r8.2.States,LS 1 (E1) r8.2.Water]) (H6 O O O) O (JLh (.ptr 1002 0) (Hn 1002 2 H51 O O) O (Ru (E2 r8.1) O (Hs (u:=.junk) (Ha (u:=.agg [LS 1 (E0) r8.2.States,LS 1 (E1) r8.2.Water]) (ds:=[LS 1 (E0) r8.2.States,LS 1 (E1) r8.2.Water]) G67 O O O O O O O O) (G7 (hK7 ?_))))))))
 refine Gp [(9,Ec r3),(10,G0 v6),(11,E2 r8.1),(12,.dptr [LS 1 (E0) r8.2.States,LS 1 (E1) r8.2.Water])] [] 1002 rfl rfl rfl G rfl (by repeat' (first | exact .ptr | constructor)) (Js fun hK9=>Jr fun hK10=>(JLh (.agg (Gw.cs r3)) (Gi Hq O O O) O (Ru (E2 r8.1) O (Ru (G0 v6) O (JLh (.agg [LS 1 (E0) r8.2.States,LS 1 (E1) r8.2.Water]) (Gi Ys O O O) O ?_)))))
 obtain⟨r11,hr11,h⟩:=Ge h
 refine JLh (.tup [G0 r11.1,G0 r11.2]) (Gt O (Ge6 r3 r8.1 v6 r8.2 r11 hr11) Hf4 ⟨O,O,O,O,O,O,O,O,G⟩) O (Ru (.tup [G0 r11.1,G0 r11.2]) O (JLh (G0 r11.1) (H6 O O O) O (JLh (G0 r11.2) (H6 O O O) O (Ru (G0 r11.1) O (Ru (G0 r11.2) O (G7 (hK10 ?_)))))))
 refine Jr fun hK12=>(Ru (G0 r11.2) O (JLh (BL (decide (r11.2≠0))) (G50 O O O) O (Ru (BL (decide (r11.2≠0))) O (JLo (.dptr [LS 1 (E0) r8.2.States,LS 1 (E1) r8.2.Water]) [] O .scf G (fun hc=>Ga Z8 O O O) O (JLo (LS 1 (E0) r8.2.States) [50] O .scf ⟨Ua,G⟩ (fun hc=>Gf Y2 O O O) O (JLo (Ei r8.2.States.length) [51] O .scf ⟨Ua,G⟩ (fun hc=>Z4 (f:=(E0)) (xs:=r8.2.States) J9 O O) O (JLo (G0 v6) [] O .scf G (fun hc=>G6 O O) O (JLo (BL (decide ((r8.2.States.length:Int)≠v6))) [52,53] O .scf ⟨Ua,Ua,G⟩ (fun hc=>G50 O O O) O (JLh (BL ((decide (r11.2≠0))||(decide ((r8.2.States.length:Int)≠v6)))) (G09 O O O O) O (Ru (BL ((decide (r11.2≠0))||(decide ((r8.2.States.length:Int)≠v6)))) O (JLo (.dptr [LS 1 (E0) r8.2.States,LS 1 (E1) r8.2.Water]) [] O .scf G (fun hc=>Ga Z8 O O O) O (JLo (LS 1 (E0) r8.2.States) [57] O .scf ⟨Ua,G⟩ (fun hc=>Gf Y2 O O O) O (JLo (G0 v6) [] O .scf G (fun hc=>G6 O O) O ?_)))))))))))))
 obtain⟨v13,hv13,h⟩:=Ge h
 refine JLo (G0 v13) [59] O .scf ⟨Ua,G⟩ (fun hc=>Gea (H16 (H2 hc hv13)) O O O) O ?_
 obtain⟨y14,hy14,h⟩:=Ge h
 refine JLo (.dptr [E0 y14]) [58,60] O .scf ⟨Ua,Ua,G⟩ (fun hc=>(match Qq (H2 hc hy14) with | ⟨_,hm_,hy_⟩=>H4 (f:=(E0)) (xs:=r8.2.States) (y:=y14) O O O J9 hy_ hm_)) O (JLo (E0 y14) [61] O .scf ⟨Ua,G⟩ (fun hc=>Gf Q2 O O O) O (JLo (Ei y14.length) [62] O .scf ⟨Ua,G⟩ (fun hc=>Z4 (f:=Stowed.av) (xs:=y14) Gx O O) O (JLo (BL (decide ((y14.length:Int)≠0))) [63] O .scf ⟨Ua,G⟩ (fun hc=>G50 O O O) O (JLh (BL (((decide (r11.2≠0))||(decide ((r8.2.States.length:Int)≠v6)))||(decide ((y14.length:Int)≠0)))) (G09 O O O O) O (G7 (hK12 (JCc O h (fun h hb=>?_) (fun h hb=>?_))))))))
 ·
  refine Jr fun hK15=>(Ru (BL false) O (G7 (hK15 (Gr (fin1 BL h)))))
 ·
  refine Gn (hK9 (Jr fun hK16=>(JLh (.agg (Gw.cs r3)) (Gi Hq O O O) O (Ru (E2 r8.1) O (Ru (G0 v6) O (JLh (.agg [LS 1 (E0) r8.2.States,LS 1 (E1) r8.2.Water]) (Gi Ys O O O) O ?_))))))
  obtain⟨r17,hr17,h⟩:=Ge h
  refine JLh (.tup [LS 1 (E1) r17.1,G0 r17.2]) (Gt O (G98 F r3 r8.1 v6 r8.2 r17 hr17) Hf3 ⟨O,O,O,O,O,O,O,O,G⟩) O (Ru (.tup [LS 1 (E1) r17.1,G0 r17.2]) O (JLh (LS 1 (E1) r17.1) (H6 O O O) O (JLh (G0 r17.2) (H6 O O O) O (Ru (LS 1 (E1) r17.1) O (Ru (G0 r17.2) O (G7 (hK16 (Js fun hK18=>?_))))))))
  refine Jr fun hK19=>(Ru (G0 r17.2) O (JLh (BL (decide (r17.2≠0))) (G50 O O O) O (Ru (BL (decide (r17.2≠0))) O (JLo (LS 1 (E1) r17.1) [] O .scf G (fun hc=>G6 O O) O (JLo (Ei r17.1.length) [77] O .scf ⟨Ua,G⟩ (fun hc=>Z4 (f:=(E1)) (xs:=r17.1) Z6 O O) O (JLo (G0 v6) [] O .scf G (fun hc=>G6 O O) O (JLo (BL (decide ((r17.1.length:Int)≠v6))) [78,79] O .scf ⟨Ua,Ua,G⟩ (fun hc=>G50 O O O) O (JLh (BL ((decide (r17.2≠0))||(decide ((r17.1.length:Int)≠v6)))) (G09 O O O O) O (G7 (hK19 (JCc O h (fun h hb=>?_) (fun h hb=>?_))))))))))))
  ·
   refine Jr fun hK20=>(Ru (BL false) O (G7 (hK20 (Gr (fin1 BL h)))))
  ·
   refine Gn (hK18 (Jr fun hK21=>(JLh (E0 ([]:List Stowed)) (Ht 4 O O) O (G7 (hK21 (Js fun hK22=>Jr fun hK23=>(JLh (.dptr [LS 1 (E0) r8.2.States,LS 1 (E1) r8.2.Water]) (Ga Z8 O O O) O (JLh (LS 1 (E0) r8.2.States) (Gf Y2 O O O) O (JLl J9 O O O fun hm84=>(Ru (G0 0) O (G7 (hK23 (Gq ?_)))))))))))))
   obtain⟨b24,kx24,hb24,hkx24,h⟩:=Hx h
   refine Hg (fun i24 (s24:(List Stowed))=>each b24 kx24 (List.drop i24 r8.2.States) i24 s24=some r) (fun i24 s24=>[(9,Ec r3),(11,E2 r8.1),(15,LS 1 (E1) r17.1),(17,E0 s24),(83,LS 1 (E0) r8.2.States),(84,Ei r8.2.States.length),(85,Ei i24)]) (fun i24 s24=>[]) (fun i24=>r8.2.States.length - i24) 0 [] h ⟨(by repeat' constructor),G,rfl⟩ ?_
   clear h
   intro i24 s24 hi24 K24 e24
   refine Jr fun hK25=>(JLh (BL (decide ((i24:Int) < (r8.2.States.length:Int)))) (Hz O O O) O (G7 (hK25 (Js fun hK26=>Gk O (fun hb=>?_) (fun hb=>?_)))))
   ·
    have hk24:=Jb hb
    obtain⟨y24,nx24,hy24,hn24,h⟩:=Ho hi24 hk24
    replace h:=Rw hb24 h
    refine Gn (hK26 (Js fun hK27=>Gq (Jr fun hK28=>(Ru (Ei i24) O (JLh (.dptr [E0 y24]) (H4 (f:=(E0)) (xs:=r8.2.States) (y:=y24) O O O J9 hy24 O) O (JLh (E0 y24) (Gf Q2 O O O) O (Ru (Ei i24) O (Ru (E0 y24) O (G7 (hK28 (Jr fun hK29=>(JLh (.agg (Gw.cs r3)) (Gi Hq O O O) O (Ru (E2 r8.1) O (Ru (E0 s24) O (Ru (E0 y24) O ?_)))))))))))))))
    obtain⟨r30,hr30,h⟩:=Ge h
    refine JLh (.tup [E1 r30.1,G0 r30.2]) (Gt O (Gbd F r3 r8.1 s24 y24 r30 hr30) Hf2 ⟨O,O,O,O,O,O,O,O,G⟩) O (Ru (.tup [E1 r30.1,G0 r30.2]) O (JLh (E1 r30.1) (H6 O O O) O (JLh (G0 r30.2) (H6 O O O) O (Ru (E1 r30.1) O (Ru (G0 r30.2) O (G7 (hK29 (Js fun hK31=>Jr fun hK32=>(Ru (G0 r30.2) O (JLh (BL (decide (r30.2≠0))) (G50 O O O) O (Ru (BL (decide (r30.2≠0))) O (JLo (.agg (Gw.cs r3)) [] O .scf G (fun hc=>Gi Hq O O O) O (JLo (E2 r8.1) [] O .scf G (fun hc=>G6 O O) O (JLo (E0 s24) [] O .scf G (fun hc=>G6 O O) O (JLo (E0 y24) [] O .scf G (fun hc=>G6 O O) O (JLo (E1 r30.1) [] O .scf G (fun hc=>G6 O O) O ?_))))))))))))))))
    obtain⟨r33,hr33,h⟩:=Ge h
    refine JLo (BL r33) [101,102,103,104,105] O .scf ⟨Ua,Ua,Ua,Ua,Ua,G⟩ (fun hc=>Gt (args:=[.agg (Gw.cs r3),E2 r8.1,E0 s24,E0 y24,E1 r30.1]) O (Gee F r3 r8.1 s24 y24 r30.1 r33 (H2 hc hr33)) tf_call_9 ⟨O,O,O,O,O,O,O,O,O,O,G⟩) O (JLo (BL (!r33)) [106] O .scf ⟨Ua,G⟩ (fun hc=>Rj (b:=r33) O O) O (JLh (BL ((decide (r30.2≠0))||(!r33))) (G09 O O O O) O (G7 (hK32 (JCc O h (fun h hb=>?_) (fun h hb=>?_))))))
    ·
     refine Jr fun hK34=>(Ru (BL false) O (G7 (hK34 (Gr (fin1 BL h)))))
    ·
     refine Gn (hK31 (Js fun hK35=>Jr fun hK36=>(Ru (E2 r8.1) O (JLl Jw O O O fun hm110=>(Ru (G0 0) O (G7 (hK36 (Gq ?_))))))))
     obtain⟨b65,kx65,hb65,hkx65,h⟩:=Hx h
     refine Hg (fun i65 (s65:Unit)=>each b65 kx65 (List.drop i65 r8.1) i65 s65=some r) (fun i65 s65=>[(9,Ec r3),(11,E2 r8.1),(15,LS 1 (E1) r17.1),(17,E0 s24),(18,Ei i24),(19,E0 y24),(20,E1 r30.1),(83,LS 1 (E0) r8.2.States),(84,Ei r8.2.States.length),(85,Ei i24),(109,E2 r8.1),(110,Ei r8.1.length),(111,Ei i65)]) (fun i65 s65=>[]) (fun i65=>r8.1.length - i65) 0 () h ⟨(by repeat' constructor),G,rfl⟩ ?_
     clear h
     intro i65 s65 hi65 K65 e65
     refine Jr fun hK66=>(JLh (BL (decide ((i65:Int) < (r8.1.length:Int)))) (Hz O O O) O (G7 (hK66 (Js fun hK67=>Gk O (fun hb=>?_) (fun hb=>?_)))))
     ·
      have hk65:=Jb hb
      obtain⟨y65,nx65,hy65,hn65,h⟩:=Ho hi65 hk65
      replace h:=Rw hb65 h
      refine Gn (hK67 (Js fun hK68=>Gq (Jr fun hK69=>(JLh (Ee y65) (H4 (f:=Gd.av) (xs:=r8.1) (y:=y65) O O O Jw hy65 O) O (JLh (.agg (Gd.cs y65)) (Gi Zc O O O) O (JLh (.ptr 1003 0) (Hn 1003 9 Rn O O) O (Hs (u:=.junk) (Ha (u:=.agg (Gd.cs y65)) (ds:=(Gd.cs y65)) Yv O O O O O O O O) (G7 (hK69 ?_)))))))))
      refine Gp [(9,Ec r3),(11,E2 r8.1),(15,LS 1 (E1) r17.1),(17,E0 s24),(18,Ei i24),(19,E0 y24),(20,E1 r30.1),(23,Ee y65),(83,LS 1 (E0) r8.2.States),(84,Ei r8.2.States.length),(85,Ei i24),(109,E2 r8.1),(110,Ei r8.1.length),(111,Ei i65)] [] 1003 rfl rfl rfl G rfl (by repeat' (first | exact .ptr | constructor)) (Jr fun hK70=>(Ru (E1 r30.1) O (JLh (Ee y65) (Ga Jq O O O) O (JLh (G0 y65.ID) (Gf Gc O O O) O ?_))))
      obtain⟨r71,hr71,h⟩:=Ge h
      refine JLh (BL r71) (Gt O (Jz r30.1 y65.ID r71 hr71) G1d ⟨O,O,O,O,G⟩) O (Ru (BL r71) O (JLo (E0 s24) [] O .sct G (fun hc=>G6 O O) O (JLo (Ee y65) [] O .sct G (fun hc=>Ga Jq O O O) O (JLo (G0 y65.ID) [121] O .sct ⟨Ua,G⟩ (fun hc=>Gf Gc O O O) O ?_))))
      obtain⟨r72,hr72,h⟩:=Ge h
      refine JLo (BL r72) [120,122] O .sct ⟨Ua,Ua,G⟩ (fun hc=>Gt (args:=[E0 s24,G0 y65.ID]) O (G04 s24 y65.ID r72 (H2 hc hr72)) Ha9 ⟨O,O,O,O,G⟩) O (JLh (BL (r71&&r72)) (Qa O O O O) O (Ru (BL (r71&&r72)) O (JLo (E0 y24) [] O .sct G (fun hc=>G6 O O) O (JLo (Ee y65) [] O .sct G (fun hc=>Ga Jq O O O) O (JLo (G0 y65.ID) [127] O .sct ⟨Ua,G⟩ (fun hc=>Gf Gc O O O) O ?_)))))
      obtain⟨r73,hr73,h⟩:=Ge h
      refine JLo (BL r73) [126,128] O .sct ⟨Ua,Ua,G⟩ (fun hc=>Gt (args:=[E0 y24,G0 y65.ID]) O (G04 y24 y65.ID r73 (H2 hc hr73)) Ha9 ⟨O,O,O,O,G⟩) O (JLh (BL ((r71&&r72)&&r73)) (Qa O O O O) O (Ru (BL ((r71&&r72)&&r73)) O (G7 (hK70 (Js fun hK74=>?_)))))
      obtain⟨m76,y75,hm76,hy75,h⟩:=Yd h
      obtain⟨r77,hr77,h⟩:=Ge h
      refine JC_d0 Qb (by kernel_rfl) (Dq (BL ((r71&&r72)&&r73)) (G6 O O) O (Dq (LS 1 (E1) r17.1) (G6 O O) O (Dq (Ei i24) (G6 O O) O (Dq (.dptr [E1 y75]) (H4 (f:=(E1)) (xs:=r17.1) (y:=y75) O O O Z6 hy75 hm76) O (Dq (E1 y75) (Gf Q1 O O O) O (Dq (Ee y65) (Ga Jq O O O) O (Dq (G0 y65.ID) (Gf Gc O O O) O (Dq (BL r77) (Gt (args:=[E1 y75,G0 y65.ID]) O (Jz y75 y65.ID r77 hr77) G1d ⟨O,O,O,O,G⟩) O (Dq (BL (!(((r71&&r72)&&r73)==r77))) (Ja8 G91 O O O) O (Dnil (hK74 (JCc O h (fun h hb=>?_) (fun h hb=>?_)))))))))))))
      ·
       refine Jr fun hK78=>(Ru (BL false) O (G7 (hK78 (Gr (fin1 BL h)))))
      ·
       refine Gn (hK68 (G3 (JLh (G0 ((i65+1:Nat):Int)) (Hu (He hk65 hm110) O O O) O (Ru (G0 ((i65+1:Nat):Int)) O (G7 (e65 _ _ (i65+1) () (app1 hn65 h) (by omega) ⟨(by repeat' constructor),G,rfl⟩))))))
     ·
      have h:=app1 hkx65 (Hp hi65 (H7 hb))
      refine Hr (hK35 (G3 (Ru (E0 y24) O (Ru (E0 y24) O (G7 (hK27 (G3 (JLh (G0 ((i24+1:Nat):Int)) (Hu (He hk24 hm84) O O O) O (Ru (G0 ((i24+1:Nat):Int)) O (G7 (e24 _ _ (i24+1) y24 (app1 hn24 h) (by omega) ⟨(by repeat' constructor),G,rfl⟩)))))))))))
   ·
    have h:=app1 hkx24 (Hp hi24 (H7 hb))
    refine Hr (hK22 (Jr fun hK79=>?_))
    obtain⟨r80,hr80,h⟩:=Ge h
    refine JLh (BL r80) (Gt O (H0b F r80 hr80) Q22 G) O (Ru (BL r80) O (G7 (hK79 (Gr (fin1 BL h)))))
end
end Go.Proofs.YtkcdjcgifgdanaaGreat
