/-
 Models of functions of the program,and that they return what the models say.
-/
import Derived.Test.YtapmanciffiibaaGreatXPa
set_option linter.unnecessarySimpa false
set_option maxRecDepth 100000
set_option linter.unusedVariables false
set_option linter.unusedSimpArgs false
namespace Go.Proofs.YtapmanciffiibaaGreat
open Go.RowKit
noncomputable section
open XAF
open XCF
open XGF
open XBF
open XPF

def G52 (F:Nat) (s:Gu) (boxes:List Ga) (l:List Stowed) (open_:List Int) (x:Stowed):Option ((List Stowed)×Int):=
 bnd (Jn s boxes l open_) fun r4=>
 bif (!r4) then
 (some ([],2))
 else
 (bnd (G01 boxes x.Ga) fun r7=>
  bif ((!r7.2)||((decide (r7.1.Size≠20))&&(decide (r7.1.Size≠40)))) then
  (some ([],6))
  else
  (bnd (Qq l x.Ga) fun r12=>
   bif decide (0≤r12) then
   (some ([],96))
   else
   (bnd (G10 s x.Slot r7.1.Size) fun r15=>
    bif (!r15) then
    (some ([],97))
    else
    (need (decide (4≤9223372036854775807)) <|
     upto (fun i60 (s60:Unit) nx60=>
      jp (fun kj63=>
       bif decide ((i60:Int)=0) then
       (bnd (Rv (H7.mk s boxes l open_ x)) fun r67=>
        bif r67 then
        (G15 (91+(i60:Int)) fun v69=>
         some ([],v69))
        else
        (kj63 ()))
       else
       (bif decide ((i60:Int)=1) then
        (bnd (Y6 (H7.mk s boxes l open_ x)) fun r71=>
         bif r71 then
         (G15 (91+(i60:Int)) fun v73=>
          some ([],v73))
         else
         (kj63 ()))
        else
        (bif decide ((i60:Int)=2) then
         (bnd (Yg (H7.mk s boxes l open_ x)) fun r75=>
          bif r75 then
          (G15 (91+(i60:Int)) fun v77=>
           some ([],v77))
          else
          (kj63 ()))
         else
         (bif decide ((i60:Int)=3) then
          (bnd (Yx F (H7.mk s boxes l open_ x)) fun r79=>
           bif r79 then
           (G15 (91+(i60:Int)) fun v81=>
            some ([],v81))
           else
           (kj63 ()))
          else
          (none))))) fun(j63:Unit)=>
      nx60 ())
     (fun(s60:Unit)=>
      bnd (Qg F (H7.mk s boxes l open_ x)) fun r83=>
      some (r83,0)) (4:Int).toNat 0 ()))))
theorem H75 (F:Nat) (s:Gu) (boxes:List Ga) (l:List Stowed) (open_:List Int) (x:Stowed) (r:(List Stowed)×Int) (h:G52 F s boxes l open_ x=some r):Pure Ek 31 [.agg (Gu.cs s),E2 boxes,E1 l,E0 open_,.agg (Stowed.cs x)] (·=.tup [E1 r.1,G0 r.2]):=by
 unfold G52 at h
 refine H1 [.tmp 10,.tmp 11] Tryz.func31 O O (Jr fun hK1=>(JLh (.ptr 1065 0) (Jf (cs:=(Gu.cs s)) 1065 O O O O O) O (JLh (.ptr 1066 0) (Jf (cs:=[G0 x.Ga,G0 x.Slot.G3,G0 x.Slot.Tier,U8 x.Slot.Half]) 1066 O O O O O) O (JLh (E1 ([]:List Stowed)) (Hj 4 O O) O (Rq (G0 0) O (G7 (hK1 ?_)))))))
 refine Gs [(1,E2 boxes),(2,E1 l),(3,E0 open_),(5,Ec s),(9,.ptr 1066 0)] [(1066,.box 46 [G0 x.Ga,G0 x.Slot.G3,G0 x.Slot.Tier,U8 x.Slot.Half])] 1065 rfl rfl rfl ⟨⟨_,rfl,.boxEq rfl rfl⟩,G⟩ rfl (by repeat' (first | exact .ptr | constructor)) ?_
 refine Gs [(1,E2 boxes),(2,E1 l),(3,E0 open_),(5,Ec s),(9,Ed x)] [] 1066 rfl rfl rfl G rfl (by repeat' (first | exact .ptr | constructor)) (Js fun hK2=>?_)
 refine Jr fun hK3=>(JLh (.agg (Gu.cs s)) (Gk Hf O O O) O (Rq (E2 boxes) O (Rq (E1 l) O (Rq (E0 open_) O ?_))))
 obtain⟨r4,hr4,h⟩:=Gg h
 refine JLh (BL r4) (Gw O (G0f s boxes l open_ r4 hr4) Gd7 ⟨O,O,O,O,O,O,O,O,G⟩) O (JLh (BL (!r4)) (G06 (b:=r4) O O) O (G7 (hK3 (JCc O h (fun h hb=>?_) (fun h hb=>?_)))))
 ·
  refine Jr fun hK5=>(JLh (E1 ([]:List Stowed)) (Hj 4 O O) O (Rq (G0 2) O (G7 (hK5 (Gt (⟨[E1 ([]:List Stowed),G0 2],[],G,O,⟨⟨_,O,.conv (.same O)⟩,⟨_,O,.conv (.same O)⟩,G⟩,O,congrArg (fun r:(List Stowed)×Int=>(.tup [E1 r.1,G0 r.2]:AV)) (Option.some.inj h)⟩))))))
 ·
  refine Gp (hK2 (Jr fun hK6=>(Rq (E2 boxes) O (JLh (Ed x) (Gd Jq O O O) O (JLh (G0 x.Ga) (Gi Ge O O O) O ?_)))))
  obtain⟨r7,hr7,h⟩:=Gg h
  refine JLh (.tup [.agg (Ga.cs r7.1),BL r7.2]) (Gw O (Gbb boxes x.Ga r7 hr7) H3e ⟨O,O,O,O,G⟩) O (Rq (.tup [.agg (Ga.cs r7.1),BL r7.2]) O (JLh (.agg (Ga.cs r7.1)) (Hb O O O) O (JLh (BL r7.2) (Hb O O O) O (JLh (.ptr 1067 0) (Jb 1067 9 G27 O O) O (J8 (u:=.junk) (Ht (u:=.agg (Ga.cs r7.1)) (ds:=(Ga.cs r7.1)) G48 O O O O O O O O) (Rq (BL r7.2) O (G7 (hK6 ?_))))))))
  refine Gs [(1,E2 boxes),(2,E1 l),(3,E0 open_),(5,Ec s),(9,Ed x),(12,Eh r7.1),(13,BL r7.2)] [] 1067 rfl rfl rfl G rfl (by repeat' (first | exact .ptr | constructor)) (Js fun hK8=>Gv ?_)
  refine Jr fun hK9=>(Rq (BL r7.2) O (JLh (BL (!r7.2)) (G06 (b:=r7.2) O O) O (Rq (BL (!r7.2)) O (JLo (.dptr ((Ga.cs r7.1).drop 2)) [] O .scf G (fun hc=>Gd Zg O O O) O (JLo (U8 r7.1.Size) [34] O .scf ⟨Ua,G⟩ (fun hc=>Gi J5 O O O) O (JLo (BL (decide (r7.1.Size≠20))) [35] O .scf ⟨Ua,G⟩ (fun hc=>H12 O O O) O (JLo (BL (decide (r7.1.Size≠20))) [36] O .scf ⟨Ua,G⟩ (fun hc=>G6 O O) O (JLo (.dptr ((Ga.cs r7.1).drop 2)) [] O .optt G (fun hc=>Gd Zg O O O) O (JLo (U8 r7.1.Size) [38] O .optt ⟨Ua,G⟩ (fun hc=>Gi J5 O O O) O (JLo (BL (decide (r7.1.Size≠40))) [39] O .optt ⟨Ua,G⟩ (fun hc=>H12 O O O) O (Gc (u:=BL ((decide (r7.1.Size≠20))&&(decide (r7.1.Size≠40)))) [(37,BL (decide (r7.1.Size≠20))),(40,_)] O O O .scf ⟨.all id,.part,G⟩ (fun hc=>Qu O O O O) ?_)))))))))))
  refine JLh (BL ((!r7.2)||((decide (r7.1.Size≠20))&&(decide (r7.1.Size≠40))))) (G44 O O O O) O (Rq (BL ((!r7.2)||((decide (r7.1.Size≠20))&&(decide (r7.1.Size≠40))))) O (G7 (hK9 (JCc O h (fun h hb=>?_) (fun h hb=>?_)))))
  ·
   refine Jr fun hK10=>(JLh (E1 ([]:List Stowed)) (Hj 4 O O) O (Rq (G0 6) O (G7 (hK10 (Gt (⟨[E1 ([]:List Stowed),G0 6],[],G,O,⟨⟨_,O,.conv (.same O)⟩,⟨_,O,.conv (.same O)⟩,G⟩,O,congrArg (fun r:(List Stowed)×Int=>(.tup [E1 r.1,G0 r.2]:AV)) (Option.some.inj h)⟩))))))
  ·
   refine Jr fun hK11=>(Rq (E1 l) O (JLh (Ed x) (Gd Jq O O O) O (JLh (G0 x.Ga) (Gi Ge O O O) O ?_)))
   obtain⟨r12,hr12,h⟩:=Gg h
   refine JLh (G0 r12) (Gw O (Zm l x.Ga r12 hr12) G4a ⟨O,O,O,O,G⟩) O (JLh (BL (decide (0≤r12))) (Ga1 O O O) O (Rq (BL (decide (0≤r12))) O (G7 (hK11 (JCc O h (fun h hb=>?_) (fun h hb=>?_))))))
   ·
    refine Jr fun hK13=>(JLh (E1 ([]:List Stowed)) (Hj 4 O O) O (Rq (G0 96) O (G7 (hK13 (Gt (⟨[E1 ([]:List Stowed),G0 96],[],G,O,⟨⟨_,O,.conv (.same O)⟩,⟨_,O,.conv (.same O)⟩,G⟩,O,congrArg (fun r:(List Stowed)×Int=>(.tup [E1 r.1,G0 r.2]:AV)) (Option.some.inj h)⟩))))))
   ·
    refine Jr fun hK14=>(JLh (.agg (Gu.cs s)) (Gk Hf O O O) O (JLh (.dptr ((Stowed.cs x).drop 1)) (Gd J4 O O O) O (JLh (.agg ((Stowed.cs x).drop 1)) (Gk Q2 O O O) O (JLh (.dptr ((Ga.cs r7.1).drop 2)) (Gd Zg O O O) O (JLh (U8 r7.1.Size) (Gi J5 O O O) O ?_)))))
    obtain⟨r15,hr15,h⟩:=Gg h
    refine JLh (BL r15) (Gw O (H0d s x.Slot r7.1.Size r15 hr15) He5 ⟨O,O,O,O,O,O,G⟩) O (JLh (BL (!r15)) (G06 (b:=r15) O O) O (Rq (BL (!r15)) O (G7 (hK14 (JCc O h (fun h hb=>?_) (fun h hb=>?_))))))
    ·
     refine Jr fun hK16=>(JLh (E1 ([]:List Stowed)) (Hj 4 O O) O (Rq (G0 97) O (G7 (hK16 (Gt (⟨[E1 ([]:List Stowed),G0 97],[],G,O,⟨⟨_,O,.conv (.same O)⟩,⟨_,O,.conv (.same O)⟩,G⟩,O,congrArg (fun r:(List Stowed)×Int=>(.tup [E1 r.1,G0 r.2]:AV)) (Option.some.inj h)⟩))))))
    ·
     refine Gp (hK8 ?_)
     refine Jr fun hK17=>(JLh (.agg (Gu.cs s)) (Gk Hf O O O) O (Rq (E2 boxes) O (Rq (E1 l) O (Rq (E0 open_) O (JLh (.agg (Stowed.cs x)) (Gk Yz O O O) O (JLh (.agg [E7 s.Columns,E3 s.Covers,G0 s.Light.Kilos,G0 s.Light.X,G0 s.Light.Y,G0 s.Light.Z,E4 s.Rows,E5 s.Frames,E6 s.Tanks,G0 s.G2.Tolerance,G0 s.G2.Trim,G0 s.G2.List_,G0 s.G2.Stability,E2 boxes,E1 l,E0 open_,G0 x.Ga,G0 x.Slot.G3,G0 x.Slot.Tier,U8 x.Slot.Half]) (Hp (cs:=[E7 s.Columns,E3 s.Covers,G0 s.Light.Kilos,G0 s.Light.X,G0 s.Light.Y,G0 s.Light.Z,E4 s.Rows,E5 s.Frames,E6 s.Tanks,G0 s.G2.Tolerance,G0 s.G2.Trim,G0 s.G2.List_,G0 s.G2.Stability,E2 boxes,E1 l,E0 open_,G0 x.Ga,G0 x.Slot.G3,G0 x.Slot.Tier,U8 x.Slot.Half]) [(0,13),(13,1),(14,1),(15,1),(16,4)] [E7 ([]:List G3),E3 ([]:List G9),G0 0,G0 0,G0 0,G0 0,E4 ([]:List Row),E5 ([]:List Frame),E6 ([]:List Gh),G0 0,G0 0,G0 0,G0 0,E2 ([]:List Ga),E1 ([]:List Stowed),E0 ([]:List Int),G0 0,G0 0,G0 0,U8 0] [.slice none 0 0,.slice none 0 0,.int .i64 0,.int .i64 0,.int .i64 0,.int .i64 0,.slice none 0 0,.slice none 0 0,.slice none 0 0,.int .i64 0,.int .i64 0,.int .i64 0,.int .i64 0,.slice none 0 0,.slice none 0 0,.slice none 0 0,.int .i64 0,.int .i64 0,.int .i64 0,.int .u8 0] J2a J4d ⟨.inr ⟨_,O,O⟩,.inr ⟨_,O,O⟩,.inl O,.inl O,.inl O,.inl O,.inr ⟨_,O,O⟩,.inr ⟨_,O,O⟩,.inr ⟨_,O,O⟩,.inl O,.inl O,.inl O,.inl O,.inr ⟨_,O,O⟩,.inr ⟨_,O,O⟩,.inr ⟨_,O,O⟩,.inl O,.inl O,.inl O,.inl O,G⟩ O O) O (JLh (.ptr 1068 0) (Jb 1068 20 J3c O O) O (J8 (u:=.junk) (Ht (u:=.agg [E7 s.Columns,E3 s.Covers,G0 s.Light.Kilos,G0 s.Light.X,G0 s.Light.Y,G0 s.Light.Z,E4 s.Rows,E5 s.Frames,E6 s.Tanks,G0 s.G2.Tolerance,G0 s.G2.Trim,G0 s.G2.List_,G0 s.G2.Stability,E2 boxes,E1 l,E0 open_,G0 x.Ga,G0 x.Slot.G3,G0 x.Slot.Tier,U8 x.Slot.Half]) (ds:=[E7 s.Columns,E3 s.Covers,G0 s.Light.Kilos,G0 s.Light.X,G0 s.Light.Y,G0 s.Light.Z,E4 s.Rows,E5 s.Frames,E6 s.Tanks,G0 s.G2.Tolerance,G0 s.G2.Trim,G0 s.G2.List_,G0 s.G2.Stability,E2 boxes,E1 l,E0 open_,G0 x.Ga,G0 x.Slot.G3,G0 x.Slot.Tier,U8 x.Slot.Half]) J4f O O O O O O O O) (G7 (hK17 ?_))))))))))
     refine Gs [(14,.dptr [E7 s.Columns,E3 s.Covers,G0 s.Light.Kilos,G0 s.Light.X,G0 s.Light.Y,G0 s.Light.Z,E4 s.Rows,E5 s.Frames,E6 s.Tanks,G0 s.G2.Tolerance,G0 s.G2.Trim,G0 s.G2.List_,G0 s.G2.Stability,E2 boxes,E1 l,E0 open_,G0 x.Ga,G0 x.Slot.G3,G0 x.Slot.Tier,U8 x.Slot.Half])] [] 1068 rfl rfl rfl G rfl (by exact⟨.ptr,G⟩) (Js fun hK18=>?_)
     refine Jr fun hK19=>(JLh (.agg [E7 s.Columns,E3 s.Covers,G0 s.Light.Kilos,G0 s.Light.X,G0 s.Light.Y,G0 s.Light.Z,E4 s.Rows,E5 s.Frames,E6 s.Tanks,G0 s.G2.Tolerance,G0 s.G2.Trim,G0 s.G2.List_,G0 s.G2.Stability,E2 boxes,E1 l,E0 open_,G0 x.Ga,G0 x.Slot.G3,G0 x.Slot.Tier,U8 x.Slot.Half]) (Gk G4b O O O) O (JLh (.bfn 57 [.agg [E7 s.Columns,E3 s.Covers,G0 s.Light.Kilos,G0 s.Light.X,G0 s.Light.Y,G0 s.Light.Z,E4 s.Rows,E5 s.Frames,E6 s.Tanks,G0 s.G2.Tolerance,G0 s.G2.Trim,G0 s.G2.List_,G0 s.G2.Stability,E2 boxes,E1 l,E0 open_,G0 x.Ga,G0 x.Slot.G3,G0 x.Slot.Tier,U8 x.Slot.Half]]) (Gb3 (cs:=[.agg [E7 s.Columns,E3 s.Covers,G0 s.Light.Kilos,G0 s.Light.X,G0 s.Light.Y,G0 s.Light.Z,E4 s.Rows,E5 s.Frames,E6 s.Tanks,G0 s.G2.Tolerance,G0 s.G2.Trim,G0 s.G2.List_,G0 s.G2.Stability,E2 boxes,E1 l,E0 open_,G0 x.Ga,G0 x.Slot.G3,G0 x.Slot.Tier,U8 x.Slot.Half]]) O O) O (JLh (.agg [E7 s.Columns,E3 s.Covers,G0 s.Light.Kilos,G0 s.Light.X,G0 s.Light.Y,G0 s.Light.Z,E4 s.Rows,E5 s.Frames,E6 s.Tanks,G0 s.G2.Tolerance,G0 s.G2.Trim,G0 s.G2.List_,G0 s.G2.Stability,E2 boxes,E1 l,E0 open_,G0 x.Ga,G0 x.Slot.G3,G0 x.Slot.Tier,U8 x.Slot.Half]) (Gk G4b O O O) O (JLh (.bfn 58 [.agg [E7 s.Columns,E3 s.Covers,G0 s.Light.Kilos,G0 s.Light.X,G0 s.Light.Y,G0 s.Light.Z,E4 s.Rows,E5 s.Frames,E6 s.Tanks,G0 s.G2.Tolerance,G0 s.G2.Trim,G0 s.G2.List_,G0 s.G2.Stability,E2 boxes,E1 l,E0 open_,G0 x.Ga,G0 x.Slot.G3,G0 x.Slot.Tier,U8 x.Slot.Half]]) (Gb3 (cs:=[.agg [E7 s.Columns,E3 s.Covers,G0 s.Light.Kilos,G0 s.Light.X,G0 s.Light.Y,G0 s.Light.Z,E4 s.Rows,E5 s.Frames,E6 s.Tanks,G0 s.G2.Tolerance,G0 s.G2.Trim,G0 s.G2.List_,G0 s.G2.Stability,E2 boxes,E1 l,E0 open_,G0 x.Ga,G0 x.Slot.G3,G0 x.Slot.Tier,U8 x.Slot.Half]]) O O) O (JLh (.agg [E7 s.Columns,E3 s.Covers,G0 s.Light.Kilos,G0 s.Light.X,G0 s.Light.Y,G0 s.Light.Z,E4 s.Rows,E5 s.Frames,E6 s.Tanks,G0 s.G2.Tolerance,G0 s.G2.Trim,G0 s.G2.List_,G0 s.G2.Stability,E2 boxes,E1 l,E0 open_,G0 x.Ga,G0 x.Slot.G3,G0 x.Slot.Tier,U8 x.Slot.Half]) (Gk G4b O O O) O (JLh (.bfn 59 [.agg [E7 s.Columns,E3 s.Covers,G0 s.Light.Kilos,G0 s.Light.X,G0 s.Light.Y,G0 s.Light.Z,E4 s.Rows,E5 s.Frames,E6 s.Tanks,G0 s.G2.Tolerance,G0 s.G2.Trim,G0 s.G2.List_,G0 s.G2.Stability,E2 boxes,E1 l,E0 open_,G0 x.Ga,G0 x.Slot.G3,G0 x.Slot.Tier,U8 x.Slot.Half]]) (Gb3 (cs:=[.agg [E7 s.Columns,E3 s.Covers,G0 s.Light.Kilos,G0 s.Light.X,G0 s.Light.Y,G0 s.Light.Z,E4 s.Rows,E5 s.Frames,E6 s.Tanks,G0 s.G2.Tolerance,G0 s.G2.Trim,G0 s.G2.List_,G0 s.G2.Stability,E2 boxes,E1 l,E0 open_,G0 x.Ga,G0 x.Slot.G3,G0 x.Slot.Tier,U8 x.Slot.Half]]) O O) O (JLh (.agg [E7 s.Columns,E3 s.Covers,G0 s.Light.Kilos,G0 s.Light.X,G0 s.Light.Y,G0 s.Light.Z,E4 s.Rows,E5 s.Frames,E6 s.Tanks,G0 s.G2.Tolerance,G0 s.G2.Trim,G0 s.G2.List_,G0 s.G2.Stability,E2 boxes,E1 l,E0 open_,G0 x.Ga,G0 x.Slot.G3,G0 x.Slot.Tier,U8 x.Slot.Half]) (Gk G4b O O O) O (JLh (.bfn 60 [.agg [E7 s.Columns,E3 s.Covers,G0 s.Light.Kilos,G0 s.Light.X,G0 s.Light.Y,G0 s.Light.Z,E4 s.Rows,E5 s.Frames,E6 s.Tanks,G0 s.G2.Tolerance,G0 s.G2.Trim,G0 s.G2.List_,G0 s.G2.Stability,E2 boxes,E1 l,E0 open_,G0 x.Ga,G0 x.Slot.G3,G0 x.Slot.Tier,U8 x.Slot.Half]]) (Gb3 (cs:=[.agg [E7 s.Columns,E3 s.Covers,G0 s.Light.Kilos,G0 s.Light.X,G0 s.Light.Y,G0 s.Light.Z,E4 s.Rows,E5 s.Frames,E6 s.Tanks,G0 s.G2.Tolerance,G0 s.G2.Trim,G0 s.G2.List_,G0 s.G2.Stability,E2 boxes,E1 l,E0 open_,G0 x.Ga,G0 x.Slot.G3,G0 x.Slot.Tier,U8 x.Slot.Half]]) O O) O (JLh (.agg [.bfn 57 [.agg [E7 s.Columns,E3 s.Covers,G0 s.Light.Kilos,G0 s.Light.X,G0 s.Light.Y,G0 s.Light.Z,E4 s.Rows,E5 s.Frames,E6 s.Tanks,G0 s.G2.Tolerance,G0 s.G2.Trim,G0 s.G2.List_,G0 s.G2.Stability,E2 boxes,E1 l,E0 open_,G0 x.Ga,G0 x.Slot.G3,G0 x.Slot.Tier,U8 x.Slot.Half]],.bfn 58 [.agg [E7 s.Columns,E3 s.Covers,G0 s.Light.Kilos,G0 s.Light.X,G0 s.Light.Y,G0 s.Light.Z,E4 s.Rows,E5 s.Frames,E6 s.Tanks,G0 s.G2.Tolerance,G0 s.G2.Trim,G0 s.G2.List_,G0 s.G2.Stability,E2 boxes,E1 l,E0 open_,G0 x.Ga,G0 x.Slot.G3,G0 x.Slot.Tier,U8 x.Slot.Half]],.bfn 59 [.agg [E7 s.Columns,E3 s.Covers,G0 s.Light.Kilos,G0 s.Light.X,G0 s.Light.Y,G0 s.Light.Z,E4 s.Rows,E5 s.Frames,E6 s.Tanks,G0 s.G2.Tolerance,G0 s.G2.Trim,G0 s.G2.List_,G0 s.G2.Stability,E2 boxes,E1 l,E0 open_,G0 x.Ga,G0 x.Slot.G3,G0 x.Slot.Tier,U8 x.Slot.Half]],.bfn 60 [.agg [E7 s.Columns,E3 s.Covers,G0 s.Light.Kilos,G0 s.Light.X,G0 s.Light.Y,G0 s.Light.Z,E4 s.Rows,E5 s.Frames,E6 s.Tanks,G0 s.G2.Tolerance,G0 s.G2.Trim,G0 s.G2.List_,G0 s.G2.Stability,E2 boxes,E1 l,E0 open_,G0 x.Ga,G0 x.Slot.G3,G0 x.Slot.Tier,U8 x.Slot.Half]]]) (H51 (cs:=[.bfn 57 [.agg [E7 s.Columns,E3 s.Covers,G0 s.Light.Kilos,G0 s.Light.X,G0 s.Light.Y,G0 s.Light.Z,E4 s.Rows,E5 s.Frames,E6 s.Tanks,G0 s.G2.Tolerance,G0 s.G2.Trim,G0 s.G2.List_,G0 s.G2.Stability,E2 boxes,E1 l,E0 open_,G0 x.Ga,G0 x.Slot.G3,G0 x.Slot.Tier,U8 x.Slot.Half]],.bfn 58 [.agg [E7 s.Columns,E3 s.Covers,G0 s.Light.Kilos,G0 s.Light.X,G0 s.Light.Y,G0 s.Light.Z,E4 s.Rows,E5 s.Frames,E6 s.Tanks,G0 s.G2.Tolerance,G0 s.G2.Trim,G0 s.G2.List_,G0 s.G2.Stability,E2 boxes,E1 l,E0 open_,G0 x.Ga,G0 x.Slot.G3,G0 x.Slot.Tier,U8 x.Slot.Half]],.bfn 59 [.agg [E7 s.Columns,E3 s.Covers,G0 s.Light.Kilos,G0 s.Light.X,G0 s.Light.Y,G0 s.Light.Z,E4 s.Rows,E5 s.Frames,E6 s.Tanks,G0 s.G2.Tolerance,G0 s.G2.Trim,G0 s.G2.List_,G0 s.G2.Stability,E2 boxes,E1 l,E0 open_,G0 x.Ga,G0 x.Slot.G3,G0 x.Slot.Tier,U8 x.Slot.Half]],.bfn 60 [.agg [E7 s.Columns,E3 s.Covers,G0 s.Light.Kilos,G0 s.Light.X,G0 s.Light.Y,G0 s.Light.Z,E4 s.Rows,E5 s.Frames,E6 s.Tanks,G0 s.G2.Tolerance,G0 s.G2.Trim,G0 s.G2.List_,G0 s.G2.Stability,E2 boxes,E1 l,E0 open_,G0 x.Ga,G0 x.Slot.G3,G0 x.Slot.Tier,U8 x.Slot.Half]]]) [.nilFunc,.nilFunc,.nilFunc,.nilFunc] J93 J4c O O) O (Rq (G0 0) O (G7 (hK19 ?_))))))))))))
     refine Gv ?_
     obtain⟨hx60,h⟩:=Jm h
     obtain⟨b60,kx60,hb60,hkx60,h⟩:=upto_in h
     refine Hr (fun i60 (s60:Unit)=>upto b60 kx60 ((4:Int).toNat - i60) i60 s60=some r) (fun i60 s60=>[(14,.dptr [E7 s.Columns,E3 s.Covers,G0 s.Light.Kilos,G0 s.Light.X,G0 s.Light.Y,G0 s.Light.Z,E4 s.Rows,E5 s.Frames,E6 s.Tanks,G0 s.G2.Tolerance,G0 s.G2.Trim,G0 s.G2.List_,G0 s.G2.Stability,E2 boxes,E1 l,E0 open_,G0 x.Ga,G0 x.Slot.G3,G0 x.Slot.Tier,U8 x.Slot.Half]),(71,.agg [.bfn 57 [.agg [E7 s.Columns,E3 s.Covers,G0 s.Light.Kilos,G0 s.Light.X,G0 s.Light.Y,G0 s.Light.Z,E4 s.Rows,E5 s.Frames,E6 s.Tanks,G0 s.G2.Tolerance,G0 s.G2.Trim,G0 s.G2.List_,G0 s.G2.Stability,E2 boxes,E1 l,E0 open_,G0 x.Ga,G0 x.Slot.G3,G0 x.Slot.Tier,U8 x.Slot.Half]],.bfn 58 [.agg [E7 s.Columns,E3 s.Covers,G0 s.Light.Kilos,G0 s.Light.X,G0 s.Light.Y,G0 s.Light.Z,E4 s.Rows,E5 s.Frames,E6 s.Tanks,G0 s.G2.Tolerance,G0 s.G2.Trim,G0 s.G2.List_,G0 s.G2.Stability,E2 boxes,E1 l,E0 open_,G0 x.Ga,G0 x.Slot.G3,G0 x.Slot.Tier,U8 x.Slot.Half]],.bfn 59 [.agg [E7 s.Columns,E3 s.Covers,G0 s.Light.Kilos,G0 s.Light.X,G0 s.Light.Y,G0 s.Light.Z,E4 s.Rows,E5 s.Frames,E6 s.Tanks,G0 s.G2.Tolerance,G0 s.G2.Trim,G0 s.G2.List_,G0 s.G2.Stability,E2 boxes,E1 l,E0 open_,G0 x.Ga,G0 x.Slot.G3,G0 x.Slot.Tier,U8 x.Slot.Half]],.bfn 60 [.agg [E7 s.Columns,E3 s.Covers,G0 s.Light.Kilos,G0 s.Light.X,G0 s.Light.Y,G0 s.Light.Z,E4 s.Rows,E5 s.Frames,E6 s.Tanks,G0 s.G2.Tolerance,G0 s.G2.Trim,G0 s.G2.List_,G0 s.G2.Stability,E2 boxes,E1 l,E0 open_,G0 x.Ga,G0 x.Slot.G3,G0 x.Slot.Tier,U8 x.Slot.Half]]]),(72,Ej i60)]) (fun i60 s60=>[]) (fun i60=>(4:Int).toNat - i60) 0 () h ⟨⟨.same O,.same O,.same O,G⟩,G,O⟩ ?_
     clear h
     intro i60 s60 hi60 K60 e60
     refine Jr fun hK61=>(JLh (BL (decide ((i60:Int) < 4))) (Jc O O O) O (G7 (hK61 (Js fun hK62=>Gm O (fun hb=>?_) (fun hb=>?_)))))
     ·
      have hk60:=Hfe hb
      obtain⟨nx60,hn60,h⟩:=Hca hi60 hk60
      replace h:=app3 hb60 h
      refine Gp (hK62 ?_)
      obtain⟨kj63,hkj63,h⟩:=Yo h
      refine Rb (fun j63:Unit=>kj63 j63=some r) (fun j63=>[(14,.dptr [E7 s.Columns,E3 s.Covers,G0 s.Light.Kilos,G0 s.Light.X,G0 s.Light.Y,G0 s.Light.Z,E4 s.Rows,E5 s.Frames,E6 s.Tanks,G0 s.G2.Tolerance,G0 s.G2.Trim,G0 s.G2.List_,G0 s.G2.Stability,E2 boxes,E1 l,E0 open_,G0 x.Ga,G0 x.Slot.G3,G0 x.Slot.Tier,U8 x.Slot.Half]),(71,.agg [.bfn 57 [.agg [E7 s.Columns,E3 s.Covers,G0 s.Light.Kilos,G0 s.Light.X,G0 s.Light.Y,G0 s.Light.Z,E4 s.Rows,E5 s.Frames,E6 s.Tanks,G0 s.G2.Tolerance,G0 s.G2.Trim,G0 s.G2.List_,G0 s.G2.Stability,E2 boxes,E1 l,E0 open_,G0 x.Ga,G0 x.Slot.G3,G0 x.Slot.Tier,U8 x.Slot.Half]],.bfn 58 [.agg [E7 s.Columns,E3 s.Covers,G0 s.Light.Kilos,G0 s.Light.X,G0 s.Light.Y,G0 s.Light.Z,E4 s.Rows,E5 s.Frames,E6 s.Tanks,G0 s.G2.Tolerance,G0 s.G2.Trim,G0 s.G2.List_,G0 s.G2.Stability,E2 boxes,E1 l,E0 open_,G0 x.Ga,G0 x.Slot.G3,G0 x.Slot.Tier,U8 x.Slot.Half]],.bfn 59 [.agg [E7 s.Columns,E3 s.Covers,G0 s.Light.Kilos,G0 s.Light.X,G0 s.Light.Y,G0 s.Light.Z,E4 s.Rows,E5 s.Frames,E6 s.Tanks,G0 s.G2.Tolerance,G0 s.G2.Trim,G0 s.G2.List_,G0 s.G2.Stability,E2 boxes,E1 l,E0 open_,G0 x.Ga,G0 x.Slot.G3,G0 x.Slot.Tier,U8 x.Slot.Half]],.bfn 60 [.agg [E7 s.Columns,E3 s.Covers,G0 s.Light.Kilos,G0 s.Light.X,G0 s.Light.Y,G0 s.Light.Z,E4 s.Rows,E5 s.Frames,E6 s.Tanks,G0 s.G2.Tolerance,G0 s.G2.Trim,G0 s.G2.List_,G0 s.G2.Stability,E2 boxes,E1 l,E0 open_,G0 x.Ga,G0 x.Slot.G3,G0 x.Slot.Tier,U8 x.Slot.Half]]]),(72,Ej i60)]) (fun j63=>[]) (fun Kj63 ej63=>?_) ?_
      ·
       refine Gv (Jr fun hK64=>(Rq (Ej i60) O ((Decidable.em ((i60:Int)=0)).elim (fun hq65_0=>?_) (fun hq65_0=>?_))))
       ·
        replace h:=H6 (decide_eq_true hq65_0) h
        refine JLh (.bfn 57 [.agg [E7 s.Columns,E3 s.Covers,G0 s.Light.Kilos,G0 s.Light.X,G0 s.Light.Y,G0 s.Light.Z,E4 s.Rows,E5 s.Frames,E6 s.Tanks,G0 s.G2.Tolerance,G0 s.G2.Trim,G0 s.G2.List_,G0 s.G2.Stability,E2 boxes,E1 l,E0 open_,G0 x.Ga,G0 x.Slot.G3,G0 x.Slot.Tier,U8 x.Slot.Half]]) (H23 (j:=0) Gd8 O O O hq65_0 O O) O (Rq (Ej i60) O (Rq (.bfn 57 [.agg [E7 s.Columns,E3 s.Covers,G0 s.Light.Kilos,G0 s.Light.X,G0 s.Light.Y,G0 s.Light.Z,E4 s.Rows,E5 s.Frames,E6 s.Tanks,G0 s.G2.Tolerance,G0 s.G2.Trim,G0 s.G2.List_,G0 s.G2.Stability,E2 boxes,E1 l,E0 open_,G0 x.Ga,G0 x.Slot.G3,G0 x.Slot.Tier,U8 x.Slot.Half]]) O (G7 (hK64 ?_))))
        refine Jr fun hK66=>(Rq (.bfn 57 [.agg [E7 s.Columns,E3 s.Covers,G0 s.Light.Kilos,G0 s.Light.X,G0 s.Light.Y,G0 s.Light.Z,E4 s.Rows,E5 s.Frames,E6 s.Tanks,G0 s.G2.Tolerance,G0 s.G2.Trim,G0 s.G2.List_,G0 s.G2.Stability,E2 boxes,E1 l,E0 open_,G0 x.Ga,G0 x.Slot.G3,G0 x.Slot.Tier,U8 x.Slot.Half]]) O ?_)
        obtain⟨r67,hr67,h⟩:=Gg h
        refine JLh (BL r67) (H24 (args:=[]) (firsts:=[.agg [E7 s.Columns,E3 s.Covers,G0 s.Light.Kilos,G0 s.Light.X,G0 s.Light.Y,G0 s.Light.Z,E4 s.Rows,E5 s.Frames,E6 s.Tanks,G0 s.G2.Tolerance,G0 s.G2.Trim,G0 s.G2.List_,G0 s.G2.Stability,E2 boxes,E1 l,E0 open_,G0 x.Ga,G0 x.Slot.G3,G0 x.Slot.Tier,U8 x.Slot.Half]]) O O (Gee (H7.mk s boxes l open_ x) r67 hr67) J7d G O) O (G7 (hK66 (JCc O h (fun h hb=>?_) (fun h hb=>?_))))
        ·
         refine Jr fun hK68=>(Rq (Ej i60) O ?_)
         obtain⟨v69,hv69,h⟩:=Jj h
         refine JLh (G0 v69) (J0 hv69 O O O) O (JLh (E1 ([]:List Stowed)) (Hj 4 O O) O (Rq (G0 v69) O (G7 (hK68 (Gt (⟨[E1 ([]:List Stowed),G0 v69],[],G,O,⟨⟨_,O,.conv (.same O)⟩,⟨_,O,.conv (.same O)⟩,G⟩,O,congrArg (fun r:(List Stowed)×Int=>(.tup [E1 r.1,G0 r.2]:AV)) (Option.some.inj h)⟩))))))
        ·
         refine Gp (ej63 _ _ () h ⟨⟨.same O,.same O,.same O,G⟩,G,O⟩)
       ·
        replace h:=Hm (decide_eq_false hq65_0) h
        refine(Decidable.em ((i60:Int)=1)).elim (fun hq65_1=>?_) (fun hq65_1=>?_)
        ·
         replace h:=H6 (decide_eq_true hq65_1) h
         refine JLh (.bfn 58 [.agg [E7 s.Columns,E3 s.Covers,G0 s.Light.Kilos,G0 s.Light.X,G0 s.Light.Y,G0 s.Light.Z,E4 s.Rows,E5 s.Frames,E6 s.Tanks,G0 s.G2.Tolerance,G0 s.G2.Trim,G0 s.G2.List_,G0 s.G2.Stability,E2 boxes,E1 l,E0 open_,G0 x.Ga,G0 x.Slot.G3,G0 x.Slot.Tier,U8 x.Slot.Half]]) (H23 (j:=1) Gd8 O O O hq65_1 O O) O (Rq (Ej i60) O (Rq (.bfn 58 [.agg [E7 s.Columns,E3 s.Covers,G0 s.Light.Kilos,G0 s.Light.X,G0 s.Light.Y,G0 s.Light.Z,E4 s.Rows,E5 s.Frames,E6 s.Tanks,G0 s.G2.Tolerance,G0 s.G2.Trim,G0 s.G2.List_,G0 s.G2.Stability,E2 boxes,E1 l,E0 open_,G0 x.Ga,G0 x.Slot.G3,G0 x.Slot.Tier,U8 x.Slot.Half]]) O (G7 (hK64 ?_))))
         refine Jr fun hK70=>(Rq (.bfn 58 [.agg [E7 s.Columns,E3 s.Covers,G0 s.Light.Kilos,G0 s.Light.X,G0 s.Light.Y,G0 s.Light.Z,E4 s.Rows,E5 s.Frames,E6 s.Tanks,G0 s.G2.Tolerance,G0 s.G2.Trim,G0 s.G2.List_,G0 s.G2.Stability,E2 boxes,E1 l,E0 open_,G0 x.Ga,G0 x.Slot.G3,G0 x.Slot.Tier,U8 x.Slot.Half]]) O ?_)
         obtain⟨r71,hr71,h⟩:=Gg h
         refine JLh (BL r71) (H24 (args:=[]) (firsts:=[.agg [E7 s.Columns,E3 s.Covers,G0 s.Light.Kilos,G0 s.Light.X,G0 s.Light.Y,G0 s.Light.Z,E4 s.Rows,E5 s.Frames,E6 s.Tanks,G0 s.G2.Tolerance,G0 s.G2.Trim,G0 s.G2.List_,G0 s.G2.Stability,E2 boxes,E1 l,E0 open_,G0 x.Ga,G0 x.Slot.G3,G0 x.Slot.Tier,U8 x.Slot.Half]]) O O (H0a (H7.mk s boxes l open_ x) r71 hr71) J7c G O) O (G7 (hK70 (JCc O h (fun h hb=>?_) (fun h hb=>?_))))
         ·
          refine Jr fun hK72=>(Rq (Ej i60) O ?_)
          obtain⟨v73,hv73,h⟩:=Jj h
          refine JLh (G0 v73) (J0 hv73 O O O) O (JLh (E1 ([]:List Stowed)) (Hj 4 O O) O (Rq (G0 v73) O (G7 (hK72 (Gt (⟨[E1 ([]:List Stowed),G0 v73],[],G,O,⟨⟨_,O,.conv (.same O)⟩,⟨_,O,.conv (.same O)⟩,G⟩,O,congrArg (fun r:(List Stowed)×Int=>(.tup [E1 r.1,G0 r.2]:AV)) (Option.some.inj h)⟩))))))
         ·
          refine Gp (ej63 _ _ () h ⟨⟨.same O,.same O,.same O,G⟩,G,O⟩)
        ·
         replace h:=Hm (decide_eq_false hq65_1) h
         refine(Decidable.em ((i60:Int)=2)).elim (fun hq65_2=>?_) (fun hq65_2=>?_)
         ·
          replace h:=H6 (decide_eq_true hq65_2) h
          refine JLh (.bfn 59 [.agg [E7 s.Columns,E3 s.Covers,G0 s.Light.Kilos,G0 s.Light.X,G0 s.Light.Y,G0 s.Light.Z,E4 s.Rows,E5 s.Frames,E6 s.Tanks,G0 s.G2.Tolerance,G0 s.G2.Trim,G0 s.G2.List_,G0 s.G2.Stability,E2 boxes,E1 l,E0 open_,G0 x.Ga,G0 x.Slot.G3,G0 x.Slot.Tier,U8 x.Slot.Half]]) (H23 (j:=2) Gd8 O O O hq65_2 O O) O (Rq (Ej i60) O (Rq (.bfn 59 [.agg [E7 s.Columns,E3 s.Covers,G0 s.Light.Kilos,G0 s.Light.X,G0 s.Light.Y,G0 s.Light.Z,E4 s.Rows,E5 s.Frames,E6 s.Tanks,G0 s.G2.Tolerance,G0 s.G2.Trim,G0 s.G2.List_,G0 s.G2.Stability,E2 boxes,E1 l,E0 open_,G0 x.Ga,G0 x.Slot.G3,G0 x.Slot.Tier,U8 x.Slot.Half]]) O (G7 (hK64 ?_))))
          refine Jr fun hK74=>(Rq (.bfn 59 [.agg [E7 s.Columns,E3 s.Covers,G0 s.Light.Kilos,G0 s.Light.X,G0 s.Light.Y,G0 s.Light.Z,E4 s.Rows,E5 s.Frames,E6 s.Tanks,G0 s.G2.Tolerance,G0 s.G2.Trim,G0 s.G2.List_,G0 s.G2.Stability,E2 boxes,E1 l,E0 open_,G0 x.Ga,G0 x.Slot.G3,G0 x.Slot.Tier,U8 x.Slot.Half]]) O ?_)
          obtain⟨r75,hr75,h⟩:=Gg h
          refine JLh (BL r75) (H24 (args:=[]) (firsts:=[.agg [E7 s.Columns,E3 s.Covers,G0 s.Light.Kilos,G0 s.Light.X,G0 s.Light.Y,G0 s.Light.Z,E4 s.Rows,E5 s.Frames,E6 s.Tanks,G0 s.G2.Tolerance,G0 s.G2.Trim,G0 s.G2.List_,G0 s.G2.Stability,E2 boxes,E1 l,E0 open_,G0 x.Ga,G0 x.Slot.G3,G0 x.Slot.Tier,U8 x.Slot.Half]]) O O (Ge5 (H7.mk s boxes l open_ x) r75 hr75) J7b G O) O (G7 (hK74 (JCc O h (fun h hb=>?_) (fun h hb=>?_))))
          ·
           refine Jr fun hK76=>(Rq (Ej i60) O ?_)
           obtain⟨v77,hv77,h⟩:=Jj h
           refine JLh (G0 v77) (J0 hv77 O O O) O (JLh (E1 ([]:List Stowed)) (Hj 4 O O) O (Rq (G0 v77) O (G7 (hK76 (Gt (⟨[E1 ([]:List Stowed),G0 v77],[],G,O,⟨⟨_,O,.conv (.same O)⟩,⟨_,O,.conv (.same O)⟩,G⟩,O,congrArg (fun r:(List Stowed)×Int=>(.tup [E1 r.1,G0 r.2]:AV)) (Option.some.inj h)⟩))))))
          ·
           refine Gp (ej63 _ _ () h ⟨⟨.same O,.same O,.same O,G⟩,G,O⟩)
         ·
          replace h:=Hm (decide_eq_false hq65_2) h
          refine(Decidable.em ((i60:Int)=3)).elim (fun hq65_3=>?_) (fun hq65_3=>?_)
          ·
           replace h:=H6 (decide_eq_true hq65_3) h
           refine JLh (.bfn 60 [.agg [E7 s.Columns,E3 s.Covers,G0 s.Light.Kilos,G0 s.Light.X,G0 s.Light.Y,G0 s.Light.Z,E4 s.Rows,E5 s.Frames,E6 s.Tanks,G0 s.G2.Tolerance,G0 s.G2.Trim,G0 s.G2.List_,G0 s.G2.Stability,E2 boxes,E1 l,E0 open_,G0 x.Ga,G0 x.Slot.G3,G0 x.Slot.Tier,U8 x.Slot.Half]]) (H23 (j:=3) Gd8 O O O hq65_3 O O) O (Rq (Ej i60) O (Rq (.bfn 60 [.agg [E7 s.Columns,E3 s.Covers,G0 s.Light.Kilos,G0 s.Light.X,G0 s.Light.Y,G0 s.Light.Z,E4 s.Rows,E5 s.Frames,E6 s.Tanks,G0 s.G2.Tolerance,G0 s.G2.Trim,G0 s.G2.List_,G0 s.G2.Stability,E2 boxes,E1 l,E0 open_,G0 x.Ga,G0 x.Slot.G3,G0 x.Slot.Tier,U8 x.Slot.Half]]) O (G7 (hK64 ?_))))
           refine Jr fun hK78=>(Rq (.bfn 60 [.agg [E7 s.Columns,E3 s.Covers,G0 s.Light.Kilos,G0 s.Light.X,G0 s.Light.Y,G0 s.Light.Z,E4 s.Rows,E5 s.Frames,E6 s.Tanks,G0 s.G2.Tolerance,G0 s.G2.Trim,G0 s.G2.List_,G0 s.G2.Stability,E2 boxes,E1 l,E0 open_,G0 x.Ga,G0 x.Slot.G3,G0 x.Slot.Tier,U8 x.Slot.Half]]) O ?_)
           obtain⟨r79,hr79,h⟩:=Gg h
           refine JLh (BL r79) (H24 (args:=[]) (firsts:=[.agg [E7 s.Columns,E3 s.Covers,G0 s.Light.Kilos,G0 s.Light.X,G0 s.Light.Y,G0 s.Light.Z,E4 s.Rows,E5 s.Frames,E6 s.Tanks,G0 s.G2.Tolerance,G0 s.G2.Trim,G0 s.G2.List_,G0 s.G2.Stability,E2 boxes,E1 l,E0 open_,G0 x.Ga,G0 x.Slot.G3,G0 x.Slot.Tier,U8 x.Slot.Half]]) O O (Gef F (H7.mk s boxes l open_ x) r79 hr79) J7a G O) O (G7 (hK78 (JCc O h (fun h hb=>?_) (fun h hb=>?_))))
           ·
            refine Jr fun hK80=>(Rq (Ej i60) O ?_)
            obtain⟨v81,hv81,h⟩:=Jj h
            refine JLh (G0 v81) (J0 hv81 O O O) O (JLh (E1 ([]:List Stowed)) (Hj 4 O O) O (Rq (G0 v81) O (G7 (hK80 (Gt (⟨[E1 ([]:List Stowed),G0 v81],[],G,O,⟨⟨_,O,.conv (.same O)⟩,⟨_,O,.conv (.same O)⟩,G⟩,O,congrArg (fun r:(List Stowed)×Int=>(.tup [E1 r.1,G0 r.2]:AV)) (Option.some.inj h)⟩))))))
           ·
            refine Gp (ej63 _ _ () h ⟨⟨.same O,.same O,.same O,G⟩,G,O⟩)
          ·
           replace h:=Hm (decide_eq_false hq65_3) h
           cases h
      ·intro j63 h
       replace h:=app1 hkj63 h
       refine G4 (JLh (G0 ((i60+1:Nat):Int)) (J0 (Ho hk60 (H7c hx60)) O O O) O (Rq (G0 ((i60+1:Nat):Int)) O (G7 (e60 _ _ (i60+1) () (app1 hn60 h) (by omega) ⟨⟨.same rfl,.same rfl,.same rfl,G⟩,G,rfl⟩))))
     ·
      have h:=app1 hkx60 (Hcb hi60 (Gde hb))
      refine Hy (hK18 (Jr fun hK82=>(JLh (.agg [E7 s.Columns,E3 s.Covers,G0 s.Light.Kilos,G0 s.Light.X,G0 s.Light.Y,G0 s.Light.Z,E4 s.Rows,E5 s.Frames,E6 s.Tanks,G0 s.G2.Tolerance,G0 s.G2.Trim,G0 s.G2.List_,G0 s.G2.Stability,E2 boxes,E1 l,E0 open_,G0 x.Ga,G0 x.Slot.G3,G0 x.Slot.Tier,U8 x.Slot.Half]) (Gk G4b O O O) O ?_)))
      obtain⟨r83,hr83,h⟩:=Gg h
      refine JLh (E1 r83) (Gw O (G2d F (H7.mk s boxes l open_ x) r83 hr83) Hdb ⟨O,O,G⟩) O (Rq (E1 r83) O (Rq (G0 0) O (G7 (hK82 (Gt (⟨[E1 r83,G0 0],[],G,O,⟨⟨_,O,.conv (.same O)⟩,⟨_,O,.conv (.same O)⟩,G⟩,O,congrArg (fun r:(List Stowed)×Int=>(.tup [E1 r.1,G0 r.2]:AV)) (Option.some.inj h)⟩))))))

def Jh (a:List Int) (b:List Int):Option Bool:=
 bif decide ((a.length:Int)≠(b.length:Int)) then
 (some false)
 else
 (each (fun y24 i24 (s24:Unit) nx24=>
   Z1 b (i24:Int) fun y29=>
   bif decide (y24≠y29) then
   (some false)
   else
   (nx24 ()))
  (fun(s24:Unit)=>
   some true) a 0 ())
theorem Y9 (a:List Int) (b:List Int) (r:Bool) (h:Jh a b=some r):Pure Ek 32 [E0 a,E0 b] (·=BL r):=by
 unfold Jh at h
 refine H1 [.tmp 4] Tryz.func32 O O (Jr fun hK1=>(Rq (BL false) O (G7 (hK1 (Js fun hK2=>Jr fun hK3=>(Rq (E0 a) O (JLl Gj O O O fun hm7=>(Rq (E0 b) O (JLl Gj O O O fun hm9=>(JLh (BL (decide ((a.length:Int)≠(b.length:Int)))) (H12 O O O) O (G7 (hK3 (JCc O h (fun h hb=>?_) (fun h hb=>?_))))))))))))))
 ·
  refine Jr fun hK4=>(Rq (BL false) O (G7 (hK4 (Gt (fin1 BL h)))))
 ·
  refine Gp (hK2 (Js fun hK5=>Jr fun hK6=>(Rq (G0 0) O (G7 (hK6 (Gv ?_))))))
  obtain⟨b24,kx24,hb24,hkx24,h⟩:=Ja h
  refine Hr (fun i24 (s24:Unit)=>each b24 kx24 (List.drop i24 a) i24 s24=some r) (fun i24 s24=>[(0,E0 a),(1,E0 b),(5,Ej i24)]) (fun i24 s24=>[]) (fun i24=>a.length - i24) 0 () h ⟨⟨.same O,.same O,.same O,G⟩,G,O⟩ ?_
  clear h
  intro i24 s24 hi24 K24 e24
  refine Js fun hK25=>Jr fun hK26=>(Rq (Ej i24) O (Rq (E0 a) O (JLl Gj O O O fun hm13=>(JLh (BL (decide ((i24:Int) < (a.length:Int)))) (Jc O O O) O (G7 (hK26 (Gm O (fun hb=>?_) (fun hb=>?_))))))))
  ·
   have hk24:=Jz hb
   obtain⟨y24,nx24,hy24,hn24,h⟩:=Hu hi24 hk24
   replace h:=Zr hb24 h
   refine Gp (hK25 (Js fun hK27=>Gv (Js fun hK28=>?_)))
   obtain⟨m30,y29,hm30,hy29,h⟩:=Z0 h
   refine JC_d0 Qo (by kernel_rfl) (Dq (E0 a) (G6 O O) O (Dq (Ej i24) (G6 O O) O (Dq (.dptr [G0 y24]) (He (f:=G0) (xs:=a) (y:=y24) O O O Gj hy24 O) O (Dq (G0 y24) (Gi Ge O O O) O (Dq (E0 b) (G6 O O) O (Dq (Ej i24) (G6 O O) O (Dq (.dptr [G0 y29]) (He (f:=G0) (xs:=b) (y:=y29) O O O Gj hy29 hm30) O (Dq (G0 y29) (Gi Ge O O O) O (Dq (BL (decide (y24≠y29))) (H12 O O O) O (Dnil (hK28 (JCc O h (fun h hb=>?_) (fun h hb=>?_)))))))))))))
   ·
    refine Jr fun hK31=>(Rq (BL false) O (G7 (hK31 (Gt (fin1 BL h)))))
   ·
    refine Gp (hK27 (G4 (Rq (Ej i24) O (JLh (G0 ((i24+1:Nat):Int)) (J0 (Ho hk24 hm13) O O O) O (Rq (G0 ((i24+1:Nat):Int)) O (G7 (e24 _ _ (i24+1) () (app1 hn24 h) (by omega) ⟨⟨.same rfl,.same rfl,.same rfl,G⟩,G,rfl⟩)))))))
  ·
   have h:=app1 hkx24 (Hv hi24 (Hi hb))
   refine Hy (hK5 (Jr fun hK32=>(Rq (BL true) O (G7 (hK32 (Gt (fin1 BL h)))))))

def Qx (F:Nat) :Option Bool:=
 bnd (Yq) fun r3=>
 bnd (Jg 1 0 0 0) fun r6=>
 bnd (Jg 2 0 1 0) fun r7=>
 bnd (Jg 3 2 1 0) fun r8=>
 bnd (Jg 6 2 0 1) fun r9=>
 bnd (Jg 7 2 0 2) fun r10=>
 bnd (R9 F r3 [(Ga.mk 1 ByteArray.empty 40 false 0 0 0 0 false),(Ga.mk 2 ByteArray.empty 40 false 0 0 0 0 false),(Ga.mk 3 ByteArray.empty 40 false 0 0 0 0 false),(Ga.mk 4 ByteArray.empty 40 false 0 0 0 0 false),(Ga.mk 5 ByteArray.empty 40 false 0 0 0 0 false),(Ga.mk 6 ByteArray.empty 20 false 0 0 0 0 false),(Ga.mk 7 ByteArray.empty 20 false 0 0 0 0 false)] [r6,r7,r8,r9,r10] [1]) fun r12=>
 bnd (R9 F r3 [(Ga.mk 1 ByteArray.empty 40 false 0 0 0 0 false),(Ga.mk 2 ByteArray.empty 40 false 0 0 0 0 false),(Ga.mk 3 ByteArray.empty 40 false 0 0 0 0 false),(Ga.mk 4 ByteArray.empty 40 false 0 0 0 0 false),(Ga.mk 5 ByteArray.empty 40 false 0 0 0 0 false),(Ga.mk 6 ByteArray.empty 20 false 0 0 0 0 false),(Ga.mk 7 ByteArray.empty 20 false 0 0 0 0 false)] [r6,r7,r8,r9,r10] [2]) fun r14=>
 bnd (R9 F r3 [(Ga.mk 1 ByteArray.empty 40 false 0 0 0 0 false),(Ga.mk 2 ByteArray.empty 40 false 0 0 0 0 false),(Ga.mk 3 ByteArray.empty 40 false 0 0 0 0 false),(Ga.mk 4 ByteArray.empty 40 false 0 0 0 0 false),(Ga.mk 5 ByteArray.empty 40 false 0 0 0 0 false),(Ga.mk 6 ByteArray.empty 20 false 0 0 0 0 false),(Ga.mk 7 ByteArray.empty 20 false 0 0 0 0 false)] [r6,r7,r8,r9,r10] [7]) fun r16=>
 bnd (G2e F r3 [(Ga.mk 1 ByteArray.empty 40 false 0 0 0 0 false),(Ga.mk 2 ByteArray.empty 40 false 0 0 0 0 false),(Ga.mk 3 ByteArray.empty 40 false 0 0 0 0 false),(Ga.mk 4 ByteArray.empty 40 false 0 0 0 0 false),(Ga.mk 5 ByteArray.empty 40 false 0 0 0 0 false),(Ga.mk 6 ByteArray.empty 20 false 0 0 0 0 false),(Ga.mk 7 ByteArray.empty 20 false 0 0 0 0 false)] [r6,r7,r8,r9,r10] [] 0) fun r18=>
 bnd (Jg 4 2 2 0) fun r20=>
 bnd (G52 F r3 [(Ga.mk 1 ByteArray.empty 40 false 0 0 0 0 false),(Ga.mk 2 ByteArray.empty 40 false 0 0 0 0 false),(Ga.mk 3 ByteArray.empty 40 false 0 0 0 0 false),(Ga.mk 4 ByteArray.empty 40 false 0 0 0 0 false),(Ga.mk 5 ByteArray.empty 40 false 0 0 0 0 false),(Ga.mk 6 ByteArray.empty 20 false 0 0 0 0 false),(Ga.mk 7 ByteArray.empty 20 false 0 0 0 0 false)] [r6,r7,r8,r9,r10] [] r20) fun r21=>
 bnd (Jg 5 3 1 0) fun r23=>
 bnd (G52 F r3 [(Ga.mk 1 ByteArray.empty 40 false 0 0 0 0 false),(Ga.mk 2 ByteArray.empty 40 false 0 0 0 0 false),(Ga.mk 3 ByteArray.empty 40 false 0 0 0 0 false),(Ga.mk 4 ByteArray.empty 40 false 0 0 0 0 false),(Ga.mk 5 ByteArray.empty 40 false 0 0 0 0 false),(Ga.mk 6 ByteArray.empty 20 false 0 0 0 0 false),(Ga.mk 7 ByteArray.empty 20 false 0 0 0 0 false)] [r6,r7,r8,r9,r10] [] r23) fun r24=>
 bnd (Ra r3 [(Ga.mk 1 ByteArray.empty 40 false 0 0 0 0 false),(Ga.mk 2 ByteArray.empty 40 false 0 0 0 0 false),(Ga.mk 3 ByteArray.empty 40 false 0 0 0 0 false),(Ga.mk 4 ByteArray.empty 40 false 0 0 0 0 false),(Ga.mk 5 ByteArray.empty 40 false 0 0 0 0 false),(Ga.mk 6 ByteArray.empty 20 false 0 0 0 0 false),(Ga.mk 7 ByteArray.empty 20 false 0 0 0 0 false)] [r6,r7,r8,r9,r10]) fun r26=>
 bnd (bif r26 then G15 (r12.2+r14.2) some else some 0) fun v27=>
 bnd (bif r26 then G15 (v27+r16.2) some else some 0) fun v28=>
 bnd (bif r26 then G15 (v28+r21.2) some else some 0) fun v29=>
 bnd (bif (r26&&(decide (v29=0))) then Jh r12.1 [1,2,3,6,7] else some default) fun r30=>
 bnd (bif ((r26&&(decide (v29=0)))&&r30) then Jh r14.1 [2,3,6,7] else some default) fun r31=>
 bnd (bif (((r26&&(decide (v29=0)))&&r30)&&r31) then Jh r16.1 [3,7] else some default) fun r32=>
 bnd (bif (((((((r26&&(decide (v29=0)))&&r30)&&r31)&&r32)&&(decide (r18.2=95)))&&(decide ((r21.1.length:Int)=6)))&&(decide (r24.2=93))) then Rm r3 [(Ga.mk 1 ByteArray.empty 40 false 0 0 0 0 false),(Ga.mk 2 ByteArray.empty 40 false 0 0 0 0 false),(Ga.mk 3 ByteArray.empty 40 false 0 0 0 0 false),(Ga.mk 4 ByteArray.empty 40 false 0 0 0 0 false),(Ga.mk 5 ByteArray.empty 40 false 0 0 0 0 false),(Ga.mk 6 ByteArray.empty 20 false 0 0 0 0 false),(Ga.mk 7 ByteArray.empty 20 false 0 0 0 0 false)] [r6,r7,r8,r9,r10] [] 2 else some default) fun r33=>
 bnd (bif ((((((((r26&&(decide (v29=0)))&&r30)&&r31)&&r32)&&(decide (r18.2=95)))&&(decide ((r21.1.length:Int)=6)))&&(decide (r24.2=93)))&&(decide (r33=91))) then Rm r3 [(Ga.mk 1 ByteArray.empty 40 false 0 0 0 0 false),(Ga.mk 2 ByteArray.empty 40 false 0 0 0 0 false),(Ga.mk 3 ByteArray.empty 40 false 0 0 0 0 false),(Ga.mk 4 ByteArray.empty 40 false 0 0 0 0 false),(Ga.mk 5 ByteArray.empty 40 false 0 0 0 0 false),(Ga.mk 6 ByteArray.empty 20 false 0 0 0 0 false),(Ga.mk 7 ByteArray.empty 20 false 0 0 0 0 false)] [r6,r7,r8,r9,r10] [] 6 else some default) fun r34=>
 bnd (bif (((((((((r26&&(decide (v29=0)))&&r30)&&r31)&&r32)&&(decide (r18.2=95)))&&(decide ((r21.1.length:Int)=6)))&&(decide (r24.2=93)))&&(decide (r33=91)))&&(decide (r34=90))) then Rm r3 [(Ga.mk 1 ByteArray.empty 40 false 0 0 0 0 false),(Ga.mk 2 ByteArray.empty 40 false 0 0 0 0 false),(Ga.mk 3 ByteArray.empty 40 false 0 0 0 0 false),(Ga.mk 4 ByteArray.empty 40 false 0 0 0 0 false),(Ga.mk 5 ByteArray.empty 40 false 0 0 0 0 false),(Ga.mk 6 ByteArray.empty 20 false 0 0 0 0 false),(Ga.mk 7 ByteArray.empty 20 false 0 0 0 0 false)] [r6,r7,r8,r9,r10] [] 3 else some default) fun r35=>
 some ((((((((((r26&&(decide (v29=0)))&&r30)&&r31)&&r32)&&(decide (r18.2=95)))&&(decide ((r21.1.length:Int)=6)))&&(decide (r24.2=93)))&&(decide (r33=91)))&&(decide (r34=90)))&&(decide (r35=0)))
theorem Gb9 (F:Nat)  (r:Bool) (h:Qx F =some r):Pure Ek 10 [] (·=BL r):=by
 unfold Qx at h
 refine H1 [.tmp 0] Tryz.func10 O O (Jr fun hK1=>(Rq (BL false) O (G7 (hK1 (Jr fun hK2=>?_)))))
 obtain⟨r3,hr3,h⟩:=Gg h
 refine JLh (.agg (Gu.cs r3)) (Gw O (G9d  r3 hr3) J8c G) O (JLh (.ptr 1025 0) (Jb 1025 13 Gf0 O O) O (J8 (u:=.junk) (Ht (u:=.agg (Gu.cs r3)) (ds:=(Gu.cs r3)) G49 O O O O O O O O) (G7 (hK2 (Gs [(1,Ec r3)] [] 1025 rfl rfl rfl G rfl (by exact⟨.ptr,G⟩) ?_)))))
 refine Jr fun hK4=>(JLh (.agg [G0 1,ST ByteArray.empty,U8 40,BL false,G0 0,G0 0,G0 0,U8 0,BL false]) (Hp (cs:=[G0 1,ST ByteArray.empty,U8 40,BL false,G0 0,G0 0,G0 0,U8 0,BL false]) [(0,1),(1,1),(2,1),(3,1),(4,1),(5,1),(6,1),(7,1),(8,1)] [G0 0,ST ByteArray.empty,U8 0,BL false,G0 0,G0 0,G0 0,U8 0,BL false] [.int .i64 0,.string ByteArray.empty,.int .u8 0,.bool false,.int .i64 0,.int .i64 0,.int .i64 0,.int .u8 0,.bool false] Ry Yk ⟨.inl O,.inl O,.inl O,.inl O,.inl O,.inl O,.inl O,.inl O,.inl O,G⟩ O O) O (JLh (.agg [G0 2,ST ByteArray.empty,U8 40,BL false,G0 0,G0 0,G0 0,U8 0,BL false]) (Hp (cs:=[G0 2,ST ByteArray.empty,U8 40,BL false,G0 0,G0 0,G0 0,U8 0,BL false]) [(0,1),(1,1),(2,1),(3,1),(4,1),(5,1),(6,1),(7,1),(8,1)] [G0 0,ST ByteArray.empty,U8 0,BL false,G0 0,G0 0,G0 0,U8 0,BL false] [.int .i64 0,.string ByteArray.empty,.int .u8 0,.bool false,.int .i64 0,.int .i64 0,.int .i64 0,.int .u8 0,.bool false] Ry Yk ⟨.inl O,.inl O,.inl O,.inl O,.inl O,.inl O,.inl O,.inl O,.inl O,G⟩ O O) O (JLh (.agg [G0 3,ST ByteArray.empty,U8 40,BL false,G0 0,G0 0,G0 0,U8 0,BL false]) (Hp (cs:=[G0 3,ST ByteArray.empty,U8 40,BL false,G0 0,G0 0,G0 0,U8 0,BL false]) [(0,1),(1,1),(2,1),(3,1),(4,1),(5,1),(6,1),(7,1),(8,1)] [G0 0,ST ByteArray.empty,U8 0,BL false,G0 0,G0 0,G0 0,U8 0,BL false] [.int .i64 0,.string ByteArray.empty,.int .u8 0,.bool false,.int .i64 0,.int .i64 0,.int .i64 0,.int .u8 0,.bool false] Ry Yk ⟨.inl O,.inl O,.inl O,.inl O,.inl O,.inl O,.inl O,.inl O,.inl O,G⟩ O O) O (JLh (.agg [G0 4,ST ByteArray.empty,U8 40,BL false,G0 0,G0 0,G0 0,U8 0,BL false]) (Hp (cs:=[G0 4,ST ByteArray.empty,U8 40,BL false,G0 0,G0 0,G0 0,U8 0,BL false]) [(0,1),(1,1),(2,1),(3,1),(4,1),(5,1),(6,1),(7,1),(8,1)] [G0 0,ST ByteArray.empty,U8 0,BL false,G0 0,G0 0,G0 0,U8 0,BL false] [.int .i64 0,.string ByteArray.empty,.int .u8 0,.bool false,.int .i64 0,.int .i64 0,.int .i64 0,.int .u8 0,.bool false] Ry Yk ⟨.inl O,.inl O,.inl O,.inl O,.inl O,.inl O,.inl O,.inl O,.inl O,G⟩ O O) O (JLh (.agg [G0 5,ST ByteArray.empty,U8 40,BL false,G0 0,G0 0,G0 0,U8 0,BL false]) (Hp (cs:=[G0 5,ST ByteArray.empty,U8 40,BL false,G0 0,G0 0,G0 0,U8 0,BL false]) [(0,1),(1,1),(2,1),(3,1),(4,1),(5,1),(6,1),(7,1),(8,1)] [G0 0,ST ByteArray.empty,U8 0,BL false,G0 0,G0 0,G0 0,U8 0,BL false] [.int .i64 0,.string ByteArray.empty,.int .u8 0,.bool false,.int .i64 0,.int .i64 0,.int .i64 0,.int .u8 0,.bool false] Ry Yk ⟨.inl O,.inl O,.inl O,.inl O,.inl O,.inl O,.inl O,.inl O,.inl O,G⟩ O O) O (JLh (.agg [G0 6,ST ByteArray.empty,U8 20,BL false,G0 0,G0 0,G0 0,U8 0,BL false]) (Hp (cs:=[G0 6,ST ByteArray.empty,U8 20,BL false,G0 0,G0 0,G0 0,U8 0,BL false]) [(0,1),(1,1),(2,1),(3,1),(4,1),(5,1),(6,1),(7,1),(8,1)] [G0 0,ST ByteArray.empty,U8 0,BL false,G0 0,G0 0,G0 0,U8 0,BL false] [.int .i64 0,.string ByteArray.empty,.int .u8 0,.bool false,.int .i64 0,.int .i64 0,.int .i64 0,.int .u8 0,.bool false] Ry Yk ⟨.inl O,.inl O,.inl O,.inl O,.inl O,.inl O,.inl O,.inl O,.inl O,G⟩ O O) O (JLh (.agg [G0 7,ST ByteArray.empty,U8 20,BL false,G0 0,G0 0,G0 0,U8 0,BL false]) (Hp (cs:=[G0 7,ST ByteArray.empty,U8 20,BL false,G0 0,G0 0,G0 0,U8 0,BL false]) [(0,1),(1,1),(2,1),(3,1),(4,1),(5,1),(6,1),(7,1),(8,1)] [G0 0,ST ByteArray.empty,U8 0,BL false,G0 0,G0 0,G0 0,U8 0,BL false] [.int .i64 0,.string ByteArray.empty,.int .u8 0,.bool false,.int .i64 0,.int .i64 0,.int .i64 0,.int .u8 0,.bool false] Ry Yk ⟨.inl O,.inl O,.inl O,.inl O,.inl O,.inl O,.inl O,.inl O,.inl O,G⟩ O O) O (JLh (E2 [(Ga.mk 1 ByteArray.empty 40 false 0 0 0 0 false),(Ga.mk 2 ByteArray.empty 40 false 0 0 0 0 false),(Ga.mk 3 ByteArray.empty 40 false 0 0 0 0 false),(Ga.mk 4 ByteArray.empty 40 false 0 0 0 0 false),(Ga.mk 5 ByteArray.empty 40 false 0 0 0 0 false),(Ga.mk 6 ByteArray.empty 20 false 0 0 0 0 false),(Ga.mk 7 ByteArray.empty 20 false 0 0 0 0 false)]) (H9 (xs:=[.agg [G0 1,ST ByteArray.empty,U8 40,BL false,G0 0,G0 0,G0 0,U8 0,BL false],.agg [G0 2,ST ByteArray.empty,U8 40,BL false,G0 0,G0 0,G0 0,U8 0,BL false],.agg [G0 3,ST ByteArray.empty,U8 40,BL false,G0 0,G0 0,G0 0,U8 0,BL false],.agg [G0 4,ST ByteArray.empty,U8 40,BL false,G0 0,G0 0,G0 0,U8 0,BL false],.agg [G0 5,ST ByteArray.empty,U8 40,BL false,G0 0,G0 0,G0 0,U8 0,BL false],.agg [G0 6,ST ByteArray.empty,U8 20,BL false,G0 0,G0 0,G0 0,U8 0,BL false],.agg [G0 7,ST ByteArray.empty,U8 20,BL false,G0 0,G0 0,G0 0,U8 0,BL false]]) O ⟨O,O,O,O,O,O,O,O,O,O,O,O,O,O,G⟩ G28 G27 O O O O) O (Rq (E2 [(Ga.mk 1 ByteArray.empty 40 false 0 0 0 0 false),(Ga.mk 2 ByteArray.empty 40 false 0 0 0 0 false),(Ga.mk 3 ByteArray.empty 40 false 0 0 0 0 false),(Ga.mk 4 ByteArray.empty 40 false 0 0 0 0 false),(Ga.mk 5 ByteArray.empty 40 false 0 0 0 0 false),(Ga.mk 6 ByteArray.empty 20 false 0 0 0 0 false),(Ga.mk 7 ByteArray.empty 20 false 0 0 0 0 false)]) O (G7 (hK4 ?_)))))))))))
 refine Jr fun hK5=>?_
 obtain⟨r6,hr6,h⟩:=Gg h
 refine JLh (.agg (Stowed.cs r6)) (Gw O (Jx 1 0 0 0 r6 hr6) G25 ⟨O,O,O,O,O,O,O,O,G⟩) O ?_
 obtain⟨r7,hr7,h⟩:=Gg h
 refine JLh (.agg (Stowed.cs r7)) (Gw O (Jx 2 0 1 0 r7 hr7) G25 ⟨O,O,O,O,O,O,O,O,G⟩) O ?_
 obtain⟨r8,hr8,h⟩:=Gg h
 refine JLh (.agg (Stowed.cs r8)) (Gw O (Jx 3 2 1 0 r8 hr8) G25 ⟨O,O,O,O,O,O,O,O,G⟩) O ?_
 obtain⟨r9,hr9,h⟩:=Gg h
 refine JLh (.agg (Stowed.cs r9)) (Gw O (Jx 6 2 0 1 r9 hr9) G25 ⟨O,O,O,O,O,O,O,O,G⟩) O ?_
 obtain⟨r10,hr10,h⟩:=Gg h
 refine JLh (.agg (Stowed.cs r10)) (Gw O (Jx 7 2 0 2 r10 hr10) G25 ⟨O,O,O,O,O,O,O,O,G⟩) O (JLh (E1 [r6,r7,r8,r9,r10]) (H9 (xs:=[.agg (Stowed.cs r6),.agg (Stowed.cs r7),.agg (Stowed.cs r8),.agg (Stowed.cs r9),.agg (Stowed.cs r10)]) O ⟨O,O,O,O,O,O,O,O,O,O,G⟩ Hd Rg O O O O) O (Rq (E1 [r6,r7,r8,r9,r10]) O (G7 (hK5 ?_))))
 refine Jr fun hK11=>(JLh (.agg (Gu.cs r3)) (Gk Hf O O O) O (Rq (E2 [(Ga.mk 1 ByteArray.empty 40 false 0 0 0 0 false),(Ga.mk 2 ByteArray.empty 40 false 0 0 0 0 false),(Ga.mk 3 ByteArray.empty 40 false 0 0 0 0 false),(Ga.mk 4 ByteArray.empty 40 false 0 0 0 0 false),(Ga.mk 5 ByteArray.empty 40 false 0 0 0 0 false),(Ga.mk 6 ByteArray.empty 20 false 0 0 0 0 false),(Ga.mk 7 ByteArray.empty 20 false 0 0 0 0 false)]) O (Rq (E1 [r6,r7,r8,r9,r10]) O (JLh (E0 [1]) (H9 (xs:=[G0 1]) O ⟨O,O,G⟩ Gj Qd O O O O) O ?_))))
 obtain⟨r12,hr12,h⟩:=Gg h
 refine JLh (.tup [E0 r12.1,G0 r12.2]) (Gw O (G39.down F r3 [(Ga.mk 1 ByteArray.empty 40 false 0 0 0 0 false),(Ga.mk 2 ByteArray.empty 40 false 0 0 0 0 false),(Ga.mk 3 ByteArray.empty 40 false 0 0 0 0 false),(Ga.mk 4 ByteArray.empty 40 false 0 0 0 0 false),(Ga.mk 5 ByteArray.empty 40 false 0 0 0 0 false),(Ga.mk 6 ByteArray.empty 20 false 0 0 0 0 false),(Ga.mk 7 ByteArray.empty 20 false 0 0 0 0 false)] [r6,r7,r8,r9,r10] [1] r12 hr12) H15 ⟨O,O,O,O,O,O,O,O,G⟩) O (Rq (.tup [E0 r12.1,G0 r12.2]) O (JLh (E0 r12.1) (Hb O O O) O (JLh (G0 r12.2) (Hb O O O) O (Rq (E0 r12.1) O (Rq (G0 r12.2) O (G7 (hK11 ?_)))))))
 refine Jr fun hK13=>(JLh (.agg (Gu.cs r3)) (Gk Hf O O O) O (Rq (E2 [(Ga.mk 1 ByteArray.empty 40 false 0 0 0 0 false),(Ga.mk 2 ByteArray.empty 40 false 0 0 0 0 false),(Ga.mk 3 ByteArray.empty 40 false 0 0 0 0 false),(Ga.mk 4 ByteArray.empty 40 false 0 0 0 0 false),(Ga.mk 5 ByteArray.empty 40 false 0 0 0 0 false),(Ga.mk 6 ByteArray.empty 20 false 0 0 0 0 false),(Ga.mk 7 ByteArray.empty 20 false 0 0 0 0 false)]) O (Rq (E1 [r6,r7,r8,r9,r10]) O (JLh (E0 [2]) (H9 (xs:=[G0 2]) O ⟨O,O,G⟩ Gj Qd O O O O) O ?_))))
 obtain⟨r14,hr14,h⟩:=Gg h
 refine JLh (.tup [E0 r14.1,G0 r14.2]) (Gw O (G39.down F r3 [(Ga.mk 1 ByteArray.empty 40 false 0 0 0 0 false),(Ga.mk 2 ByteArray.empty 40 false 0 0 0 0 false),(Ga.mk 3 ByteArray.empty 40 false 0 0 0 0 false),(Ga.mk 4 ByteArray.empty 40 false 0 0 0 0 false),(Ga.mk 5 ByteArray.empty 40 false 0 0 0 0 false),(Ga.mk 6 ByteArray.empty 20 false 0 0 0 0 false),(Ga.mk 7 ByteArray.empty 20 false 0 0 0 0 false)] [r6,r7,r8,r9,r10] [2] r14 hr14) H15 ⟨O,O,O,O,O,O,O,O,G⟩) O (Rq (.tup [E0 r14.1,G0 r14.2]) O (JLh (E0 r14.1) (Hb O O O) O (JLh (G0 r14.2) (Hb O O O) O (Rq (E0 r14.1) O (Rq (G0 r14.2) O (G7 (hK13 ?_)))))))
 refine Jr fun hK15=>(JLh (.agg (Gu.cs r3)) (Gk Hf O O O) O (Rq (E2 [(Ga.mk 1 ByteArray.empty 40 false 0 0 0 0 false),(Ga.mk 2 ByteArray.empty 40 false 0 0 0 0 false),(Ga.mk 3 ByteArray.empty 40 false 0 0 0 0 false),(Ga.mk 4 ByteArray.empty 40 false 0 0 0 0 false),(Ga.mk 5 ByteArray.empty 40 false 0 0 0 0 false),(Ga.mk 6 ByteArray.empty 20 false 0 0 0 0 false),(Ga.mk 7 ByteArray.empty 20 false 0 0 0 0 false)]) O (Rq (E1 [r6,r7,r8,r9,r10]) O (JLh (E0 [7]) (H9 (xs:=[G0 7]) O ⟨O,O,G⟩ Gj Qd O O O O) O ?_))))
 obtain⟨r16,hr16,h⟩:=Gg h
 refine JLh (.tup [E0 r16.1,G0 r16.2]) (Gw O (G39.down F r3 [(Ga.mk 1 ByteArray.empty 40 false 0 0 0 0 false),(Ga.mk 2 ByteArray.empty 40 false 0 0 0 0 false),(Ga.mk 3 ByteArray.empty 40 false 0 0 0 0 false),(Ga.mk 4 ByteArray.empty 40 false 0 0 0 0 false),(Ga.mk 5 ByteArray.empty 40 false 0 0 0 0 false),(Ga.mk 6 ByteArray.empty 20 false 0 0 0 0 false),(Ga.mk 7 ByteArray.empty 20 false 0 0 0 0 false)] [r6,r7,r8,r9,r10] [7] r16 hr16) H15 ⟨O,O,O,O,O,O,O,O,G⟩) O (Rq (.tup [E0 r16.1,G0 r16.2]) O (JLh (E0 r16.1) (Hb O O O) O (JLh (G0 r16.2) (Hb O O O) O (Rq (E0 r16.1) O (Rq (G0 r16.2) O (G7 (hK15 ?_)))))))
 refine Jr fun hK17=>(JLh (.agg (Gu.cs r3)) (Gk Hf O O O) O (Rq (E2 [(Ga.mk 1 ByteArray.empty 40 false 0 0 0 0 false),(Ga.mk 2 ByteArray.empty 40 false 0 0 0 0 false),(Ga.mk 3 ByteArray.empty 40 false 0 0 0 0 false),(Ga.mk 4 ByteArray.empty 40 false 0 0 0 0 false),(Ga.mk 5 ByteArray.empty 40 false 0 0 0 0 false),(Ga.mk 6 ByteArray.empty 20 false 0 0 0 0 false),(Ga.mk 7 ByteArray.empty 20 false 0 0 0 0 false)]) O (Rq (E1 [r6,r7,r8,r9,r10]) O ?_)))
 obtain⟨r18,hr18,h⟩:=Gg h
 refine JLh (.tup [E0 r18.1,G0 r18.2]) (Ga2 (args:=[.agg (Gu.cs r3),E2 [(Ga.mk 1 ByteArray.empty 40 false 0 0 0 0 false),(Ga.mk 2 ByteArray.empty 40 false 0 0 0 0 false),(Ga.mk 3 ByteArray.empty 40 false 0 0 0 0 false),(Ga.mk 4 ByteArray.empty 40 false 0 0 0 0 false),(Ga.mk 5 ByteArray.empty 40 false 0 0 0 0 false),(Ga.mk 6 ByteArray.empty 20 false 0 0 0 0 false),(Ga.mk 7 ByteArray.empty 20 false 0 0 0 0 false)],E1 [r6,r7,r8,r9,r10],E0 ([]:List Int),G0 0]) O (H31 F r3 [(Ga.mk 1 ByteArray.empty 40 false 0 0 0 0 false),(Ga.mk 2 ByteArray.empty 40 false 0 0 0 0 false),(Ga.mk 3 ByteArray.empty 40 false 0 0 0 0 false),(Ga.mk 4 ByteArray.empty 40 false 0 0 0 0 false),(Ga.mk 5 ByteArray.empty 40 false 0 0 0 0 false),(Ga.mk 6 ByteArray.empty 20 false 0 0 0 0 false),(Ga.mk 7 ByteArray.empty 20 false 0 0 0 0 false)] [r6,r7,r8,r9,r10] [] 0 r18 hr18) He7 ⟨.inl O,O,.inl O,O,.inl O,O,.inr ⟨_,O,O⟩,O,.inl O,O,G⟩) O (Rq (.tup [E0 r18.1,G0 r18.2]) O (JLh (E0 r18.1) (Hb O O O) O (JLh (G0 r18.2) (Hb O O O) O (Rq (E0 r18.1) O (Rq (G0 r18.2) O (G7 (hK17 ?_)))))))
 refine Js fun hK19=>?_
 obtain⟨r20,hr20,h⟩:=Gg h
 obtain⟨r21,hr21,h⟩:=Gg h
 refine JC_d0 Qo (by kernel_rfl) (Dq (.agg (Gu.cs r3)) (Gk Hf O O O) O (Dq (E2 [(Ga.mk 1 ByteArray.empty 40 false 0 0 0 0 false),(Ga.mk 2 ByteArray.empty 40 false 0 0 0 0 false),(Ga.mk 3 ByteArray.empty 40 false 0 0 0 0 false),(Ga.mk 4 ByteArray.empty 40 false 0 0 0 0 false),(Ga.mk 5 ByteArray.empty 40 false 0 0 0 0 false),(Ga.mk 6 ByteArray.empty 20 false 0 0 0 0 false),(Ga.mk 7 ByteArray.empty 20 false 0 0 0 0 false)]) (G6 O O) O (Dq (E1 [r6,r7,r8,r9,r10]) (G6 O O) O (Dq (.agg (Stowed.cs r20)) (Gw (args:=[G0 4,G0 2,G0 2,U8 0]) O (Jx 4 2 2 0 r20 hr20) G25 ⟨O,O,O,O,O,O,O,O,G⟩) O (Dq (.tup [E1 r21.1,G0 r21.2]) (Ga2 (args:=[.agg (Gu.cs r3),E2 [(Ga.mk 1 ByteArray.empty 40 false 0 0 0 0 false),(Ga.mk 2 ByteArray.empty 40 false 0 0 0 0 false),(Ga.mk 3 ByteArray.empty 40 false 0 0 0 0 false),(Ga.mk 4 ByteArray.empty 40 false 0 0 0 0 false),(Ga.mk 5 ByteArray.empty 40 false 0 0 0 0 false),(Ga.mk 6 ByteArray.empty 20 false 0 0 0 0 false),(Ga.mk 7 ByteArray.empty 20 false 0 0 0 0 false)],E1 [r6,r7,r8,r9,r10],E0 ([]:List Int),.agg (Stowed.cs r20)]) O (H75 F r3 [(Ga.mk 1 ByteArray.empty 40 false 0 0 0 0 false),(Ga.mk 2 ByteArray.empty 40 false 0 0 0 0 false),(Ga.mk 3 ByteArray.empty 40 false 0 0 0 0 false),(Ga.mk 4 ByteArray.empty 40 false 0 0 0 0 false),(Ga.mk 5 ByteArray.empty 40 false 0 0 0 0 false),(Ga.mk 6 ByteArray.empty 20 false 0 0 0 0 false),(Ga.mk 7 ByteArray.empty 20 false 0 0 0 0 false)] [r6,r7,r8,r9,r10] [] r20 r21 hr21) He1 ⟨.inl O,O,.inl O,O,.inl O,O,.inr ⟨_,O,O⟩,O,.inl O,O,G⟩) O (Dq (.tup [E1 r21.1,G0 r21.2]) (G6 O O) O (Dq (E1 r21.1) (Hb O O O) O (Dq (G0 r21.2) (Hb O O O) O (Dq (E1 r21.1) (G8 O O) O (Dq (G0 r21.2) (G8 O O) O (Dnil ?_)))))))))))
 refine hK19 (Js fun hK22=>?_)
 obtain⟨r23,hr23,h⟩:=Gg h
 obtain⟨r24,hr24,h⟩:=Gg h
 refine JC_d0 Qo (by kernel_rfl) (Dq (.agg (Gu.cs r3)) (Gk Hf O O O) O (Dq (E2 [(Ga.mk 1 ByteArray.empty 40 false 0 0 0 0 false),(Ga.mk 2 ByteArray.empty 40 false 0 0 0 0 false),(Ga.mk 3 ByteArray.empty 40 false 0 0 0 0 false),(Ga.mk 4 ByteArray.empty 40 false 0 0 0 0 false),(Ga.mk 5 ByteArray.empty 40 false 0 0 0 0 false),(Ga.mk 6 ByteArray.empty 20 false 0 0 0 0 false),(Ga.mk 7 ByteArray.empty 20 false 0 0 0 0 false)]) (G6 O O) O (Dq (E1 [r6,r7,r8,r9,r10]) (G6 O O) O (Dq (.agg (Stowed.cs r23)) (Gw (args:=[G0 5,G0 3,G0 1,U8 0]) O (Jx 5 3 1 0 r23 hr23) G25 ⟨O,O,O,O,O,O,O,O,G⟩) O (Dq (.tup [E1 r24.1,G0 r24.2]) (Ga2 (args:=[.agg (Gu.cs r3),E2 [(Ga.mk 1 ByteArray.empty 40 false 0 0 0 0 false),(Ga.mk 2 ByteArray.empty 40 false 0 0 0 0 false),(Ga.mk 3 ByteArray.empty 40 false 0 0 0 0 false),(Ga.mk 4 ByteArray.empty 40 false 0 0 0 0 false),(Ga.mk 5 ByteArray.empty 40 false 0 0 0 0 false),(Ga.mk 6 ByteArray.empty 20 false 0 0 0 0 false),(Ga.mk 7 ByteArray.empty 20 false 0 0 0 0 false)],E1 [r6,r7,r8,r9,r10],E0 ([]:List Int),.agg (Stowed.cs r23)]) O (H75 F r3 [(Ga.mk 1 ByteArray.empty 40 false 0 0 0 0 false),(Ga.mk 2 ByteArray.empty 40 false 0 0 0 0 false),(Ga.mk 3 ByteArray.empty 40 false 0 0 0 0 false),(Ga.mk 4 ByteArray.empty 40 false 0 0 0 0 false),(Ga.mk 5 ByteArray.empty 40 false 0 0 0 0 false),(Ga.mk 6 ByteArray.empty 20 false 0 0 0 0 false),(Ga.mk 7 ByteArray.empty 20 false 0 0 0 0 false)] [r6,r7,r8,r9,r10] [] r23 r24 hr24) He1 ⟨.inl O,O,.inl O,O,.inl O,O,.inr ⟨_,O,O⟩,O,.inl O,O,G⟩) O (Dq (.tup [E1 r24.1,G0 r24.2]) (G6 O O) O (Dq (E1 r24.1) (Hb O O O) O (Dq (G0 r24.2) (Hb O O O) O (Dq (E1 r24.1) (G8 O O) O (Dq (G0 r24.2) (G8 O O) O (Dnil ?_)))))))))))
 refine hK22 (Jr fun hK25=>(JLh (.agg (Gu.cs r3)) (Gk Hf O O O) O (Rq (E2 [(Ga.mk 1 ByteArray.empty 40 false 0 0 0 0 false),(Ga.mk 2 ByteArray.empty 40 false 0 0 0 0 false),(Ga.mk 3 ByteArray.empty 40 false 0 0 0 0 false),(Ga.mk 4 ByteArray.empty 40 false 0 0 0 0 false),(Ga.mk 5 ByteArray.empty 40 false 0 0 0 0 false),(Ga.mk 6 ByteArray.empty 20 false 0 0 0 0 false),(Ga.mk 7 ByteArray.empty 20 false 0 0 0 0 false)]) O (Rq (E1 [r6,r7,r8,r9,r10]) O ?_))))
 obtain⟨r26,hr26,h⟩:=Gg h
 refine JLh (BL r26) (Gw O (G3c r3 [(Ga.mk 1 ByteArray.empty 40 false 0 0 0 0 false),(Ga.mk 2 ByteArray.empty 40 false 0 0 0 0 false),(Ga.mk 3 ByteArray.empty 40 false 0 0 0 0 false),(Ga.mk 4 ByteArray.empty 40 false 0 0 0 0 false),(Ga.mk 5 ByteArray.empty 40 false 0 0 0 0 false),(Ga.mk 6 ByteArray.empty 20 false 0 0 0 0 false),(Ga.mk 7 ByteArray.empty 20 false 0 0 0 0 false)] [r6,r7,r8,r9,r10] r26 hr26) H14 ⟨O,O,O,O,O,O,G⟩) O (Rq (BL r26) O (JLo (G0 r12.2) [] O .sct G (fun hc=>G6 O O) O (JLo (G0 r14.2) [] O .sct G (fun hc=>G6 O O) O ?_)))
 obtain⟨v27,hv27,h⟩:=Gg h
 refine JLo (G0 v27) [83,84] O .sct ⟨Ua,Ua,G⟩ (fun hc=>J0 (G97 (H6 hc hv27)) O O O) O (JLo (G0 r16.2) [] O .sct G (fun hc=>G6 O O) O ?_)
 obtain⟨v28,hv28,h⟩:=Gg h
 refine JLo (G0 v28) [85,86] O .sct ⟨Ua,Ua,G⟩ (fun hc=>J0 (G97 (H6 hc hv28)) O O O) O (JLo (G0 r21.2) [] O .sct G (fun hc=>G6 O O) O ?_)
 obtain⟨v29,hv29,h⟩:=Gg h
 refine JLo (G0 v29) [87,88] O .sct ⟨Ua,Ua,G⟩ (fun hc=>J0 (G97 (H6 hc hv29)) O O O) O (JLo (BL (decide (v29=0))) [89] O .sct ⟨Ua,G⟩ (fun hc=>Qc O O O) O (JLh (BL (r26&&(decide (v29=0)))) (Qu O O O O) O (Rq (BL (r26&&(decide (v29=0)))) O (JLo (E0 r12.1) [] O .sct G (fun hc=>G6 O O) O (JLo (E0 [1,2,3,6,7]) [] O .sct G (fun hc=>H9 (xs:=[G0 1,G0 2,G0 3,G0 6,G0 7]) O ⟨O,O,O,O,O,O,O,O,O,O,G⟩ Gj Qd O O O O) O ?_)))))
 obtain⟨r30,hr30,h⟩:=Gg h
 refine JLo (BL r30) [93,94] O .sct ⟨Ua,Ua,G⟩ (fun hc=>Gw (args:=[E0 r12.1,E0 [1,2,3,6,7]]) O (Y9 r12.1 [1,2,3,6,7] r30 (H6 hc hr30)) H3d ⟨O,O,O,O,G⟩) O (JLh (BL ((r26&&(decide (v29=0)))&&r30)) (Qu O O O O) O (Rq (BL ((r26&&(decide (v29=0)))&&r30)) O (JLo (E0 r14.1) [] O .sct G (fun hc=>G6 O O) O (JLo (E0 [2,3,6,7]) [] O .sct G (fun hc=>H9 (xs:=[G0 2,G0 3,G0 6,G0 7]) O ⟨O,O,O,O,O,O,O,O,G⟩ Gj Qd O O O O) O ?_))))
 obtain⟨r31,hr31,h⟩:=Gg h
 refine JLo (BL r31) [98,99] O .sct ⟨Ua,Ua,G⟩ (fun hc=>Gw (args:=[E0 r14.1,E0 [2,3,6,7]]) O (Y9 r14.1 [2,3,6,7] r31 (H6 hc hr31)) H3d ⟨O,O,O,O,G⟩) O (JLh (BL (((r26&&(decide (v29=0)))&&r30)&&r31)) (Qu O O O O) O (Rq (BL (((r26&&(decide (v29=0)))&&r30)&&r31)) O (JLo (E0 r16.1) [] O .sct G (fun hc=>G6 O O) O (JLo (E0 [3,7]) [] O .sct G (fun hc=>H9 (xs:=[G0 3,G0 7]) O ⟨O,O,O,O,G⟩ Gj Qd O O O O) O ?_))))
 obtain⟨r32,hr32,h⟩:=Gg h
 refine JLo (BL r32) [103,104] O .sct ⟨Ua,Ua,G⟩ (fun hc=>Gw (args:=[E0 r16.1,E0 [3,7]]) O (Y9 r16.1 [3,7] r32 (H6 hc hr32)) H3d ⟨O,O,O,O,G⟩) O (JLh (BL ((((r26&&(decide (v29=0)))&&r30)&&r31)&&r32)) (Qu O O O O) O (Rq (BL ((((r26&&(decide (v29=0)))&&r30)&&r31)&&r32)) O (JLo (G0 r18.2) [] O .sct G (fun hc=>G6 O O) O (JLo (BL (decide (r18.2=95))) [108] O .sct ⟨Ua,G⟩ (fun hc=>Qc O O O) O (JLh (BL (((((r26&&(decide (v29=0)))&&r30)&&r31)&&r32)&&(decide (r18.2=95)))) (Qu O O O O) O (Rq (BL (((((r26&&(decide (v29=0)))&&r30)&&r31)&&r32)&&(decide (r18.2=95)))) O (JLo (E1 r21.1) [] O .sct G (fun hc=>G6 O O) O (JLo (Ej r21.1.length) [112] O .sct ⟨Ua,G⟩ (fun hc=>Z6 (f:=Stowed.av) (xs:=r21.1) Hd O O) O (JLo (BL (decide ((r21.1.length:Int)=6))) [113] O .sct ⟨Ua,G⟩ (fun hc=>Qc O O O) O (JLh (BL ((((((r26&&(decide (v29=0)))&&r30)&&r31)&&r32)&&(decide (r18.2=95)))&&(decide ((r21.1.length:Int)=6)))) (Qu O O O O) O (Rq (BL ((((((r26&&(decide (v29=0)))&&r30)&&r31)&&r32)&&(decide (r18.2=95)))&&(decide ((r21.1.length:Int)=6)))) O (JLo (G0 r24.2) [] O .sct G (fun hc=>G6 O O) O (JLo (BL (decide (r24.2=93))) [117] O .sct ⟨Ua,G⟩ (fun hc=>Qc O O O) O ?_)))))))))))))
 refine JLh (BL (((((((r26&&(decide (v29=0)))&&r30)&&r31)&&r32)&&(decide (r18.2=95)))&&(decide ((r21.1.length:Int)=6)))&&(decide (r24.2=93)))) (Qu O O O O) O (Rq (BL (((((((r26&&(decide (v29=0)))&&r30)&&r31)&&r32)&&(decide (r18.2=95)))&&(decide ((r21.1.length:Int)=6)))&&(decide (r24.2=93)))) O (JLo (.agg (Gu.cs r3)) [] O .sct G (fun hc=>Gk Hf O O O) O (JLo (E2 [(Ga.mk 1 ByteArray.empty 40 false 0 0 0 0 false),(Ga.mk 2 ByteArray.empty 40 false 0 0 0 0 false),(Ga.mk 3 ByteArray.empty 40 false 0 0 0 0 false),(Ga.mk 4 ByteArray.empty 40 false 0 0 0 0 false),(Ga.mk 5 ByteArray.empty 40 false 0 0 0 0 false),(Ga.mk 6 ByteArray.empty 20 false 0 0 0 0 false),(Ga.mk 7 ByteArray.empty 20 false 0 0 0 0 false)]) [] O .sct G (fun hc=>G6 O O) O (JLo (E1 [r6,r7,r8,r9,r10]) [] O .sct G (fun hc=>G6 O O) O ?_))))
 obtain⟨r33,hr33,h⟩:=Gg h
 refine JLo (G0 r33) [121,122,123] O .sct ⟨Ua,Ua,Ua,G⟩ (fun hc=>Ga2 (args:=[.agg (Gu.cs r3),E2 [(Ga.mk 1 ByteArray.empty 40 false 0 0 0 0 false),(Ga.mk 2 ByteArray.empty 40 false 0 0 0 0 false),(Ga.mk 3 ByteArray.empty 40 false 0 0 0 0 false),(Ga.mk 4 ByteArray.empty 40 false 0 0 0 0 false),(Ga.mk 5 ByteArray.empty 40 false 0 0 0 0 false),(Ga.mk 6 ByteArray.empty 20 false 0 0 0 0 false),(Ga.mk 7 ByteArray.empty 20 false 0 0 0 0 false)],E1 [r6,r7,r8,r9,r10],E0 ([]:List Int),G0 2]) O (G60 r3 [(Ga.mk 1 ByteArray.empty 40 false 0 0 0 0 false),(Ga.mk 2 ByteArray.empty 40 false 0 0 0 0 false),(Ga.mk 3 ByteArray.empty 40 false 0 0 0 0 false),(Ga.mk 4 ByteArray.empty 40 false 0 0 0 0 false),(Ga.mk 5 ByteArray.empty 40 false 0 0 0 0 false),(Ga.mk 6 ByteArray.empty 20 false 0 0 0 0 false),(Ga.mk 7 ByteArray.empty 20 false 0 0 0 0 false)] [r6,r7,r8,r9,r10] [] 2 r33 (H6 hc hr33)) Gd6 ⟨.inl O,O,.inl O,O,.inl O,O,.inr ⟨_,O,O⟩,O,.inl O,O,G⟩) O (JLo (BL (decide (r33=91))) [124] O .sct ⟨Ua,G⟩ (fun hc=>Qc O O O) O (JLh (BL ((((((((r26&&(decide (v29=0)))&&r30)&&r31)&&r32)&&(decide (r18.2=95)))&&(decide ((r21.1.length:Int)=6)))&&(decide (r24.2=93)))&&(decide (r33=91)))) (Qu O O O O) O (Rq (BL ((((((((r26&&(decide (v29=0)))&&r30)&&r31)&&r32)&&(decide (r18.2=95)))&&(decide ((r21.1.length:Int)=6)))&&(decide (r24.2=93)))&&(decide (r33=91)))) O (JLo (.agg (Gu.cs r3)) [] O .sct G (fun hc=>Gk Hf O O O) O (JLo (E2 [(Ga.mk 1 ByteArray.empty 40 false 0 0 0 0 false),(Ga.mk 2 ByteArray.empty 40 false 0 0 0 0 false),(Ga.mk 3 ByteArray.empty 40 false 0 0 0 0 false),(Ga.mk 4 ByteArray.empty 40 false 0 0 0 0 false),(Ga.mk 5 ByteArray.empty 40 false 0 0 0 0 false),(Ga.mk 6 ByteArray.empty 20 false 0 0 0 0 false),(Ga.mk 7 ByteArray.empty 20 false 0 0 0 0 false)]) [] O .sct G (fun hc=>G6 O O) O (JLo (E1 [r6,r7,r8,r9,r10]) [] O .sct G (fun hc=>G6 O O) O ?_))))))
 obtain⟨r34,hr34,h⟩:=Gg h
 refine JLo (G0 r34) [128,129,130] O .sct ⟨Ua,Ua,Ua,G⟩ (fun hc=>Ga2 (args:=[.agg (Gu.cs r3),E2 [(Ga.mk 1 ByteArray.empty 40 false 0 0 0 0 false),(Ga.mk 2 ByteArray.empty 40 false 0 0 0 0 false),(Ga.mk 3 ByteArray.empty 40 false 0 0 0 0 false),(Ga.mk 4 ByteArray.empty 40 false 0 0 0 0 false),(Ga.mk 5 ByteArray.empty 40 false 0 0 0 0 false),(Ga.mk 6 ByteArray.empty 20 false 0 0 0 0 false),(Ga.mk 7 ByteArray.empty 20 false 0 0 0 0 false)],E1 [r6,r7,r8,r9,r10],E0 ([]:List Int),G0 6]) O (G60 r3 [(Ga.mk 1 ByteArray.empty 40 false 0 0 0 0 false),(Ga.mk 2 ByteArray.empty 40 false 0 0 0 0 false),(Ga.mk 3 ByteArray.empty 40 false 0 0 0 0 false),(Ga.mk 4 ByteArray.empty 40 false 0 0 0 0 false),(Ga.mk 5 ByteArray.empty 40 false 0 0 0 0 false),(Ga.mk 6 ByteArray.empty 20 false 0 0 0 0 false),(Ga.mk 7 ByteArray.empty 20 false 0 0 0 0 false)] [r6,r7,r8,r9,r10] [] 6 r34 (H6 hc hr34)) Gd6 ⟨.inl O,O,.inl O,O,.inl O,O,.inr ⟨_,O,O⟩,O,.inl O,O,G⟩) O (JLo (BL (decide (r34=90))) [131] O .sct ⟨Ua,G⟩ (fun hc=>Qc O O O) O (JLh (BL (((((((((r26&&(decide (v29=0)))&&r30)&&r31)&&r32)&&(decide (r18.2=95)))&&(decide ((r21.1.length:Int)=6)))&&(decide (r24.2=93)))&&(decide (r33=91)))&&(decide (r34=90)))) (Qu O O O O) O (Rq (BL (((((((((r26&&(decide (v29=0)))&&r30)&&r31)&&r32)&&(decide (r18.2=95)))&&(decide ((r21.1.length:Int)=6)))&&(decide (r24.2=93)))&&(decide (r33=91)))&&(decide (r34=90)))) O (JLo (.agg (Gu.cs r3)) [] O .sct G (fun hc=>Gk Hf O O O) O (JLo (E2 [(Ga.mk 1 ByteArray.empty 40 false 0 0 0 0 false),(Ga.mk 2 ByteArray.empty 40 false 0 0 0 0 false),(Ga.mk 3 ByteArray.empty 40 false 0 0 0 0 false),(Ga.mk 4 ByteArray.empty 40 false 0 0 0 0 false),(Ga.mk 5 ByteArray.empty 40 false 0 0 0 0 false),(Ga.mk 6 ByteArray.empty 20 false 0 0 0 0 false),(Ga.mk 7 ByteArray.empty 20 false 0 0 0 0 false)]) [] O .sct G (fun hc=>G6 O O) O (JLo (E1 [r6,r7,r8,r9,r10]) [] O .sct G (fun hc=>G6 O O) O ?_))))))
 obtain⟨r35,hr35,h⟩:=Gg h
 refine JLo (G0 r35) [135,136,137] O .sct ⟨Ua,Ua,Ua,G⟩ (fun hc=>Ga2 (args:=[.agg (Gu.cs r3),E2 [(Ga.mk 1 ByteArray.empty 40 false 0 0 0 0 false),(Ga.mk 2 ByteArray.empty 40 false 0 0 0 0 false),(Ga.mk 3 ByteArray.empty 40 false 0 0 0 0 false),(Ga.mk 4 ByteArray.empty 40 false 0 0 0 0 false),(Ga.mk 5 ByteArray.empty 40 false 0 0 0 0 false),(Ga.mk 6 ByteArray.empty 20 false 0 0 0 0 false),(Ga.mk 7 ByteArray.empty 20 false 0 0 0 0 false)],E1 [r6,r7,r8,r9,r10],E0 ([]:List Int),G0 3]) O (G60 r3 [(Ga.mk 1 ByteArray.empty 40 false 0 0 0 0 false),(Ga.mk 2 ByteArray.empty 40 false 0 0 0 0 false),(Ga.mk 3 ByteArray.empty 40 false 0 0 0 0 false),(Ga.mk 4 ByteArray.empty 40 false 0 0 0 0 false),(Ga.mk 5 ByteArray.empty 40 false 0 0 0 0 false),(Ga.mk 6 ByteArray.empty 20 false 0 0 0 0 false),(Ga.mk 7 ByteArray.empty 20 false 0 0 0 0 false)] [r6,r7,r8,r9,r10] [] 3 r35 (H6 hc hr35)) Gd6 ⟨.inl O,O,.inl O,O,.inl O,O,.inr ⟨_,O,O⟩,O,.inl O,O,G⟩) O (JLo (BL (decide (r35=0))) [138] O .sct ⟨Ua,G⟩ (fun hc=>Qc O O O) O (JLh (BL ((((((((((r26&&(decide (v29=0)))&&r30)&&r31)&&r32)&&(decide (r18.2=95)))&&(decide ((r21.1.length:Int)=6)))&&(decide (r24.2=93)))&&(decide (r33=91)))&&(decide (r34=90)))&&(decide (r35=0)))) (Qu O O O O) O (Rq (BL ((((((((((r26&&(decide (v29=0)))&&r30)&&r31)&&r32)&&(decide (r18.2=95)))&&(decide ((r21.1.length:Int)=6)))&&(decide (r24.2=93)))&&(decide (r33=91)))&&(decide (r34=90)))&&(decide (r35=0)))) O (G7 (hK25 ?_)))))
 refine Gt (fin1 BL h)

def Q5 (F:Nat) (l:List H2) (covers:Int) (drops:List Gy) (which:Int):Option Bool:=
 bnd (Qm l covers) fun r3=>
 bnd (Qp r3 drops 9) fun r5=>
 each (fun y25 i25 (s25:(List Int)) nx25=>
  jp (fun kj28=>
   bnd (Gfa (i25:Int) 4294967295) fun m31=>
   bif decide ((H70 .u16 (Gb7 .u16 which m31) 1)=1) then
   (need (decide ((s25.length+[y25.Ga].length)*8≤140737488355328∧s25.length+[y25.Ga].length≤maxLen)) <|
    kj28 (s25++[y25.Ga]))
   else
   (kj28 s25)) fun(j28:(List Int))=>
  nx25 j28)
 (fun(s25:(List Int))=>
  bnd (R9 F r3 r5.1 r5.2 s25) fun r34=>
  bif ((decide (r34.2≠0))||(decide ((r34.1.length:Int) < (s25.length:Int)))) then
  (some false)
  else
  (bnd (Ju F r3 r5.1 r5.2 r34.1 0) fun r39=>
   bnd (bif (!(decide (r39.2≠(r34.1.length:Int)))) then R1 r39.1 r34.1 else some default) fun r42=>
   bnd (bif (!((decide (r39.2≠(r34.1.length:Int)))||r42)) then Ra r3 r5.1 r39.1 else some default) fun r43=>
   bif (((decide (r39.2≠(r34.1.length:Int)))||r42)||(!r43)) then
   (some false)
   else
   (each (fun y67 i67 (s67:Unit) nx67=>
     bnd (Ju F r3 r5.1 r5.2 r34.1 y67) fun r73=>
     bnd (R1 r73.1 s25) fun r75=>
     bif (!r75) then
     (some false)
     else
     (nx67 ()))
    (fun(s67:Unit)=>
     bnd (Qx F) fun r78=>
     some r78) r34.1 0 ()))) r5.2 0 []
theorem G75 (F:Nat) (l:List H2) (covers:Int) (drops:List Gy) (which:Int) (r:Bool) (h:Q5 F l covers drops which=some r):Pure Ek 3 [Eb l,.sc (.int .u32 covers),Ea drops,.sc (.int .u16 which)] (·=BL r):=by
 unfold Q5 at h
 refine H1 [.tmp 8] Tryz.func3 O O (Jr fun hK1=>(Rq (BL false) O (G7 (hK1 (Jr fun hK2=>(Rq (Eb l) O (Rq (.sc (.int .u32 covers)) O ?_)))))))
 obtain⟨r3,hr3,h⟩:=Gg h
 refine JLh (.agg (Gu.cs r3)) (Gw O (G9c l covers r3 hr3) tf_call_4 ⟨O,O,O,O,G⟩) O (JLh (.ptr 1001 0) (Jb 1001 13 Gf0 O O) O (J8 (u:=.junk) (Ht (u:=.agg (Gu.cs r3)) (ds:=(Gu.cs r3)) G49 O O O O O O O O) (G7 (hK2 (Gs [(2,Ea drops),(3,.sc (.int .u16 which)),(9,Ec r3)] [] 1001 rfl rfl rfl G rfl (by exact⟨.conv (.same rfl),.conv (.same rfl),.ptr,G⟩) (Jr fun hK4=>(JLh (.agg (Gu.cs r3)) (Gk Hf O O O) O (Rq (Ea drops) O ?_))))))))
 obtain⟨r5,hr5,h⟩:=Gg h
 refine JLh (.tup [E2 r5.1,E1 r5.2]) (Gw O (Ga6 r3 drops 9 r5 hr5) tf_call_5 ⟨O,O,O,O,O,O,G⟩) O (Rq (.tup [E2 r5.1,E1 r5.2]) O (JLh (E2 r5.1) (Hb O O O) O (JLh (E1 r5.2) (Hb O O O) O (Rq (E2 r5.1) O (Rq (E1 r5.2) O (G7 (hK4 (Jr fun hK6=>(JLh (OW 1002 1 G0 ([]:List Int)) (G6d 1002 3 1 O O O) O (G7 (hK6 (Js fun hK7=>Jr fun hK8=>(Rq (E1 r5.2) O (JLl Hd O O O fun hm33=>(Rq (G0 0) O (G7 (hK8 (Gv ?_))))))))))))))))))
 obtain⟨b25,kx25,hb25,hkx25,h⟩:=Ja h
 refine Hr (fun i25 (s25:(List Int))=>each b25 kx25 (List.drop i25 r5.2) i25 s25=some r) (fun i25 s25=>[(3,.sc (.int .u16 which)),(9,Ec r3),(10,E2 r5.1),(11,E1 r5.2),(12,OW 1002 1 G0 s25),(32,E1 r5.2),(33,Ej r5.2.length),(34,Ej i25)]) (fun i25 s25=>[(1002,.spare 3 1 s25.length s25.length)]) (fun i25=>r5.2.length - i25) 0 [] h ⟨(by repeat' constructor),⟨⟨_,rfl,.same⟩,G⟩,rfl⟩ ?_
 clear h
 intro i25 s25 hi25 K25 e25
 refine Jr fun hK26=>(JLh (BL (decide ((i25:Int) < (r5.2.length:Int)))) (Jc O O O) O (G7 (hK26 (Js fun hK27=>Gm O (fun hb=>?_) (fun hb=>?_)))))
 ·
  have hk25:=Jz hb
  obtain⟨y25,nx25,hy25,hn25,h⟩:=Hu hi25 hk25
  replace h:=Zr hb25 h
  refine Gp (hK27 ?_)
  obtain⟨kj28,hkj28,h⟩:=Yo h
  refine Rb (fun j28:(List Int)=>kj28 j28=some r) (fun j28=>[(3,.sc (.int .u16 which)),(9,Ec r3),(10,E2 r5.1),(11,E1 r5.2),(12,OW 1002 1 G0 j28),(32,E1 r5.2),(33,Ej r5.2.length),(34,Ej i25)]) (fun j28=>[(1002,.spare 3 1 j28.length j28.length)]) (fun Kj28 ej28=>?_) ?_
  ·
   refine Gv (Jr fun hK29=>(Rq (Ej i25) O (JLh (Ed y25) (He (f:=Stowed.av) (xs:=r5.2) (y:=y25) O O O Hd hy25 O) O (JLh (.agg (Stowed.cs y25)) (Gk Yz O O O) O (JLh (.ptr 1003 0) (Jb 1003 4 Rg O O) O (Rq (Ej i25) O (J8 (u:=.junk) (Ht (u:=.agg (Stowed.cs y25)) (ds:=[G0 y25.Ga,G0 y25.Slot.G3,G0 y25.Slot.Tier,U8 y25.Slot.Half]) Zv O O O O O O O O) (G7 (hK29 ?_)))))))))
   refine Gs [(3,.sc (.int .u16 which)),(9,Ec r3),(10,E2 r5.1),(11,E1 r5.2),(12,OW 1002 1 G0 s25),(13,Ej i25),(14,Ed y25),(32,E1 r5.2),(33,Ej r5.2.length),(34,Ej i25)] [(1002,.spare 3 1 s25.length s25.length)] 1003 rfl rfl rfl ⟨⟨_,rfl,.same⟩,G⟩ rfl (by repeat' (first | exact .ptr | constructor)) (Jr fun hK30=>(Rq (.sc (.int .u16 which)) O (Rq (Ej i25) O ?_)))
   obtain⟨m31,hm31,h⟩:=Gg h
   refine JLh (.sc (.int .u16 (Gb7 .u16 which m31))) (J20 (s:=m31) (G4d hm31).1 O O O) O (JLh (.sc (.int .u16 (H70 .u16 (Gb7 .u16 which m31) 1))) (J46 O O O) O (JLh (BL (decide ((H70 .u16 (Gb7 .u16 which m31) 1)=1))) (Qc O O O) O (G7 (hK30 (JCc O h (fun h hb=>?_) (fun h hb=>?_))))))
   ·
    refine G4 (Rq (OW 1002 1 G0 s25) O (JLh (Ed y25) (Gd Jq O O O) O (JLh (G0 y25.Ga) (Gi Ge O O O) O (JLh (E0 [y25.Ga]) (H9 (xs:=[G0 y25.Ga]) O ⟨O,O,G⟩ Gj Qd O O O O) O ?_))))
    obtain⟨ha32,h⟩:=Jm h
    refine JLh (OW 1002 1 G0 (s25++[y25.Ga])) (Yb (f:=G0) (xs:=s25) (ys:=[y25.Ga]) O O O O Gj G09 ha32 (fun _=>O) (.inl O) O) O (Rq (OW 1002 1 G0 (s25++[y25.Ga])) O (G7 (ej28 _ _ (s25++[y25.Ga]) h ⟨(by repeat' constructor),⟨⟨_,rfl,.same⟩,G⟩,rfl⟩)))
   ·
    refine Gp (ej28 _ _ s25 h ⟨(by repeat' constructor),⟨⟨_,rfl,.same⟩,G⟩,rfl⟩)
  ·intro j28 h
   replace h:=app1 hkj28 h
   refine G4 (JLh (G0 ((i25+1:Nat):Int)) (J0 (Ho hk25 hm33) O O O) O (Rq (G0 ((i25+1:Nat):Int)) O (G7 (e25 _ _ (i25+1) j28 (app1 hn25 h) (by omega) ⟨(by repeat' constructor),⟨⟨_,rfl,.same⟩,G⟩,rfl⟩))))
 ·
  have h:=app1 hkx25 (Hv hi25 (Hi hb))
  refine Hy (hK7 (Jr fun hK33=>(JLh (.agg (Gu.cs r3)) (Gk Hf O O O) O (Rq (E2 r5.1) O (Rq (E1 r5.2) O (Rq (OW 1002 1 G0 s25) O ?_))))))
  obtain⟨r34,hr34,h⟩:=Gg h
  refine JLh (.tup [E0 r34.1,G0 r34.2]) (Gw O (G39.down F r3 r5.1 r5.2 s25 r34 hr34) H15 ⟨O,O,O,O,O,O,O,O,G⟩) O (Rq (.tup [E0 r34.1,G0 r34.2]) O (JLh (E0 r34.1) (Hb O O O) O (JLh (G0 r34.2) (Hb O O O) O (Rq (E0 r34.1) O (Rq (G0 r34.2) O (G7 (hK33 (Js fun hK35=>?_))))))))
  refine Jr fun hK36=>(Rq (G0 r34.2) O (JLh (BL (decide (r34.2≠0))) (H12 O O O) O (Rq (BL (decide (r34.2≠0))) O (JLo (E0 r34.1) [] O .scf G (fun hc=>G6 O O) O (JLo (Ej r34.1.length) [61] O .scf ⟨Ua,G⟩ (fun hc=>Z6 (f:=G0) (xs:=r34.1) Gj O O) O (JLo (OW 1002 1 G0 s25) [] O .scf G (fun hc=>G6 O O) O (JLo (Ej s25.length) [63] O .scf ⟨Ua,G⟩ (fun hc=>Z6 (f:=G0) (xs:=s25) Gj O O) O (JLo (BL (decide ((r34.1.length:Int) < (s25.length:Int)))) [62,64] O .scf ⟨Ua,Ua,G⟩ (fun hc=>Jc O O O) O (JLh (BL ((decide (r34.2≠0))||(decide ((r34.1.length:Int) < (s25.length:Int))))) (G44 O O O O) O (G7 (hK36 (JCc O h (fun h hb=>?_) (fun h hb=>?_)))))))))))))
  ·
   refine Jr fun hK37=>(Rq (BL false) O (G7 (hK37 (Gt (fin1 BL h)))))
  ·
   refine Gp (hK35 (Jr fun hK38=>(JLh (.agg (Gu.cs r3)) (Gk Hf O O O) O (Rq (E2 r5.1) O (Rq (E1 r5.2) O (Rq (E0 r34.1) O ?_))))))
   obtain⟨r39,hr39,h⟩:=Gg h
   refine JLh (.tup [E1 r39.1,G0 r39.2]) (Gw O (Zy F r3 r5.1 r5.2 r34.1 0 r39 hr39) J37 ⟨O,O,O,O,O,O,O,O,O,O,G⟩) O (Rq (.tup [E1 r39.1,G0 r39.2]) O (JLh (E1 r39.1) (Hb O O O) O (JLh (G0 r39.2) (Hb O O O) O (Rq (E1 r39.1) O (Rq (G0 r39.2) O (G7 (hK38 (Js fun hK40=>Jr fun hK41=>(Rq (G0 r39.2) O (Rq (E0 r34.1) O (JLl Gj O O O fun hm77=>(JLh (BL (decide (r39.2≠(r34.1.length:Int)))) (H12 O O O) O (Rq (BL (decide (r39.2≠(r34.1.length:Int)))) O (JLo (E1 r39.1) [] O .scf G (fun hc=>G6 O O) O (JLo (E0 r34.1) [] O .scf G (fun hc=>G6 O O) O ?_)))))))))))))))
   obtain⟨r42,hr42,h⟩:=Gg h
   refine JLo (BL r42) [80,81] O .scf ⟨Ua,Ua,G⟩ (fun hc=>Gw (args:=[E1 r39.1,E0 r34.1]) O (G45 r39.1 r34.1 r42 (H6 hc hr42)) J36 ⟨O,O,O,O,G⟩) O (JLh (BL ((decide (r39.2≠(r34.1.length:Int)))||r42)) (G44 O O O O) O (Rq (BL ((decide (r39.2≠(r34.1.length:Int)))||r42)) O (JLo (.agg (Gu.cs r3)) [] O .scf G (fun hc=>Gk Hf O O O) O (JLo (E2 r5.1) [] O .scf G (fun hc=>G6 O O) O (JLo (E1 r39.1) [] O .scf G (fun hc=>G6 O O) O ?_)))))
   obtain⟨r43,hr43,h⟩:=Gg h
   refine JLo (BL r43) [85,86,87] O .scf ⟨Ua,Ua,Ua,G⟩ (fun hc=>Gw (args:=[.agg (Gu.cs r3),E2 r5.1,E1 r39.1]) O (G3c r3 r5.1 r39.1 r43 (H6 hc hr43)) H14 ⟨O,O,O,O,O,O,G⟩) O (JLo (BL (!r43)) [88] O .scf ⟨Ua,G⟩ (fun hc=>G06 (b:=r43) O O) O (JLh (BL (((decide (r39.2≠(r34.1.length:Int)))||r42)||(!r43))) (G44 O O O O) O (G7 (hK41 (JCc O h (fun h hb=>?_) (fun h hb=>?_))))))
   ·
    refine Jr fun hK44=>(Rq (BL false) O (G7 (hK44 (Gt (fin1 BL h)))))
   ·
    refine Gp (hK40 (Js fun hK45=>Jr fun hK46=>(Rq (E0 r34.1) O (JLl Gj O O O fun hm92=>(Rq (G0 0) O (G7 (hK46 (Gv ?_))))))))
    obtain⟨b67,kx67,hb67,hkx67,h⟩:=Ja h
    refine Hr (fun i67 (s67:Unit)=>each b67 kx67 (List.drop i67 r34.1) i67 s67=some r) (fun i67 s67=>[(9,Ec r3),(10,E2 r5.1),(11,E1 r5.2),(12,OW 1002 1 G0 s25),(15,E0 r34.1),(91,E0 r34.1),(92,Ej r34.1.length),(93,Ej i67)]) (fun i67 s67=>[(1002,.spare 3 1 s25.length s25.length)]) (fun i67=>r34.1.length - i67) 0 () h ⟨(by repeat' constructor),⟨⟨_,rfl,.same⟩,G⟩,rfl⟩ ?_
    clear h
    intro i67 s67 hi67 K67 e67
    refine Jr fun hK68=>(JLh (BL (decide ((i67:Int) < (r34.1.length:Int)))) (Jc O O O) O (G7 (hK68 (Js fun hK69=>Gm O (fun hb=>?_) (fun hb=>?_)))))
    ·
     have hk67:=Jz hb
     obtain⟨y67,nx67,hy67,hn67,h⟩:=Hu hi67 hk67
     replace h:=Zr hb67 h
     refine Gp (hK69 (Js fun hK70=>Gv (Jr fun hK71=>(JLh (.dptr [G0 y67]) (He (f:=G0) (xs:=r34.1) (y:=y67) O O O Gj hy67 O) O (JLh (G0 y67) (Gi Ge O O O) O (Rq (G0 y67) O (G7 (hK71 (Jr fun hK72=>(JLh (.agg (Gu.cs r3)) (Gk Hf O O O) O (Rq (E2 r5.1) O (Rq (E1 r5.2) O (Rq (E0 r34.1) O (Rq (G0 y67) O ?_))))))))))))))
     obtain⟨r73,hr73,h⟩:=Gg h
     refine JLh (.tup [E1 r73.1,G0 r73.2]) (Gw O (Zy F r3 r5.1 r5.2 r34.1 y67 r73 hr73) J37 ⟨O,O,O,O,O,O,O,O,O,O,G⟩) O (Rq (.tup [E1 r73.1,G0 r73.2]) O (JLh (E1 r73.1) (Hb O O O) O (JLh (G0 r73.2) (Hb O O O) O (Rq (E1 r73.1) O (Rq (G0 r73.2) O (G7 (hK72 (Jr fun hK74=>(Rq (E1 r73.1) O (Rq (OW 1002 1 G0 s25) O ?_))))))))))
     obtain⟨r75,hr75,h⟩:=Gg h
     refine JLh (BL r75) (Gw O (G45 r73.1 s25 r75 hr75) J36 ⟨O,O,O,O,G⟩) O (JLh (BL (!r75)) (G06 (b:=r75) O O) O (G7 (hK74 (JCc O h (fun h hb=>?_) (fun h hb=>?_)))))
     ·
      refine Jr fun hK76=>(Rq (BL false) O (G7 (hK76 (Gt (fin1 BL h)))))
     ·
      refine Gp (hK70 (G4 (JLh (G0 ((i67+1:Nat):Int)) (J0 (Ho hk67 hm92) O O O) O (Rq (G0 ((i67+1:Nat):Int)) O (G7 (e67 _ _ (i67+1) () (app1 hn67 h) (by omega) ⟨(by repeat' constructor),⟨⟨_,rfl,.same⟩,G⟩,rfl⟩))))))
    ·
     have h:=app1 hkx67 (Hv hi67 (Hi hb))
     refine Hy (hK45 (Jr fun hK77=>?_))
     obtain⟨r78,hr78,h⟩:=Gg h
     refine JLh (BL r78) (Gw O (Gb9 F r78 hr78) J92 G) O (Rq (BL r78) O (G7 (hK77 (Gt (fin1 BL h)))))
end
end Go.Proofs.YtapmanciffiibaaGreat
