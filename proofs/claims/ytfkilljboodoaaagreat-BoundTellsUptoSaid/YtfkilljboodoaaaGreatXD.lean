/-
 Models of functions of the program,and that they return what the models say.
-/
import Derived.Test.YtfkilljboodoaaaGreatXDb
set_option maxRecDepth 100000
set_option linter.unusedVariables false
set_option linter.unusedSimpArgs false
namespace Go.Proofs.YtfkilljboodoaaaGreat
open Go.RowKit
noncomputable section
open XAF
open XLF
open XBF
open XDF

def Zh (boxes:List H4) (g:G6):Option (Gj×Bool):=
 bnd (Jq boxes g 40) fun r3=>
 bnd (Jq boxes g 20) fun r4=>
 Rm (r3+r4) fun v6=>
 some ((Gj.mk g r3 r4),decide (0 < v6))
theorem H43 (boxes:List H4) (g:G6) (r:Gj×Bool) (h:Zh boxes g=some r):Pure Tryz.prog 225 [E2 boxes,.agg [G1 g.Load,G1 g.Discharge]] (·=.tup [.agg (Gj.cs r.1),BL r.2]):=by
 unfold Zh at h
 refine H1 [.cell 4 82,.tmp 5] Tryz.func225 G G (G5 fun K1 hK1=>G3 (JLh (.ptr 1135 0) (Qi (u:=.agg [G1 g.Load,G1 g.Discharge]) (cs:=[G1 g.Load,G1 g.Discharge]) 1135 G G G G G) G (JLh (.ptr 1136 0) (G15 1136 [G1 0,G1 0,G1 0,G1 0] [.int .i64 0,.int .i64 0,.int .i64 0,.int .i64 0] Gba ⟨.inl G,.inl G,.inl G,.inl G,ø⟩ G G) G (JLh (BL false) (G8 G G) G (G9 (hK1 _ _ (Gz [(0,E2 boxes),(3,.dptr [G1 g.Load,G1 g.Discharge]),(4,.ptr 1136 0)] [(1136,.box 82 [G1 0,G1 0,G1 0,G1 0])] 1135 rfl rfl rfl ⟨⟨_,rfl,.boxEq rfl rfl⟩,ø⟩ rfl (by exact⟨.conv (.same rfl),.ptr,.conv (.same rfl),ø⟩) (G5 (fun K2 hK2=>?_)))))))))
 refine Z9 (l':=[(0,E2 boxes),(3,.dptr [G1 g.Load,G1 g.Discharge]),(4,.ptr 1136 0)]) (L':=[(1136,.box 82 [G1 0,G1 0,G1 0,G1 0])]) ⟨⟨.same rfl,.same rfl,.same rfl,ø⟩,⟨⟨_,rfl,.boxL rfl (by repeat' constructor)⟩,ø⟩,rfl⟩ ?_
 obtain⟨r3,hr3,h⟩:=Gf h
 obtain⟨r4,hr4,h⟩:=Gf h
 refine Jc [8,9] [0,0,0,0,0,0,0,0,0,0] [1,1,1,1,1,1,1,1,0,0] [[(1136,.box 82 [G1 0,G1 0,G1 0,G1 0])],((1137,.box 82 [.junk,.junk,.junk,.junk])::[(1136,.box 82 [G1 0,G1 0,G1 0,G1 0])]),((1137,.box 82 [G1 g.Load,G1 g.Discharge,G1 r3,G1 r4])::((1137,.box 82 [.junk,.junk,.junk,.junk])::[(1136,.box 82 [G1 0,G1 0,G1 0,G1 0])]))] J3 (by kernel_rfl) rfl rfl ?_
 refine Gb (u:=.agg [G1 g.Load,G1 g.Discharge]) G G ⟨Gh (Gi Ho G G G) G,Gh (Gi Ho G G G) G,ø⟩ (Gb (u:=E2 boxes) G G ⟨Gh (G4 G G) G,Gh (G4 G G) G,ø⟩ (Gb (u:=.agg [G1 g.Load,G1 g.Discharge]) G G ⟨Gh (Gi Ho G G G) G,Gh (Gi Ho G G G) G,ø⟩ (Gb (u:=G1 r3) G G ⟨Gh (Gs (args:=[E2 boxes,.agg [G1 g.Load,G1 g.Discharge],U8 40]) G (Q5 boxes g 40 r3 hr3) G48 ⟨G,G,G,G,G,G,ø⟩) G,Gh (Gs (args:=[E2 boxes,.agg [G1 g.Load,G1 g.Discharge],U8 40]) G (Q5 boxes g 40 r3 hr3) G48 ⟨G,G,G,G,G,G,ø⟩) G,ø⟩ (Gb (u:=E2 boxes) G G ⟨Gh (G4 G G) G,Gh (G4 G G) G,ø⟩ (Gb (u:=.agg [G1 g.Load,G1 g.Discharge]) G G ⟨Gh (Gi Ho G G G) G,Gh (Gi Ho G G G) G,ø⟩ (Gb (u:=G1 r4) G G ⟨Gh (Gs (args:=[E2 boxes,.agg [G1 g.Load,G1 g.Discharge],U8 20]) G (Q5 boxes g 20 r4 hr4) G48 ⟨G,G,G,G,G,G,ø⟩) G,Gh (Gs (args:=[E2 boxes,.agg [G1 g.Load,G1 g.Discharge],U8 20]) G (Q5 boxes g 20 r4 hr4) G48 ⟨G,G,G,G,G,G,ø⟩) G,ø⟩ (Gb (u:=.agg [G1 g.Load,G1 g.Discharge,G1 r3,G1 r4]) G G ⟨Gh (Q0 (cs:=[G1 g.Load,G1 g.Discharge,G1 r3,G1 r4]) [(0,2),(2,1),(3,1)] [G1 0,G1 0,G1 0,G1 0] [.int .i64 0,.int .i64 0,.int .i64 0,.int .i64 0] Ge6 Gba ⟨.inl G,.inl G,.inl G,.inl G,ø⟩ G G) G,Gh (Q0 (cs:=[G1 g.Load,G1 g.Discharge,G1 r3,G1 r4]) [(0,2),(2,1),(3,1)] [G1 0,G1 0,G1 0,G1 0] [.int .i64 0,.int .i64 0,.int .i64 0,.int .i64 0] Ge6 Gba ⟨.inl G,.inl G,.inl G,.inl G,ø⟩ G G) G,ø⟩ (D_w (u:=.ptr 1137 0) G G G G (Gh (Jn 1137 4 Gc8 G G) G) (Jbc (u:=.junk) G G G G (Gh (J4 (u:=.agg [G1 g.Load,G1 g.Discharge,G1 r3,G1 r4]) (ds:=[G1 g.Load,G1 g.Discharge,G1 r3,G1 r4]) Gfa G G G G G G G G) G) (Rb ?_))))))))))
 refine hK2 _ _ (Gz [(4,.ptr 1136 0),(6,.dptr [G1 g.Load,G1 g.Discharge,G1 r3,G1 r4])] [(1136,.box 82 [G1 0,G1 0,G1 0,G1 0])] 1137 rfl rfl rfl ⟨⟨_,rfl,.boxEq rfl rfl⟩,ø⟩ rfl (by exact⟨.conv (.same rfl),.ptr,ø⟩) (G5 (fun K5 hK5=>Z9 (l':=[(4,.ptr 1136 0),(6,.dptr [G1 g.Load,G1 g.Discharge,G1 r3,G1 r4])]) (L':=[(1136,.box 82 [G1 0,G1 0,G1 0,G1 0])]) ⟨⟨.same rfl,.same rfl,ø⟩,⟨⟨_,rfl,.boxL rfl (by repeat' constructor)⟩,ø⟩,rfl⟩ ?_)))
 obtain⟨v6,hv6,h⟩:=Hf h
 refine Jc [7] [0,0,0,0,0,0,0,0,1] [0,1,1,1,1,1,1,0,1] [[(1136,.box 82 [G1 0,G1 0,G1 0,G1 0])],((1136,.box 82 [G1 g.Load,G1 g.Discharge,G1 r3,G1 r4])::[(1136,.box 82 [G1 0,G1 0,G1 0,G1 0])])] J3 (by kernel_rfl) rfl rfl ?_
 refine Gb (u:=.agg [G1 g.Load,G1 g.Discharge,G1 r3,G1 r4]) G G ⟨Gh (Gi Gf5 G G G) G,ø⟩ (Gb (u:=.dptr [G1 r3,G1 r4]) G G ⟨Gh (Ge G7b G G G) G,Gh (Ge G7b G G G) G,ø⟩ (Gb (u:=G1 r3) G G ⟨Gh (Gk Gc G G G) G,Gh (Gk Gc G G G) G,ø⟩ (Gb (u:=.dptr [G1 r4]) G G ⟨Gh (Ge G7a G G G) G,Gh (Ge G7a G G G) G,ø⟩ (Gb (u:=G1 r4) G G ⟨Gh (Gk Gc G G G) G,Gh (Gk Gc G G G) G,ø⟩ (Gb (u:=G1 v6) G G ⟨Gh (Hj hv6 G G G) G,Gh (Hj hv6 G G G) G,ø⟩ (Gb (u:=BL (decide (0 < v6))) G G ⟨Gh (Ya G G G) G,Gh (Ya G G G) G,ø⟩ (Jbc (u:=.junk) G G G G (Gh (J4 (u:=.agg [G1 g.Load,G1 g.Discharge,G1 r3,G1 r4]) (ds:=[G1 g.Load,G1 g.Discharge,G1 r3,G1 r4]) Gfa G G G G G G G G) G) (Gb (u:=BL (decide (0 < v6))) G G ⟨Gh (G8 G G) G,ø⟩ (Rb ?_)))))))))
 refine hK5 _ _ (Gx (⟨[.agg [G1 g.Load,G1 g.Discharge,G1 r3,G1 r4],BL (decide (0 < v6))],[],ø,G,⟨⟨_,⟨_,_,_,_,G,G,G,.inl ⟨Gf5,G⟩⟩,.conv (.same G)⟩,⟨_,G,.conv (.same G)⟩,ø⟩,G,congrArg (fun r:Gj×Bool=>(.tup [.agg (Gj.cs r.1),BL r.2]:AV)) (Option.some.inj h)⟩))

def Zm (self_:(List Gj)→Int→Int→Int→Option Int) (F:Nat) (l:List Gj) (at_:Int) (tiers:Int) (halves:Int):Option Int:=
 bif decide (at_=(l.length:Int)) then
 (some 0)
 else
 (loop (fun nx8 (s8:Int×Int)=>
   Qe l at_ fun y11=>
   bif decide (s8.2≤y11.Whole) then
   (loop (fun nx64 (s64:Int×Int)=>
     Qe l at_ fun y67=>
     bif decide (s64.2≤y67.Half) then
     (jp (fun kj69=>
       Qe l at_ fun y71=>
       Rm (y71.Whole - s8.2) fun v73=>
       Qe l at_ fun y74=>
       Rm (y74.Half - s64.2) fun v76=>
       bnd (Yk F tiers v73 v76) fun r77=>
       bnd (bif ((!(decide (halves < r77)))&&(decide (0≤s64.1))) then Rm (s8.2+s64.2) some else some 0) fun v80=>
       bif ((decide (halves < r77))||((decide (0≤s64.1))&&(decide (s64.1≤v80)))) then
       (kj69 s64.1)
       else
       (Rm (s8.2+s64.2) fun v82=>
        Rm (at_+1) fun v83=>
        Rm (halves - r77) fun v84=>
        bnd (self_ l v83 tiers v84) fun r85=>
        Rm (v82+r85) fun v86=>
        bif ((decide (s64.1 < 0))||(decide (v86 < s64.1))) then
        (kj69 v86)
        else
        (kj69 s64.1))) fun(j69:Int)=>
      Rm (s64.2+1) fun v88=>
      nx64 (j69,v88))
     else
     (Rm (s8.2+1) fun v89=>
      nx8 (s64.1,v89))) F (s8.1,0))
   else
   (some s8.1)) F ((-1),0))
def Q8:Nat→(List Gj)→Int→Int→Int→Option Int
 | 0,_,_,_,_=>none
 | F+1,l,at_,tiers,halves=>Zm (Q8 F) F l at_ tiers halves
theorem H47 (self_:(List Gj)→Int→Int→Int→Option Int) (self_w:∀ (l:List Gj) (at_:Int) (tiers:Int) (halves:Int) (r:Int),self_ l at_ tiers halves=some r→Pure Tryz.prog 226 [E9 l,G1 at_,G1 tiers,G1 halves] (·=G1 r)) (F:Nat) (l:List Gj) (at_:Int) (tiers:Int) (halves:Int) (r:Int) (h:Zm self_ F l at_ tiers halves=some r):Pure Tryz.prog 226 [E9 l,G1 at_,G1 tiers,G1 halves] (·=G1 r):=by
 unfold Zm at h
 refine H1 [.tmp 8] Tryz.func226 G G (G5 fun K1 hK1=>G3 (JLh (G1 0) (G8 G G) G (G9 (hK1 _ _ (G5 (fun K2 hK2=>G5 fun K3 hK3=>G3 (JLh (G1 at_) (G4 G G) G (JLh (E9 l) (G4 G G) G (H0 (f:=Gj.av) (xs:=l) Yi G G (fun hm16=>?_) G G G)))))))))
 refine JLh (BL (decide (at_=(l.length:Int)))) (Rt G G G) G (G9 (hK3 _ _ (Gp G (fun hb=>?_) (fun hb=>?_))))
 ·
  replace h:=Gy hb h
  refine G5 fun K4 hK4=>G3 (JLh (G1 0) (G8 G G) G (G9 (hK4 _ _ (Gx (⟨[G1 0],[],ø,G,⟨⟨_,G,.conv (.same G)⟩,ø⟩,G,congrArg (fun r:Int=>(G1 r:AV)) (Option.some.inj h)⟩)))))
 ·
  replace h:=Hp hb h
  refine Gq (hK2 _ _ (G5 fun K5 hK5=>G3 (JLh (G1 (-1)) (G8 G G) G (G9 (hK5 _ _ (G5 (fun K6 hK6=>G5 fun K7 hK7=>G3 (JLh (G1 0) (G8 G G) G (G9 (hK7 _ _ (Gn ?_)))))))))))
  obtain⟨b8,hb8,h⟩:=G16 h
  refine H7 (fun i8 (s8:Int×Int)=>loop b8 i8 s8=some r) (fun i8 s8=>[(0,E9 l),(1,G1 at_),(2,G1 tiers),(3,G1 halves),(9,G1 s8.1),(10,G1 s8.2)]) (fun i8 s8=>[]) (fun i8=>i8) F ((-1),0) h ⟨(by repeat' constructor),ø,rfl⟩ ?_
  clear h
  intro i8 s8 hi8 K8 e8
  obtain⟨m8,nx8,hm_8,hn8,h⟩:=Zg hi8
  replace h:=H78 hb8 h
  refine G5 (fun K9 hK9=>G5 fun K10 hK10=>G3 (JLh (G1 s8.2) (G4 G G) G (JLh (E9 l) (G4 G G) G (JLh (G1 at_) (G4 G G) G ?_))))
  obtain⟨m12,y11,hm12,hy11,h⟩:=Q6 h
  refine JLh (Ei y11) (Gv (f:=Gj.av) (xs:=l) (y:=y11) G G G Yi hy11 hm12) G (JLh (.dptr [G1 y11.Whole,G1 y11.Half]) (Ge G7b G G G) G (JLh (G1 y11.Whole) (Gk Gc G G G) G (JLh (BL (decide (s8.2≤y11.Whole))) (H81 G G G) G (G9 (hK10 _ _ (Gp G (fun hb=>?_) (fun hb=>?_)))))))
  ·
   replace h:=Gy hb h
   refine Gq (hK9 _ _ (G5 (fun K13 hK13=>Gn (G5 fun K14 hK14=>G3 (JLh (G1 0) (G8 G G) G (G9 (hK14 _ _ (Gn ?_))))))))
   obtain⟨b64,hb64,h⟩:=G16 h
   refine H7 (fun i64 (s64:Int×Int)=>loop b64 i64 s64=some r) (fun i64 s64=>[(0,E9 l),(1,G1 at_),(2,G1 tiers),(3,G1 halves),(9,G1 s64.1),(10,G1 s8.2),(11,G1 s64.2)]) (fun i64 s64=>[]) (fun i64=>i64) F (s8.1,0) h ⟨(by repeat' constructor),ø,rfl⟩ ?_
   clear h
   intro i64 s64 hi64 K64 e64
   obtain⟨m64,nx64,hm_64,hn64,h⟩:=Zg hi64
   replace h:=H78 hb64 h
   refine G5 (fun K65 hK65=>G5 fun K66 hK66=>G3 (JLh (G1 s64.2) (G4 G G) G (JLh (E9 l) (G4 G G) G (JLh (G1 at_) (G4 G G) G ?_))))
   obtain⟨m68,y67,hm68,hy67,h⟩:=Q6 h
   refine JLh (Ei y67) (Gv (f:=Gj.av) (xs:=l) (y:=y67) G G G Yi hy67 hm68) G (JLh (.dptr [G1 y67.Half]) (Ge G7a G G G) G (JLh (G1 y67.Half) (Gk Gc G G G) G (JLh (BL (decide (s64.2≤y67.Half))) (H81 G G G) G (G9 (hK66 _ _ (Gp G (fun hb=>?_) (fun hb=>?_)))))))
   ·
    replace h:=Gy hb h
    refine Gq (hK65 _ _ ?_)
    obtain⟨kj69,hkj69,h⟩:=G40 h
    refine G0b (fun j69:Int=>kj69 j69=some r) (fun j69=>[(0,E9 l),(1,G1 at_),(2,G1 tiers),(3,G1 halves),(9,G1 j69),(10,G1 s8.2),(11,G1 s64.2)]) (fun j69=>[]) (fun Kj69 ej69=>?_) ?_
    ·
     refine Gn (G5 (fun K70 hK70=>?_))
     obtain⟨m72,y71,hm72,hy71,h⟩:=Q6 h
     obtain⟨v73,hv73,h⟩:=Hf h
     obtain⟨m75,y74,hm75,hy74,h⟩:=Q6 h
     obtain⟨v76,hv76,h⟩:=Hf h
     obtain⟨r77,hr77,h⟩:=Gf h
     refine Jc [] [0,0,0,0,0,0,0,0,0,0,0,0,0,0,0,0,0] [0,0,0,0,0,0,0,0,0,0,0,0,0,0,0,0,0] [[]] J3 (by kernel_rfl) rfl rfl ?_
     refine Gb (u:=G1 tiers) G G ⟨Gh (G4 G G) G,ø⟩ (Gb (u:=E9 l) G G ⟨Gh (G4 G G) G,ø⟩ (Gb (u:=G1 at_) G G ⟨Gh (G4 G G) G,ø⟩ (Gb (u:=Ei y71) G G ⟨Gh (Gv (f:=Gj.av) (xs:=l) (y:=y71) G G G Yi hy71 hm72) G,ø⟩ (Gb (u:=.dptr [G1 y71.Whole,G1 y71.Half]) G G ⟨Gh (Ge G7b G G G) G,ø⟩ (Gb (u:=G1 y71.Whole) G G ⟨Gh (Gk Gc G G G) G,ø⟩ (Gb (u:=G1 s8.2) G G ⟨Gh (G4 G G) G,ø⟩ (Gb (u:=G1 v73) G G ⟨Gh (G1e hv73 G G G) G,ø⟩ (Gb (u:=E9 l) G G ⟨Gh (G4 G G) G,ø⟩ (Gb (u:=G1 at_) G G ⟨Gh (G4 G G) G,ø⟩ (Gb (u:=Ei y74) G G ⟨Gh (Gv (f:=Gj.av) (xs:=l) (y:=y74) G G G Yi hy74 hm75) G,ø⟩ (Gb (u:=.dptr [G1 y74.Half]) G G ⟨Gh (Ge G7a G G G) G,ø⟩ (Gb (u:=G1 y74.Half) G G ⟨Gh (Gk Gc G G G) G,ø⟩ (Gb (u:=G1 s64.2) G G ⟨Gh (G4 G G) G,ø⟩ ?_)))))))))))))
     refine Gb (u:=G1 v76) G G ⟨Gh (G1e hv76 G G G) G,ø⟩ (Gb (u:=G1 r77) G G ⟨Gh (Gs (args:=[G1 tiers,G1 v73,G1 v76]) G (G9e F tiers v73 v76 r77 hr77) J30 ⟨G,G,G,G,G,G,ø⟩) G,ø⟩ (Gb (u:=G1 r77) G G ⟨Gh (G8 G G) G,ø⟩ (Rb (hK70 _ _ (G5 (fun K78 hK78=>G5 fun K79 hK79=>G3 (JLh (G1 r77) (G4 G G) G (JLh (G1 halves) (G4 G G) G (JLh (BL (decide (halves < r77))) (Ya G G G) G (JLh (BL (decide (halves < r77))) (G4 G G) G (Gd (u:=G1 s64.1) [] G G G .scf ø (fun hc=>G4 G G) ?_)))))))))))
     refine Gd (u:=BL (decide (0≤s64.1))) [(56,G1 s64.1)] G G G .scf ⟨.all id,ø⟩ (fun hc=>G28 G G G) ?_
     refine Gd (u:=BL (decide (0≤s64.1))) [(57,BL (decide (0≤s64.1)))] G G G .scf ⟨.all id,ø⟩ (fun hc=>G4 G G) ?_
     refine Gd (u:=G1 s8.2) [] G G G .optt ø (fun hc=>G4 G G) ?_
     refine Gd (u:=G1 s64.2) [] G G G .optt ø (fun hc=>G4 G G) ?_
     obtain⟨v80,hv80,h⟩:=Gf h
     refine Gd (u:=G1 v80) [(59,G1 s8.2),(60,G1 s64.2)] G G G .optt ⟨.all id,.all id,ø⟩ (fun hc=>Hj (G02 (Gy hc hv80)) G G G) ?_
     refine Gd (u:=G1 s64.1) [] G G G .optt ø (fun hc=>G4 G G) ?_
     refine Gd (u:=BL (decide (s64.1≤v80))) [(61,G1 v80),(62,G1 s64.1)] G G G .optt ⟨.all id,.all id,ø⟩ (fun hc=>G28 G G G) ?_
     refine Gd (u:=BL ((decide (0≤s64.1))&&(decide (s64.1≤v80)))) [(58,BL (decide (0≤s64.1))),(63,_)] G G G .scf ⟨.all id,.part,ø⟩ (fun hc=>J7 G G G G) ?_
     refine JLh (BL ((decide (halves < r77))||((decide (0≤s64.1))&&(decide (s64.1≤v80))))) (Z5 G G G G) G (G9 (hK79 _ _ (Gp G (fun hb=>?_) (fun hb=>?_))))
     ·
      replace h:=Gy hb h
      refine Hc (ej69 _ _ s64.1 h ⟨(by repeat' constructor),ø,rfl⟩)
     ·
      replace h:=Hp hb h
      refine Gq (hK78 _ _ (G5 fun K81 hK81=>G3 (JLh (G1 s8.2) (G4 G G) G (JLh (G1 s64.2) (G4 G G) G ?_))))
      obtain⟨v82,hv82,h⟩:=Hf h
      refine JLh (G1 v82) (Hj hv82 G G G) G (JLh (E9 l) (G4 G G) G (JLh (G1 at_) (G4 G G) G ?_))
      obtain⟨v83,hv83,h⟩:=Hf h
      refine JLh (G1 v83) (Hj hv83 G G G) G (JLh (G1 tiers) (G4 G G) G (JLh (G1 halves) (G4 G G) G (JLh (G1 r77) (G4 G G) G ?_)))
      obtain⟨v84,hv84,h⟩:=Hf h
      refine JLh (G1 v84) (G1e hv84 G G G) G ?_
      obtain⟨r85,hr85,h⟩:=Gf h
      refine JLh (G1 r85) (Gs (args:=[E9 l,G1 v83,G1 tiers,G1 v84]) G (self_w l v83 tiers v84 r85 hr85) J24 ⟨G,G,G,G,G,G,G,G,ø⟩) G ?_
      obtain⟨v86,hv86,h⟩:=Hf h
      refine JLh (G1 v86) (Hj hv86 G G G) G (JLh (G1 v86) (G8 G G) G (G9 (hK81 _ _ (G5 fun K87 hK87=>G3 (JLh (G1 s64.1) (G4 G G) G (JLh (BL (decide (s64.1 < 0))) (Hx G G G) G (JLh (BL (decide (s64.1 < 0))) (G4 G G) G (Gd (u:=G1 v86) [] G G G .scf ø (fun hc=>G4 G G) ?_))))))))
      refine Gd (u:=G1 s64.1) [] G G G .scf ø (fun hc=>G4 G G) ?_
      refine Gd (u:=BL (decide (v86 < s64.1))) [(81,G1 v86),(82,G1 s64.1)] G G G .scf ⟨.all id,.all id,ø⟩ (fun hc=>Hx G G G) ?_
      refine JLh (BL ((decide (s64.1 < 0))||(decide (v86 < s64.1)))) (Z5 G G G G) G (G9 (hK87 _ _ (Gp G (fun hb=>?_) (fun hb=>?_))))
      ·
       replace h:=Gy hb h
       refine G3 (JLh (G1 v86) (G4 G G) G (JLh (G1 v86) (G8 G G) G (G9 (ej69 _ _ v86 h ⟨(by repeat' constructor),ø,rfl⟩))))
      ·
       replace h:=Hp hb h
       refine Gq (ej69 _ _ s64.1 h ⟨(by repeat' constructor),ø,rfl⟩)
    ·intro j69 h
     replace h:=app1 hkj69 h
     refine G3 (JLh (G1 s64.2) (G4 G G) G ?_)
     obtain⟨v88,hv88,h⟩:=Hf h
     refine JLh (G1 v88) (Hj hv88 G G G) G (JLh (G1 v88) (G8 G G) G (G9 (e64 _ _ m64 (j69,v88) (app1 hn64 h) (by omega) ⟨(by repeat' constructor),ø,rfl⟩)))
   ·
    replace h:=Hp hb h
    refine Hc (hK13 _ _ (G3 (JLh (G1 s8.2) (G4 G G) G ?_)))
    obtain⟨v89,hv89,h⟩:=Hf h
    refine JLh (G1 v89) (Hj hv89 G G G) G (JLh (G1 v89) (G8 G G) G (G9 (e8 _ _ m8 (s64.1,v89) (app1 hn8 h) (by omega) ⟨(by repeat' constructor),ø,rfl⟩)))
  ·
   replace h:=Hp hb h
   refine Hc (hK6 _ _ (G5 fun K90 hK90=>G3 (JLh (G1 s8.1) (G4 G G) G (JLh (G1 s8.1) (G8 G G) G (G9 (hK90 _ _ (Gx (⟨[G1 s8.1],[],ø,G,⟨⟨_,G,.conv (.same G)⟩,ø⟩,G,congrArg (fun r:Int=>(G1 r:AV)) (Option.some.inj h)⟩))))))))
theorem H42:∀ (F:Nat) (l:List Gj) (at_:Int) (tiers:Int) (halves:Int) (r:Int) (h:Q8 F l at_ tiers halves=some r),Pure Tryz.prog 226 [E9 l,G1 at_,G1 tiers,G1 halves] (·=G1 r):=by
 intro F
 induction F with
 | zero=>intro l at_ tiers halves r h; cases h
 | succ F ih=>intro l at_ tiers halves r h; exact H47 (Q8 F) ih F l at_ tiers halves r h

def R1 (F:Nat) (s:J0) (boxes:List H4) (l:List G6):Option (Int×Int):=
 each (fun y5 i5 (s5:(List Gj)) nx5=>
  bnd (Zh boxes y5) fun r10=>
  bif (!r10.2) then
  (some (0,270))
  else
  (need (decide ((s5.length+[r10.1].length)*32≤140737488355328∧s5.length+[r10.1].length≤maxLen)) <|
   loop (fun nx32 (s32:Int)=>
    bif decide (s32 < (l.length:Int)) then
    (Qe l s32 fun y37=>
     bnd (Zi y5 y37) fun r39=>
     bif (!r39) then
     (some (0,270))
     else
     (Rm (s32+1) fun v41=>
      nx32 v41))
    else
    (nx5 (s5++[r10.1]))) F ((i5+1:Nat):Int)))
 (fun(s5:(List Gj))=>
  bnd (Ro s) fun r43=>
  Rm (2*(s.Columns.length:Int)) fun v44=>
  bnd (Q8 F s5 0 r43 v44) fun r45=>
  some (r45,0)) l 0 []
theorem G75 (F:Nat) (s:J0) (boxes:List H4) (l:List G6) (r:Int×Int) (h:R1 F s boxes l=some r):Pure Tryz.prog 115 [.agg (J0.cs s),E2 boxes,E1 l] (·=.tup [G1 r.1,G1 r.2]):=by
 unfold R1 at h
 refine H1 [.tmp 6,.tmp 7] Tryz.func115 G G (G5 fun K1 hK1=>G3 (JLh (.ptr 1090 0) (Qi (u:=.agg (J0.cs s)) (cs:=(J0.cs s)) 1090 G G G G G) G (JLh (G1 0) (G8 G G) G (JLh (G1 0) (G8 G G) G (G9 (hK1 _ _ ?_))))))
 refine Gz [(1,E2 boxes),(2,E1 l),(3,Ed s)] [] 1090 rfl rfl rfl ø rfl (by exact⟨.conv (.same rfl),.conv (.same rfl),.ptr,ø⟩) (G5 fun K2 hK2=>G3 (JLh (OW 1091 4 Gj.av ([]:List Gj)) (G89 1091 82 4 G G G) G (G9 (hK2 _ _ (G5 (fun K3 hK3=>G5 fun K4 hK4=>G3 (JLh (G1 0) (G8 G G) G (G9 (hK4 _ _ (Gn ?_))))))))))
 obtain⟨b5,kx5,hb5,hkx5,h⟩:=J9 h
 refine H7 (fun i5 (s5:(List Gj))=>each b5 kx5 (List.drop i5 l) i5 s5=some r) (fun i5 s5=>[(1,E2 boxes),(2,E1 l),(3,Ed s),(8,OW 1091 4 Gj.av s5),(9,En i5)]) (fun i5 s5=>[(1091,.spare 82 4 s5.length s5.length)]) (fun i5=>l.length - i5) 0 [] h ⟨(by repeat' constructor),⟨⟨_,rfl,.same⟩,ø⟩,rfl⟩ ?_
 clear h
 intro i5 s5 hi5 K5 e5
 refine G5 (fun K6 hK6=>G5 fun K7 hK7=>G3 (JLh (En i5) (G4 G G) G (JLh (E1 l) (G4 G G) G (H0 (f:=G6.av) (xs:=l) Ha G G (fun hm15=>?_) G G G))))
 refine JLh (BL (decide ((i5:Int) < (l.length:Int)))) (Hx G G G) G (G9 (hK7 _ _ (Gp G (fun hb=>?_) (fun hb=>?_))))
 ·
  have hk5:=Jm hb
  obtain⟨y5,nx5,hy5,hn5,h⟩:=Hy hi5 hk5
  replace h:=Zn hb5 h
  refine Gq (hK6 _ _ (G5 (fun K8 hK8=>Gn (G5 fun K9 hK9=>G3 (JLh (E2 boxes) (G4 G G) G (JLh (E1 l) (G4 G G) G (JLh (En i5) (G4 G G) G (JLh (.dptr [G1 y5.Load,G1 y5.Discharge]) (Gv (f:=G6.av) (xs:=l) (y:=y5) G G G Ha hy5 G) G (JLh (.agg [G1 y5.Load,G1 y5.Discharge]) (Gi Ho G G G) G ?_)))))))))
  obtain⟨r10,hr10,h⟩:=Gf h
  refine JLh (.tup [.agg (Gj.cs r10.1),BL r10.2]) (Gs (args:=[E2 boxes,.agg [G1 y5.Load,G1 y5.Discharge]]) G (H43 boxes y5 r10 hr10) Jc9 ⟨G,G,G,G,ø⟩) G (JLh (.tup [.agg (Gj.cs r10.1),BL r10.2]) (G4 G G) G (JLh (.agg (Gj.cs r10.1)) (Hm G G G) G (JLh (BL r10.2) (Hm G G G) G (JLh (.ptr 1092 0) (Jn 1092 4 Gc8 G G) G (Jb (u:=.junk) (J4 (u:=.agg (Gj.cs r10.1)) (ds:=[G1 r10.1.G6.Load,G1 r10.1.G6.Discharge,G1 r10.1.Whole,G1 r10.1.Half]) Gfa G G G G G G G G) (JLh (BL r10.2) (G8 G G) G (G9 (hK9 _ _ ?_))))))))
  refine Gz [(1,E2 boxes),(2,E1 l),(3,Ed s),(8,OW 1091 4 Gj.av s5),(9,En i5),(10,Ei r10.1),(11,BL r10.2)] [(1091,.spare 82 4 s5.length s5.length)] 1092 rfl rfl rfl ⟨⟨_,rfl,.same⟩,ø⟩ rfl (by repeat' (first | exact .ptr | constructor)) (G5 (fun K11 hK11=>G5 fun K12 hK12=>G3 (JLh (BL r10.2) (G4 G G) G (JLh (BL (!r10.2)) (Yu (b:=r10.2) G G) G (G9 (hK12 _ _ (Gp G (fun hb=>?_) (fun hb=>?_))))))))
  ·
   replace h:=Gy hb h
   refine G5 fun K13 hK13=>G3 (JLh (G1 0) (G8 G G) G (JLh (G1 270) (G8 G G) G (G9 (hK13 _ _ (Gx (⟨[G1 0,G1 270],[],ø,G,⟨⟨_,G,.conv (.same G)⟩,⟨_,G,.conv (.same G)⟩,ø⟩,G,congrArg (fun r:Int×Int=>(.tup [G1 r.1,G1 r.2]:AV)) (Option.some.inj h)⟩))))))
  ·
   replace h:=Hp hb h
   refine Gq (hK11 _ _ (G5 fun K14 hK14=>G3 (JLh (OW 1091 4 Gj.av s5) (G4 G G) G (JLh (.agg (Gj.cs r10.1)) (Gi Gf5 G G G) G (JLh (E9 [r10.1]) (Hs (xs:=[.agg (Gj.cs r10.1)]) G ⟨G,G,ø⟩ Yi Gc8 G G G G) G ?_)))))
   obtain⟨ha15,h⟩:=Hr h
   refine JLh (OW 1091 4 Gj.av (s5++[r10.1])) (Qx (f:=Gj.av) (xs:=s5) (ys:=[r10.1]) G G G G Yi J71 ha15 (fun _=>G) (.inl G) G) G (JLh (OW 1091 4 Gj.av (s5++[r10.1])) (G8 G G) G (G9 (hK14 _ _ (G5 fun K16 hK16=>G3 (JLh (En i5) (G4 G G) G (JLh (G1 ((i5+1:Nat):Int)) (Hj (Hi hk5 hm15) G G G) G (JLh (G1 ((i5+1:Nat):Int)) (G8 G G) G (G9 (hK16 _ _ (Gn ?_))))))))))
   obtain⟨b32,hb32,h⟩:=G16 h
   refine H7 (fun i32 (s32:Int)=>loop b32 i32 s32=some r) (fun i32 s32=>[(1,E2 boxes),(2,E1 l),(3,Ed s),(8,OW 1091 4 Gj.av (s5++[r10.1])),(9,En i5),(12,G1 s32)]) (fun i32 s32=>[(1091,.spare 82 4 (s5++[r10.1]).length (s5++[r10.1]).length)]) (fun i32=>i32) F ((i5+1:Nat):Int) h ⟨(by repeat' constructor),⟨⟨_,rfl,.same⟩,ø⟩,rfl⟩ ?_
   clear h
   intro i32 s32 hi32 K32 e32
   obtain⟨m32,nx32,hm_32,hn32,h⟩:=Zg hi32
   replace h:=H78 hb32 h
   refine G5 (fun K33 hK33=>G5 fun K34 hK34=>G3 (JLh (G1 s32) (G4 G G) G (JLh (E1 l) (G4 G G) G (H0 (f:=G6.av) (xs:=l) Ha G G (fun hm38=>?_) G G G))))
   refine JLh (BL (decide (s32 < (l.length:Int)))) (Hx G G G) G (G9 (hK34 _ _ (Gp G (fun hb=>?_) (fun hb=>?_))))
   ·
    replace h:=Gy hb h
    refine Gq (hK33 _ _ (G5 (fun K35 hK35=>Gn (G5 (fun K36 hK36=>Z9 (l':=[(1,E2 boxes),(2,E1 l),(3,Ed s),(8,OW 1091 4 Gj.av (s5++[r10.1])),(9,En i5),(12,G1 s32)]) (L':=[(1091,.spare 82 4 (s5++[r10.1]).length (s5++[r10.1]).length)]) ⟨(by repeat' constructor),⟨⟨_,rfl,.same⟩,ø⟩,rfl⟩ ?_)))))
    obtain⟨m38,y37,hm38,hy37,h⟩:=Q6 h
    obtain⟨r39,hr39,h⟩:=Gf h
    refine Jc [] [0,0,0,0,0,0,0,0,0,0] [0,0,0,0,0,0,0,0,0,0] [[(1091,.spare 82 4 (s5++[r10.1]).length (s5++[r10.1]).length)]] J3 (by kernel_rfl) rfl rfl ?_
    refine Gb (u:=E1 l) G G ⟨Gh (G4 G G) G,ø⟩ (Gb (u:=En i5) G G ⟨Gh (G4 G G) G,ø⟩ (Gb (u:=.dptr [G1 y5.Load,G1 y5.Discharge]) G G ⟨Gh (Gv (f:=G6.av) (xs:=l) (y:=y5) G G G Ha hy5 G) G,ø⟩ (Gb (u:=.agg [G1 y5.Load,G1 y5.Discharge]) G G ⟨Gh (Gi Ho G G G) G,ø⟩ (Gb (u:=E1 l) G G ⟨Gh (G4 G G) G,ø⟩ (Gb (u:=G1 s32) G G ⟨Gh (G4 G G) G,ø⟩ (Gb (u:=.dptr [G1 y37.Load,G1 y37.Discharge]) G G ⟨Gh (Gv (f:=G6.av) (xs:=l) (y:=y37) G G G Ha hy37 hm38) G,ø⟩ (Gb (u:=.agg [G1 y37.Load,G1 y37.Discharge]) G G ⟨Gh (Gi Ho G G G) G,ø⟩ (Gb (u:=BL r39) G G ⟨Gh (Gs (args:=[.agg [G1 y5.Load,G1 y5.Discharge],.agg [G1 y37.Load,G1 y37.Discharge]]) G (G80 y5 y37 r39 hr39) J78 ⟨G,G,G,G,ø⟩) G,ø⟩ (Gb (u:=BL (!r39)) G G ⟨Gh (Yu (b:=r39) G G) G,ø⟩ (Rb ?_))))))))))
    refine hK36 _ _ (Gp G (fun hb=>?_) (fun hb=>?_))
    ·
     replace h:=Gy hb h
     refine G5 fun K40 hK40=>G3 (JLh (G1 0) (G8 G G) G (JLh (G1 270) (G8 G G) G (G9 (hK40 _ _ (Gx (⟨[G1 0,G1 270],[],ø,G,⟨⟨_,G,.conv (.same G)⟩,⟨_,G,.conv (.same G)⟩,ø⟩,G,congrArg (fun r:Int×Int=>(.tup [G1 r.1,G1 r.2]:AV)) (Option.some.inj h)⟩))))))
    ·
     replace h:=Hp hb h
     refine Gq (hK35 _ _ (G3 (JLh (G1 s32) (G4 G G) G ?_)))
     obtain⟨v41,hv41,h⟩:=Hf h
     refine JLh (G1 v41) (Hj hv41 G G G) G (JLh (G1 v41) (G8 G G) G (G9 (e32 _ _ m32 v41 (app1 hn32 h) (by omega) ⟨(by repeat' constructor),⟨⟨_,rfl,.same⟩,ø⟩,rfl⟩)))
   ·
    replace h:=Hp hb h
    refine Hc (hK8 _ _ (G3 (JLh (En i5) (G4 G G) G (JLh (G1 ((i5+1:Nat):Int)) (Hj (Hi hk5 hm38) G G G) G (JLh (G1 ((i5+1:Nat):Int)) (G8 G G) G (G9 (e5 _ _ (i5+1) (s5++[r10.1]) (app1 hn5 h) (by omega) ⟨(by repeat' constructor),⟨⟨_,rfl,.same⟩,ø⟩,rfl⟩)))))))
 ·
  have h:=app1 hkx5 (Hz hi5 (Hg hb))
  refine Hc (hK3 _ _ (G5 (fun K42 hK42=>Z9 (l':=[(3,Ed s),(8,OW 1091 4 Gj.av s5)]) (L':=[(1091,.spare 82 4 s5.length s5.length)]) ⟨⟨.same G,.same G,ø⟩,⟨⟨_,G,.same⟩,ø⟩,G⟩ ?_)))
  obtain⟨r43,hr43,h⟩:=Gf h
  obtain⟨v44,hv44,h⟩:=Hf h
  obtain⟨r45,hr45,h⟩:=Gf h
  refine Jc [] [0,0,0,0,0,0,0,0,0,0] [0,0,0,0,0,0,0,0,0,0] [[(1091,.spare 82 4 s5.length s5.length)]] J3 (by kernel_rfl) rfl rfl ?_
  refine Gb (u:=OW 1091 4 Gj.av s5) G G ⟨Gh (G4 G G) G,ø⟩ (Gb (u:=.agg (J0.cs s)) G G ⟨Gh (Gi Jd G G G) G,ø⟩ (Gb (u:=G1 r43) G G ⟨Gh (Gs (args:=[.agg (J0.cs s)]) G (G63 s r43 hr43) J2f ⟨G,G,ø⟩) G,ø⟩ (Gb (u:=Ed s) G G ⟨Gh (Ge Hw G G G) G,ø⟩ (Gb (u:=E5 s.Columns) G G ⟨Gh (Gk J8 G G G) G,ø⟩ (Gb (u:=En s.Columns.length) G G ⟨Gh (Jp (f:=Ga.av) (xs:=s.Columns) Hb G G) G,ø⟩ (Gb (u:=G1 v44) G G ⟨Gh (G77 hv44 G G G) G,ø⟩ (Gb (u:=G1 r45) G G ⟨Gh (Gs (args:=[E9 s5,G1 0,G1 r43,G1 v44]) G (H42 F s5 0 r43 v44 r45 hr45) J24 ⟨G,G,G,G,G,G,G,G,ø⟩) G,ø⟩ (Gb (u:=G1 r45) G G ⟨Gh (G8 G G) G,ø⟩ (Gb (u:=G1 0) G G ⟨Gh (G8 G G) G,ø⟩ (Rb ?_))))))))))
  refine hK42 _ _ (Gx (⟨[G1 r45,G1 0],[],ø,G,⟨⟨_,G,.conv (.same G)⟩,⟨_,G,.conv (.same G)⟩,ø⟩,G,congrArg (fun r:Int×Int=>(.tup [G1 r.1,G1 r.2]:AV)) (Option.some.inj h)⟩))

def Rh (F:Nat) (s:J0) (boxes:List H4) (families:List (List G6)):Option (Int×Int):=
 bnd (Qq F s boxes) fun r4=>
 bif (!r4) then
 (some (0,2))
 else
 (each (fun y43 i43 (s43:Int×(List G6)) nx43=>
   bnd (R1 F s boxes y43) fun r48=>
   bif decide (r48.2≠0) then
   (some (0,r48.2))
   else
   (Rm (s43.1+r48.1) fun v53=>
    need (decide ((s43.2.length+y43.length)*16≤140737488355328∧s43.2.length+y43.length≤maxLen)) <|
    nx43 (v53,(s43.2++y43))))
  (fun(s43:Int×(List G6))=>
   each (fun y57 i57 (s57:Unit) nx57=>
    need (decide ((i57:Int)≤9223372036854775807)) <|
    upto (fun i75 (s75:Unit) nx75=>
     Qe s43.2 (i75:Int) fun y80=>
     bif decide (y57=y80) then
     (some (0,271))
     else
     (nx75 ()))
    (fun(s75:Unit)=>
     nx57 ()) (i57:Int).toNat 0 ())
   (fun(s57:Unit)=>
    some (s43.1,0)) s43.2 0 ()) families 0 (0,[]))
theorem H44 (F:Nat) (s:J0) (boxes:List H4) (families:List (List G6)) (r:Int×Int) (h:Rh F s boxes families=some r):Pure Tryz.prog 44 [.agg (J0.cs s),E2 boxes,LS 1 (E1) families] (·=.tup [G1 r.1,G1 r.2]):=by
 unfold Rh at h
 refine H1 [.tmp 6,.tmp 7] Tryz.func44 G G (G5 fun K1 hK1=>G3 (JLh (.ptr 1039 0) (Qi (u:=.agg (J0.cs s)) (cs:=(J0.cs s)) 1039 G G G G G) G (JLh (G1 0) (G8 G G) G (JLh (G1 0) (G8 G G) G (G9 (hK1 _ _ ?_))))))
 refine Gz [(1,E2 boxes),(2,LS 1 (E1) families),(3,Ed s)] [] 1039 rfl rfl rfl ø rfl (by exact⟨.conv (.same rfl),.conv (.same rfl),.ptr,ø⟩) (G5 (fun K2 hK2=>G5 fun K3 hK3=>G3 (JLh (.agg (J0.cs s)) (Gi Jd G G G) G (JLh (E2 boxes) (G4 G G) G ?_))))
 obtain⟨r4,hr4,h⟩:=Gf h
 refine JLh (BL r4) (Gs (args:=[.agg (J0.cs s),E2 boxes]) G (G7f F s boxes r4 hr4) J2d ⟨G,G,G,G,ø⟩) G (JLh (BL (!r4)) (Yu (b:=r4) G G) G (G9 (hK3 _ _ (Gp G (fun hb=>?_) (fun hb=>?_)))))
 ·
  replace h:=Gy hb h
  refine G5 fun K5 hK5=>G3 (JLh (G1 0) (G8 G G) G (JLh (G1 2) (G8 G G) G (G9 (hK5 _ _ (Gx (⟨[G1 0,G1 2],[],ø,G,⟨⟨_,G,.conv (.same G)⟩,⟨_,G,.conv (.same G)⟩,ø⟩,G,congrArg (fun r:Int×Int=>(.tup [G1 r.1,G1 r.2]:AV)) (Option.some.inj h)⟩))))))
 ·
  replace h:=Hp hb h
  refine Gq (hK2 _ _ (G5 fun K6 hK6=>G3 (JLh (G1 0) (G8 G G) G (G9 (hK6 _ _ (G5 fun K7 hK7=>G3 (JLh (OW 1040 2 G6.av ([]:List G6)) (G89 1040 72 2 G G G) G (G9 (hK7 _ _ (G5 (fun K8 hK8=>G5 fun K9 hK9=>G3 (JLh (G1 0) (G8 G G) G (G9 (hK9 _ _ (Gn ?_)))))))))))))))
  obtain⟨b43,kx43,hb43,hkx43,h⟩:=J9 h
  refine H7 (fun i43 (s43:Int×(List G6))=>each b43 kx43 (List.drop i43 families) i43 s43=some r) (fun i43 s43=>[(1,E2 boxes),(2,LS 1 (E1) families),(3,Ed s),(8,G1 s43.1),(9,OW 1040 2 G6.av s43.2),(10,En i43)]) (fun i43 s43=>[(1040,.spare 72 2 s43.2.length s43.2.length)]) (fun i43=>families.length - i43) 0 (0,[]) h ⟨(by repeat' constructor),⟨⟨_,rfl,.same⟩,ø⟩,rfl⟩ ?_
  clear h
  intro i43 s43 hi43 K43 e43
  refine G5 (fun K44 hK44=>G5 fun K45 hK45=>G3 (JLh (En i43) (G4 G G) G (JLh (LS 1 (E1) families) (G4 G G) G (H0 (f:=(E1)) (xs:=families) J1 G G (fun hm21=>?_) G G G))))
  refine JLh (BL (decide ((i43:Int) < (families.length:Int)))) (Hx G G G) G (G9 (hK45 _ _ (Gp G (fun hb=>?_) (fun hb=>?_))))
  ·
   have hk43:=Jm hb
   obtain⟨y43,nx43,hy43,hn43,h⟩:=Hy hi43 hk43
   replace h:=Zn hb43 h
   refine Gq (hK44 _ _ (G5 (fun K46 hK46=>Gn (G5 (fun K47 hK47=>Z9 (l':=[(1,E2 boxes),(2,LS 1 (E1) families),(3,Ed s),(8,G1 s43.1),(9,OW 1040 2 G6.av s43.2),(10,En i43)]) (L':=[(1040,.spare 72 2 s43.2.length s43.2.length)]) ⟨(by repeat' constructor),⟨⟨_,rfl,.same⟩,ø⟩,rfl⟩ ?_)))))
   obtain⟨r48,hr48,h⟩:=Gf h
   refine Jc [] [0,0,0,0,0,0,0,0,0,0,0,0] [0,0,0,0,0,0,0,0,0,0,0,0] [[(1040,.spare 72 2 s43.2.length s43.2.length)]] J3 (by kernel_rfl) rfl rfl ?_
   refine Gb (u:=.agg (J0.cs s)) G G ⟨Gh (Gi Jd G G G) G,ø⟩ (Gb (u:=E2 boxes) G G ⟨Gh (G4 G G) G,ø⟩ (Gb (u:=LS 1 (E1) families) G G ⟨Gh (G4 G G) G,ø⟩ (Gb (u:=En i43) G G ⟨Gh (G4 G G) G,ø⟩ (Gb (u:=.dptr [E1 y43]) G G ⟨Gh (Gv (f:=(E1)) (xs:=families) (y:=y43) G G G J1 hy43 G) G,ø⟩ (Gb (u:=E1 y43) G G ⟨Gh (Gk Rv G G G) G,ø⟩ (Gb (u:=.tup [G1 r48.1,G1 r48.2]) G G ⟨Gh (Gs (args:=[.agg (J0.cs s),E2 boxes,E1 y43]) G (G75 F s boxes y43 r48 hr48) J2c ⟨G,G,G,G,G,G,ø⟩) G,ø⟩ (Gb (u:=.tup [G1 r48.1,G1 r48.2]) G G ⟨Gh (G4 G G) G,ø⟩ (Gb (u:=G1 r48.1) G G ⟨Gh (Hm G G G) G,ø⟩ (Gb (u:=G1 r48.2) G G ⟨Gh (Hm G G G) G,ø⟩ (Gb (u:=G1 r48.1) G G ⟨Gh (G8 G G) G,ø⟩ (Gb (u:=G1 r48.2) G G ⟨Gh (G8 G G) G,ø⟩ (Rb ?_))))))))))))
   refine hK47 _ _ (G5 (fun K49 hK49=>G5 fun K50 hK50=>G3 (JLh (G1 r48.2) (G4 G G) G (JLh (BL (decide (r48.2≠0))) (G14 G G G) G (G9 (hK50 _ _ (Gp G (fun hb=>?_) (fun hb=>?_))))))))
   ·
    replace h:=Gy hb h
    refine G5 fun K51 hK51=>G3 (JLh (G1 r48.2) (G4 G G) G (JLh (G1 0) (G8 G G) G (JLh (G1 r48.2) (G8 G G) G (G9 (hK51 _ _ (Gx (⟨[G1 0,G1 r48.2],[],ø,G,⟨⟨_,G,.conv (.same G)⟩,⟨_,G,.conv (.same G)⟩,ø⟩,G,congrArg (fun r:Int×Int=>(.tup [G1 r.1,G1 r.2]:AV)) (Option.some.inj h)⟩)))))))
   ·
    replace h:=Hp hb h
    refine Gq (hK49 _ _ (G5 fun K52 hK52=>G3 (JLh (G1 s43.1) (G4 G G) G (JLh (G1 r48.1) (G4 G G) G ?_))))
    obtain⟨v53,hv53,h⟩:=Hf h
    refine JLh (G1 v53) (Hj hv53 G G G) G (JLh (G1 v53) (G8 G G) G (G9 (hK52 _ _ (G3 (JLh (OW 1040 2 G6.av s43.2) (G4 G G) G (JLh (LS 1 (E1) families) (G4 G G) G (JLh (En i43) (G4 G G) G (JLh (.dptr [E1 y43]) (Gv (f:=(E1)) (xs:=families) (y:=y43) G G G J1 hy43 G) G (JLh (E1 y43) (Gk Rv G G G) G ?_)))))))))
    obtain⟨ha54,h⟩:=Hr h
    refine JLh (OW 1040 2 G6.av (s43.2++y43)) (Gf9 (f:=G6.av) (xs:=s43.2) (ys:=y43) G G G G Ha Gfc ha54 (fun _=>G) (.inl G)) G (JLh (OW 1040 2 G6.av (s43.2++y43)) (G8 G G) G (G9 (hK46 _ _ (G3 (JLh (En i43) (G4 G G) G (JLh (G1 ((i43+1:Nat):Int)) (Hj (Hi hk43 hm21) G G G) G (JLh (G1 ((i43+1:Nat):Int)) (G8 G G) G (G9 (e43 _ _ (i43+1) (v53,(s43.2++y43)) (app1 hn43 h) (by omega) ⟨(by repeat' constructor),⟨⟨_,rfl,.same⟩,ø⟩,rfl⟩)))))))))
  ·
   have h:=app1 hkx43 (Hz hi43 (Hg hb))
   refine Hc (hK8 _ _ (G5 (fun K55 hK55=>G5 fun K56 hK56=>G3 (JLh (G1 0) (G8 G G) G (G9 (hK56 _ _ (Gn ?_)))))))
   obtain⟨b57,kx57,hb57,hkx57,h⟩:=J9 h
   refine H7 (fun i57 (s57:Unit)=>each b57 kx57 (List.drop i57 s43.2) i57 s57=some r) (fun i57 s57=>[(8,G1 s43.1),(9,OW 1040 2 G6.av s43.2),(13,En i57)]) (fun i57 s57=>[(1040,.spare 72 2 s43.2.length s43.2.length)]) (fun i57=>s43.2.length - i57) 0 () h ⟨⟨.same G,.same G,.same G,ø⟩,⟨⟨_,G,.same⟩,ø⟩,G⟩ ?_
   clear h
   intro i57 s57 hi57 K57 e57
   refine G5 (fun K58 hK58=>G5 fun K59 hK59=>G3 (JLh (En i57) (G4 G G) G (JLh (OW 1040 2 G6.av s43.2) (G4 G G) G (H0 (f:=G6.av) (xs:=s43.2) Ha G G (fun hm49=>?_) G G G))))
   refine JLh (BL (decide ((i57:Int) < (s43.2.length:Int)))) (Hx G G G) G (G9 (hK59 _ _ (Gp G (fun hb=>?_) (fun hb=>?_))))
   ·
    have hk57:=Jm hb
    obtain⟨y57,nx57,hy57,hn57,h⟩:=Hy hi57 hk57
    replace h:=Zn hb57 h
    refine Gq (hK58 _ _ (G5 (fun K60 hK60=>Gn (G5 fun K61 hK61=>G3 (JLh (G1 0) (G8 G G) G (G9 (hK61 _ _ (Gn ?_))))))))
    obtain⟨hx75,h⟩:=Hr h
    obtain⟨b75,kx75,hb75,hkx75,h⟩:=G59 h
    refine H7 (fun i75 (s75:Unit)=>upto b75 kx75 ((i57:Int).toNat - i75) i75 s75=some r) (fun i75 s75=>[(8,G1 s43.1),(9,OW 1040 2 G6.av s43.2),(13,En i57),(14,En i75)]) (fun i75 s75=>[(1040,.spare 72 2 s43.2.length s43.2.length)]) (fun i75=>(i57:Int).toNat - i75) 0 () h ⟨(by repeat' constructor),⟨⟨_,rfl,.same⟩,ø⟩,rfl⟩ ?_
    clear h
    intro i75 s75 hi75 K75 e75
    refine G5 (fun K76 hK76=>G5 fun K77 hK77=>G3 (JLh (En i75) (G4 G G) G (JLh (En i57) (G4 G G) G (JLh (BL (decide ((i75:Int) < (i57:Int)))) (Hx G G G) G (G9 (hK77 _ _ (Gp G (fun hb=>?_) (fun hb=>?_))))))))
    ·
     have hk75:=G33 hb
     obtain⟨nx75,hn75,h⟩:=G2f hi75 hk75
     replace h:=H82 hb75 h
     refine Gq (hK76 _ _ (G5 (fun K78 hK78=>Gn (G5 (fun K79 hK79=>Z9 (l':=[(8,G1 s43.1),(9,OW 1040 2 G6.av s43.2),(13,En i57),(14,En i75)]) (L':=[(1040,.spare 72 2 s43.2.length s43.2.length)]) ⟨(by repeat' constructor),⟨⟨_,rfl,.same⟩,ø⟩,rfl⟩ ?_)))))
     obtain⟨m81,y80,hm81,hy80,h⟩:=Q6 h
     refine Jc [] [0,0,0,0,0,0,0,0,0] [0,0,0,0,0,0,0,0,0] [[(1040,.spare 72 2 s43.2.length s43.2.length)]] J3 (by kernel_rfl) rfl rfl ?_
     refine Gb (u:=OW 1040 2 G6.av s43.2) G G ⟨Gh (G4 G G) G,ø⟩ (Gb (u:=En i57) G G ⟨Gh (G4 G G) G,ø⟩ (Gb (u:=.dptr [G1 y57.Load,G1 y57.Discharge]) G G ⟨Gh (Gv (f:=G6.av) (xs:=s43.2) (y:=y57) G G G Ha hy57 G) G,ø⟩ (Gb (u:=.agg [G1 y57.Load,G1 y57.Discharge]) G G ⟨Gh (Gi Ho G G G) G,ø⟩ (Gb (u:=OW 1040 2 G6.av s43.2) G G ⟨Gh (G4 G G) G,ø⟩ (Gb (u:=En i75) G G ⟨Gh (G4 G G) G,ø⟩ (Gb (u:=.dptr [G1 y80.Load,G1 y80.Discharge]) G G ⟨Gh (Gv (f:=G6.av) (xs:=s43.2) (y:=y80) G G G Ha hy80 hm81) G,ø⟩ (Gb (u:=.agg [G1 y80.Load,G1 y80.Discharge]) G G ⟨Gh (Gi Ho G G G) G,ø⟩ (Gb (u:=BL (decide (y57=y80))) G G ⟨Gh (G73 (vs:=[.int .i64 y57.Load,.int .i64 y57.Discharge]) (us:=[.int .i64 y80.Load,.int .i64 y80.Discharge]) 4 G (J6b y57 y80) G9a Gf4 G G G) G,ø⟩ (Rb ?_)))))))))
     refine hK79 _ _ (Gp G (fun hb=>?_) (fun hb=>?_))
     ·
      replace h:=Gy hb h
      refine G5 fun K82 hK82=>G3 (JLh (G1 0) (G8 G G) G (JLh (G1 271) (G8 G G) G (G9 (hK82 _ _ (Gx (⟨[G1 0,G1 271],[],ø,G,⟨⟨_,G,.conv (.same G)⟩,⟨_,G,.conv (.same G)⟩,ø⟩,G,congrArg (fun r:Int×Int=>(.tup [G1 r.1,G1 r.2]:AV)) (Option.some.inj h)⟩))))))
     ·
      replace h:=Hp hb h
      refine Gq (hK78 _ _ (G3 (JLh (En i75) (G4 G G) G (JLh (G1 ((i75+1:Nat):Int)) (Hj (Hi hk75 (G07 hx75)) G G G) G (JLh (G1 ((i75+1:Nat):Int)) (G8 G G) G (G9 (e75 _ _ (i75+1) () (app1 hn75 h) (by omega) ⟨(by repeat' constructor),⟨⟨_,rfl,.same⟩,ø⟩,rfl⟩)))))))
    ·
     have h:=app1 hkx75 (G30 hi75 (Rx hb))
     refine Hc (hK60 _ _ (G3 (JLh (En i57) (G4 G G) G (JLh (G1 ((i57+1:Nat):Int)) (Hj (Hi hk57 hm49) G G G) G (JLh (G1 ((i57+1:Nat):Int)) (G8 G G) G (G9 (e57 _ _ (i57+1) () (app1 hn57 h) (by omega) ⟨⟨.same rfl,.same rfl,.same rfl,ø⟩,⟨⟨_,rfl,.same⟩,ø⟩,rfl⟩)))))))
   ·
    have h:=app1 hkx57 (Hz hi57 (Hg hb))
    refine Hc (hK55 _ _ (G5 fun K83 hK83=>G3 (JLh (G1 s43.1) (G4 G G) G (JLh (G1 s43.1) (G8 G G) G (JLh (G1 0) (G8 G G) G (G9 (hK83 _ _ (Gx (⟨[G1 s43.1,G1 0],[],ø,G,⟨⟨_,G,.conv (.same G)⟩,⟨_,G,.conv (.same G)⟩,ø⟩,G,congrArg (fun r:Int×Int=>(.tup [G1 r.1,G1 r.2]:AV)) (Option.some.inj h)⟩)))))))))

def R2 (F:Nat) (s:J0) (boxes:List H4) (l:List G6):Option (Int×Int):=
 bnd (Qq F s boxes) fun r4=>
 bif (!r4) then
 (some (0,2))
 else
 (bnd (R1 F s boxes l) fun r7=>
  some (r7.1,r7.2))
theorem H1f (F:Nat) (s:J0) (boxes:List H4) (l:List G6) (r:Int×Int) (h:R2 F s boxes l=some r):Pure Tryz.prog 46 [.agg (J0.cs s),E2 boxes,E1 l] (·=.tup [G1 r.1,G1 r.2]):=by
 unfold R2 at h
 refine H1 [.tmp 6,.tmp 7] Tryz.func46 G G (G5 fun K1 hK1=>G3 (JLh (.ptr 1042 0) (Qi (u:=.agg (J0.cs s)) (cs:=(J0.cs s)) 1042 G G G G G) G (JLh (G1 0) (G8 G G) G (JLh (G1 0) (G8 G G) G (G9 (hK1 _ _ ?_))))))
 refine Gz [(1,E2 boxes),(2,E1 l),(3,Ed s)] [] 1042 rfl rfl rfl ø rfl (by exact⟨.conv (.same rfl),.conv (.same rfl),.ptr,ø⟩) (G5 (fun K2 hK2=>G5 fun K3 hK3=>G3 (JLh (.agg (J0.cs s)) (Gi Jd G G G) G (JLh (E2 boxes) (G4 G G) G ?_))))
 obtain⟨r4,hr4,h⟩:=Gf h
 refine JLh (BL r4) (Gs (args:=[.agg (J0.cs s),E2 boxes]) G (G7f F s boxes r4 hr4) J2d ⟨G,G,G,G,ø⟩) G (JLh (BL (!r4)) (Yu (b:=r4) G G) G (G9 (hK3 _ _ (Gp G (fun hb=>?_) (fun hb=>?_)))))
 ·
  replace h:=Gy hb h
  refine G5 fun K5 hK5=>G3 (JLh (G1 0) (G8 G G) G (JLh (G1 2) (G8 G G) G (G9 (hK5 _ _ (Gx (⟨[G1 0,G1 2],[],ø,G,⟨⟨_,G,.conv (.same G)⟩,⟨_,G,.conv (.same G)⟩,ø⟩,G,congrArg (fun r:Int×Int=>(.tup [G1 r.1,G1 r.2]:AV)) (Option.some.inj h)⟩))))))
 ·
  replace h:=Hp hb h
  refine Gq (hK2 _ _ (G5 fun K6 hK6=>G3 (JLh (.agg (J0.cs s)) (Gi Jd G G G) G (JLh (E2 boxes) (G4 G G) G (JLh (E1 l) (G4 G G) G ?_)))))
  obtain⟨r7,hr7,h⟩:=Gf h
  refine JLh (.tup [G1 r7.1,G1 r7.2]) (Gs (args:=[.agg (J0.cs s),E2 boxes,E1 l]) G (G75 F s boxes l r7 hr7) J2c ⟨G,G,G,G,G,G,ø⟩) G (JLh (G1 r7.1) (Hm G G G) G (JLh (G1 r7.2) (Hm G G G) G (JLh (G1 r7.1) (G8 G G) G (JLh (G1 r7.2) (G8 G G) G (G9 (hK6 _ _ (Gx (⟨[G1 r7.1,G1 r7.2],[],ø,G,⟨⟨_,G,.conv (.same G)⟩,⟨_,G,.conv (.same G)⟩,ø⟩,G,congrArg (fun r:Int×Int=>(.tup [G1 r.1,G1 r.2]:AV)) (Option.some.inj h)⟩))))))))

def Z7 (F:Nat) (s:J0) (boxes:List H4) (families:List (List G6)) (a:G6) (b:G6) (m:Int) (n:Int):Option Bool:=
 bnd (G03 s boxes families) fun r4=>
 bif (!r4) then
 (bnd (Zk F) fun r6=>
  some r6)
 else
 (bnd (Z1 s) fun r8=>
  bnd (Yr boxes) fun r9=>
  bnd (Rz families) fun r10=>
  bnd (Qp r9.1) fun r12=>
  bnd (Y2 F boxes) fun r13=>
  bnd (bif (!(decide ((r12.length:Int)≠(r13.length:Int)))) then G39 a b else some default) fun r16=>
  bnd (bif (!(decide ((r12.length:Int)≠(r13.length:Int)))) then Zi a b else some default) fun r17=>
  bif ((decide ((r12.length:Int)≠(r13.length:Int)))||(!(r16==r17))) then
  (some false)
  else
  (each (fun y39 i39 (s39:Unit) nx39=>
    Qe r13 (i39:Int) fun y45=>
    bif (!decide (y39=(G2.mk y45.G6 y45.Whole y45.Half))) then
    (some false)
    else
    (nx39 ()))
   (fun(s39:Unit)=>
    bnd (G19 (J0.mk (r8.Columns.1.map Gu.pl) (r8.Covers.1.map H5.pl) r8.Light r8.Rows.1 r8.Frames.1 (r8.Tanks.1.map Hd.pl) r8.G7) m n) fun r49=>
    bnd (Qz F s m n) fun r51=>
    bif ((decide (r49.1≠r51.1))||(decide (r49.2≠r51.2))) then
    (some false)
    else
    (bnd (Gc6 F (J0.mk (r8.Columns.1.map Gu.pl) (r8.Covers.1.map H5.pl) r8.Light r8.Rows.1 r8.Frames.1 (r8.Tanks.1.map Hd.pl) r8.G7) r9.1 (r10.1.map Prod.fst)) fun r56=>
     bnd (Rh F s boxes families) fun r58=>
     bif ((decide (r56.1≠r58.1))||(decide (r56.2≠r58.2))) then
     (some false)
     else
     (each (fun y90 i90 (s90:Unit) nx90=>
       Qe r10.1 (i90:Int) fun y96=>
       bnd (Y9 F (J0.mk (r8.Columns.1.map Gu.pl) (r8.Covers.1.map H5.pl) r8.Light r8.Rows.1 r8.Frames.1 (r8.Tanks.1.map Hd.pl) r8.G7) r9.1 y96.1) fun r98=>
       bnd (R2 F s boxes y90) fun r100=>
       bif ((decide (r98.1≠r100.1))||(decide (r98.2≠r100.2))) then
       (some false)
       else
       (nx90 ()))
      (fun(s90:Unit)=>
       bnd (Z3 r8 s) fun r104=>
       bnd (bif r104 then Ys r9 boxes else some default) fun r105=>
       bnd (bif (r104&&r105) then Y0 r10 families else some default) fun r106=>
       bnd (bif ((r104&&r105)&&r106) then Zk F else some default) fun r107=>
       some (((r104&&r105)&&r106)&&r107)) families 0 ()))) r12 0 ()))
theorem Gce (F:Nat) (s:J0) (boxes:List H4) (families:List (List G6)) (a:G6) (b:G6) (m:Int) (n:Int) (r:Bool) (h:Z7 F s boxes families a b m n=some r):Pure Tryz.prog 5 [.agg (J0.cs s),E2 boxes,LS 1 (E1) families,.agg [G1 a.Load,G1 a.Discharge],.agg [G1 b.Load,G1 b.Discharge],G1 m,G1 n] (·=BL r):=by
 unfold Z7 at h
 refine H1 [.tmp 14] Tryz.func5 G G ?_
 refine G5 fun K1 hK1=>G3 (JLh (.ptr 1001 0) (Qi (u:=.agg (J0.cs s)) (cs:=(J0.cs s)) 1001 G G G G G) G (JLh (.ptr 1002 0) (Qi (u:=.agg [G1 a.Load,G1 a.Discharge]) (cs:=[G1 a.Load,G1 a.Discharge]) 1002 G G G G G) G (JLh (.ptr 1003 0) (Qi (u:=.agg [G1 b.Load,G1 b.Discharge]) (cs:=[G1 b.Load,G1 b.Discharge]) 1003 G G G G G) G (JLh (BL false) (G8 G G) G (G9 (hK1 _ _ ?_))))))
 refine Gz [(1,E2 boxes),(2,LS 1 (E1) families),(5,G1 m),(6,G1 n),(7,Ed s),(10,.ptr 1002 0),(11,.ptr 1003 0)] [(1002,.box 72 [G1 a.Load,G1 a.Discharge]),(1003,.box 72 [G1 b.Load,G1 b.Discharge])] 1001 rfl rfl rfl ⟨⟨_,rfl,.boxEq rfl rfl⟩,⟨_,rfl,.boxEq rfl rfl⟩,ø⟩ rfl (by repeat' (first | exact .ptr | constructor)) ?_
 refine Gz [(1,E2 boxes),(2,LS 1 (E1) families),(5,G1 m),(6,G1 n),(7,Ed s),(10,.dptr [G1 a.Load,G1 a.Discharge]),(11,.ptr 1003 0)] [(1003,.box 72 [G1 b.Load,G1 b.Discharge])] 1002 rfl rfl rfl ⟨⟨_,rfl,.boxEq rfl rfl⟩,ø⟩ rfl (by repeat' (first | exact .ptr | constructor)) ?_
 refine Gz [(1,E2 boxes),(2,LS 1 (E1) families),(5,G1 m),(6,G1 n),(7,Ed s),(10,.dptr [G1 a.Load,G1 a.Discharge]),(11,.dptr [G1 b.Load,G1 b.Discharge])] [] 1003 rfl rfl rfl ø rfl (by repeat' (first | exact .ptr | constructor)) (G5 (fun K2 hK2=>?_))
 refine G5 fun K3 hK3=>G3 (JLh (.agg (J0.cs s)) (Gi Jd G G G) G (JLh (E2 boxes) (G4 G G) G (JLh (LS 1 (E1) families) (G4 G G) G ?_)))
 obtain⟨r4,hr4,h⟩:=Gf h
 refine JLh (BL r4) (Gs (args:=[.agg (J0.cs s),E2 boxes,LS 1 (E1) families]) G (H79 s boxes families r4 hr4) Q0a ⟨G,G,G,G,G,G,ø⟩) G (JLh (BL (!r4)) (Yu (b:=r4) G G) G (G9 (hK3 _ _ (Gp G (fun hb=>?_) (fun hb=>?_)))))
 ·
  replace h:=Gy hb h
  refine G5 fun K5 hK5=>G3 ?_
  obtain⟨r6,hr6,h⟩:=Gf h
  refine JLh (BL r6) (Gs (args:=[]) G (G82 F r6 hr6) J79 ø) G (JLh (BL r6) (G8 G G) G (G9 (hK5 _ _ (Gx (⟨[BL r6],[],ø,G,⟨⟨_,G,.conv (.same G)⟩,ø⟩,G,congrArg (fun r:Bool=>(BL r:AV)) (Option.some.inj h)⟩)))))
 ·
  replace h:=Hp hb h
  refine Gq (hK2 _ _ (G5 fun K7 hK7=>G3 (JLh (.agg (J0.cs s)) (Gi Jd G G G) G ?_)))
  obtain⟨r8,hr8,h⟩:=Gf h
  refine JLh (.agg (Ry.cs r8)) (Gs (args:=[.agg (J0.cs s)]) G (H25 s r8 hr8) Q10 ⟨G,G,ø⟩) G (JLh (E2 boxes) (G4 G G) G ?_)
  obtain⟨r9,hr9,h⟩:=Gf h
  refine JLh (LT 9 H4.av r9) (Gs (args:=[E2 boxes]) G (H14 boxes r9 hr9) Q0f ⟨G,G,ø⟩) G (JLh (LS 1 (E1) families) (G4 G G) G ?_)
  obtain⟨r10,hr10,h⟩:=Gf h
  refine JLh (LT 1 (LT 2 G6.av) r10) (Gs (args:=[LS 1 (E1) families]) G (Gcf families r10 hr10) Q09 ⟨G,G,ø⟩) G (JLh (.ptr 1004 0) (Jn 1004 13 Jc2 G G) G (Jb (u:=.junk) (J4 (u:=.agg (Ry.cs r8)) (ds:=(Ry.cs r8)) Hc5 G G G G G G G G) (JLh (LT 9 H4.av r9) (G8 G G) G (JLh (LT 1 (LT 2 G6.av) r10) (G8 G G) G (G9 (hK7 _ _ ?_))))))
  refine Gz [(1,E2 boxes),(2,LS 1 (E1) families),(5,G1 m),(6,G1 n),(7,Ed s),(10,.dptr [G1 a.Load,G1 a.Discharge]),(11,.dptr [G1 b.Load,G1 b.Discharge]),(15,Em r8),(16,LT 9 H4.av r9),(17,LT 1 (LT 2 G6.av) r10)] [] 1004 rfl rfl rfl ø rfl (by repeat' (first | exact .ptr | constructor)) (G5 fun K11 hK11=>G3 (JLh (E2 r9.1) (H2.cv (Cv.lst0 r9) (G4 G G)) G ?_))
  obtain⟨r12,hr12,h⟩:=Gf h
  refine JLh (E3 r12) (Gs (args:=[E2 r9.1]) G (G6e.down r9.1 r12 hr12) Gfe ⟨G,G,ø⟩) G (JLh (E2 boxes) (G4 G G) G ?_)
  obtain⟨r13,hr13,h⟩:=Gf h
  refine JLh (E9 r13) (Gs (args:=[E2 boxes]) G (H1e F boxes r13 hr13) Q08 ⟨G,G,ø⟩) G (JLh (E3 r12) (G8 G G) G (JLh (E9 r13) (G8 G G) G (G9 (hK11 _ _ (G5 (fun K14 hK14=>G5 (fun K15 hK15=>?_)))))))
  obtain⟨r16,hr16,h⟩:=Gf h
  obtain⟨r17,hr17,h⟩:=Gf h
  refine Jc [] [0,0,0,0,0,0,0,0,0,0,0,0,0,0] [0,0,0,0,0,0,0,0,0,0,0,0,0,0] [[]] J3 (by kernel_rfl) rfl rfl ?_
  refine Gb (u:=E3 r12) G G ⟨Gh (G4 G G) G,ø⟩ (Gb (u:=En r12.length) G G ⟨Gh (Jp (f:=G2.av) (xs:=r12) H8 G G) G,ø⟩ (Gb (u:=E9 r13) G G ⟨Gh (G4 G G) G,ø⟩ (Gb (u:=En r13.length) G G ⟨Gh (Jp (f:=Gj.av) (xs:=r13) Yi G G) G,ø⟩ (Gb (u:=BL (decide ((r12.length:Int)≠(r13.length:Int)))) G G ⟨Gh (G14 G G G) G,ø⟩ (Gb (u:=BL (decide ((r12.length:Int)≠(r13.length:Int)))) G G ⟨Gh (G4 G G) G,ø⟩ (Gb (u:=.opt (!(decide ((r12.length:Int)≠(r13.length:Int)))) (.agg [G1 a.Load,G1 a.Discharge])) G G ⟨Gg [] G G G .scf ø (fun hc=>Gi Ho G G G) G,ø⟩ (Gb (u:=.opt (!(decide ((r12.length:Int)≠(r13.length:Int)))) (.agg [G1 b.Load,G1 b.Discharge])) G G ⟨Gg [] G G G .scf ø (fun hc=>Gi Ho G G G) G,ø⟩ (Gb (u:=.opt (!(decide ((r12.length:Int)≠(r13.length:Int)))) (BL r16)) G G ⟨Gg [(57,.agg [G1 a.Load,G1 a.Discharge]),(58,.agg [G1 b.Load,G1 b.Discharge])] G G G .scf ⟨.all id,.all id,ø⟩ (fun hc=>Gs (args:=[.agg [G1 a.Load,G1 a.Discharge],.agg [G1 b.Load,G1 b.Discharge]]) G (G90 a b r16 (Gy hc hr16)) H61 ⟨G,G,G,G,ø⟩) G,ø⟩ (Gb (u:=.opt (!(decide ((r12.length:Int)≠(r13.length:Int)))) (.agg [G1 a.Load,G1 a.Discharge])) G G ⟨Gg [] G G G .scf ø (fun hc=>Gi Ho G G G) G,ø⟩ (Gb (u:=.opt (!(decide ((r12.length:Int)≠(r13.length:Int)))) (.agg [G1 b.Load,G1 b.Discharge])) G G ⟨Gg [] G G G .scf ø (fun hc=>Gi Ho G G G) G,ø⟩ (Gb (u:=.opt (!(decide ((r12.length:Int)≠(r13.length:Int)))) (BL r17)) G G ⟨Gg [(60,.agg [G1 a.Load,G1 a.Discharge]),(61,.agg [G1 b.Load,G1 b.Discharge])] G G G .scf ⟨.all id,.all id,ø⟩ (fun hc=>Gs (args:=[.agg [G1 a.Load,G1 a.Discharge],.agg [G1 b.Load,G1 b.Discharge]]) G (G80 a b r17 (Gy hc hr17)) J78 ⟨G,G,G,G,ø⟩) G,ø⟩ (Gb (u:=.opt (!(decide ((r12.length:Int)≠(r13.length:Int)))) (BL (!(r16==r17)))) G G ⟨Gg [(59,BL r16),(62,BL r17)] G G G .scf ⟨.all id,.all id,ø⟩ (fun hc=>A_neBool Hfe G G G) G,ø⟩ (Gb (u:=BL ((decide ((r12.length:Int)≠(r13.length:Int)))||(!(r16==r17)))) G G ⟨Gh (Z5 G G G G) G,ø⟩ (Rb ?_))))))))))))))
  refine hK15 _ _ (Gp G (fun hb=>?_) (fun hb=>?_))
  ·
   replace h:=Gy hb h
   refine G5 fun K18 hK18=>G3 (JLh (BL false) (G8 G G) G (G9 (hK18 _ _ (Gx (⟨[BL false],[],ø,G,⟨⟨_,G,.conv (.same G)⟩,ø⟩,G,congrArg (fun r:Bool=>(BL r:AV)) (Option.some.inj h)⟩)))))
  ·
   replace h:=Hp hb h
   refine Gq (hK14 _ _ (G5 (fun K19 hK19=>G5 fun K20 hK20=>G3 (JLh (E3 r12) (G4 G G) G (H0 (f:=G2.av) (xs:=r12) H8 G G (fun hm66=>?_) G G G)))))
   refine JLh (G1 0) (G4 G G) G (G9 (hK20 _ _ (Gn ?_)))
   obtain⟨b39,kx39,hb39,hkx39,h⟩:=J9 h
   refine H7 (fun i39 (s39:Unit)=>each b39 kx39 (List.drop i39 r12) i39 s39=some r) (fun i39 s39=>[(1,E2 boxes),(2,LS 1 (E1) families),(5,G1 m),(6,G1 n),(7,Ed s),(15,Em r8),(16,LT 9 H4.av r9),(17,LT 1 (LT 2 G6.av) r10),(19,E9 r13),(65,E3 r12),(66,En r12.length),(67,En i39)]) (fun i39 s39=>[]) (fun i39=>r12.length - i39) 0 () h ⟨(by repeat' constructor),ø,rfl⟩ ?_
   clear h
   intro i39 s39 hi39 K39 e39
   refine G5 fun K40 hK40=>G3 (JLh (BL (decide ((i39:Int) < (r12.length:Int)))) (Hx G G G) G (G9 (hK40 _ _ (G5 (fun K41 hK41=>Gp G (fun hb=>?_) (fun hb=>?_))))))
   ·
    have hk39:=Jm hb
    obtain⟨y39,nx39,hy39,hn39,h⟩:=Hy hi39 hk39
    replace h:=Zn hb39 h
    refine Gq (hK41 _ _ (G5 (fun K42 hK42=>Gn (G5 fun K43 hK43=>G3 (JLh (En i39) (G4 G G) G (JLh (Ee y39) (Gv (f:=G2.av) (xs:=r12) (y:=y39) G G G H8 hy39 G) G (JLh (.agg (G2.cs y39)) (Gi R0 G G G) G (JLh (.ptr 1005 0) (Jn 1005 4 R9 G G) G (JLh (En i39) (G8 G G) G (Jb (u:=.junk) (J4 (u:=.agg (G2.cs y39)) (ds:=[G1 y39.G6.Load,G1 y39.G6.Discharge,G1 y39.Whole,G1 y39.Half]) G1f G G G G G G G G) (G9 (hK43 _ _ ?_))))))))))))
    refine Gz [(1,E2 boxes),(2,LS 1 (E1) families),(5,G1 m),(6,G1 n),(7,Ed s),(15,Em r8),(16,LT 9 H4.av r9),(17,LT 1 (LT 2 G6.av) r10),(19,E9 r13),(20,En i39),(21,Ee y39),(65,E3 r12),(66,En r12.length),(67,En i39)] [] 1005 rfl rfl rfl ø rfl (by repeat' (first | exact .ptr | constructor)) (G5 (fun K44 hK44=>?_))
    obtain⟨m46,y45,hm46,hy45,h⟩:=Q6 h
    refine Jc [] [0,0,0,0,0,0] [0,0,0,0,0,0] [[]] J3 (by kernel_rfl) rfl rfl ?_
    refine Gb (u:=.agg (G2.cs y39)) G G ⟨Gh (Gi R0 G G G) G,ø⟩ (Gb (u:=E9 r13) G G ⟨Gh (G4 G G) G,ø⟩ (Gb (u:=En i39) G G ⟨Gh (G4 G G) G,ø⟩ (Gb (u:=Ei y45) G G ⟨Gh (Gv (f:=Gj.av) (xs:=r13) (y:=y45) G G G Yi hy45 hm46) G,ø⟩ (Gb (u:=.agg (Gj.cs y45)) G G ⟨Gh (Gi Gf5 G G G) G,ø⟩ (Gb (u:=BL (!decide (y39=(G2.mk y45.G6 y45.Whole y45.Half)))) G G ⟨Gh (J66 (vs:=[.int .i64 y39.G6.Load,.int .i64 y39.G6.Discharge,.int .i64 y39.Whole,.int .i64 y39.Half]) (us:=[.int .i64 y45.G6.Load,.int .i64 y45.G6.Discharge,.int .i64 y45.Whole,.int .i64 y45.Half]) 4 G (tq_81 y39 (G2.mk y45.G6 y45.Whole y45.Half)) Je8 tf_eqg_81 G G G) G,ø⟩ (Rb (hK44 _ _ ?_)))))))
    refine Gp G (fun hb=>?_) (fun hb=>?_)
    ·
     replace h:=Gy hb h
     refine G5 fun K47 hK47=>G3 (JLh (BL false) (G8 G G) G (G9 (hK47 _ _ (Gx (⟨[BL false],[],ø,G,⟨⟨_,G,.conv (.same G)⟩,ø⟩,G,congrArg (fun r:Bool=>(BL r:AV)) (Option.some.inj h)⟩)))))
    ·
     replace h:=Hp hb h
     refine Gq (hK42 _ _ (G3 (JLh (G1 ((i39+1:Nat):Int)) (Hj (Hi hk39 hm66) G G G) G (JLh (G1 ((i39+1:Nat):Int)) (G4 G G) G (G9 (e39 _ _ (i39+1) () (app1 hn39 h) (by omega) ⟨(by repeat' constructor),ø,rfl⟩))))))
   ·
    have h:=app1 hkx39 (Hz hi39 (Hg hb))
    refine Hc (hK19 _ _ (G5 fun K48 hK48=>G3 (JLh (.agg [E5 (r8.Columns.1.map Gu.pl),E4 (r8.Covers.1.map H5.pl),G1 r8.Light.Kilos,G1 r8.Light.X,G1 r8.Light.Y,G1 r8.Light.Z,E7 r8.Rows.1,E6 r8.Frames.1,E8 (r8.Tanks.1.map Hd.pl),G1 r8.G7.Tolerance,G1 r8.G7.Trim,G1 r8.G7.List_,G1 r8.G7.Stability]) (H2.cv (Cv.aggL (cs:=(Ry.cs r8)) ⟨Cv.lstM (f:=Gu.av) (g:=Ga.av) Gu.pl Gu.cvl r8.Columns,Cv.lstM (f:=H5.av) (g:=Gm.av) H5.pl H5.cvl r8.Covers,.same,.same,.same,.same,Cv.lst0 r8.Rows,Cv.lst0 r8.Frames,Cv.lstM (f:=Hd.av) (g:=Gw.av) Hd.pl Hd.cvl r8.Tanks,.same,.same,.same,.same,ø⟩) (Gi Jd G G G)) G (JLh (G1 m) (G4 G G) G (JLh (G1 n) (G4 G G) G ?_)))))
    obtain⟨r49,hr49,h⟩:=Gf h
    refine JLh (.tup [G1 r49.1,G1 r49.2]) (Gs (args:=[.agg [E5 (r8.Columns.1.map Gu.pl),E4 (r8.Covers.1.map H5.pl),G1 r8.Light.Kilos,G1 r8.Light.X,G1 r8.Light.Y,G1 r8.Light.Z,E7 r8.Rows.1,E6 r8.Frames.1,E8 (r8.Tanks.1.map Hd.pl),G1 r8.G7.Tolerance,G1 r8.G7.Trim,G1 r8.G7.List_,G1 r8.G7.Stability],G1 m,G1 n]) G (Hab (J0.mk (r8.Columns.1.map Gu.pl) (r8.Covers.1.map H5.pl) r8.Light r8.Rows.1 r8.Frames.1 (r8.Tanks.1.map Hd.pl) r8.G7) m n r49 hr49) J77 ⟨G,G,G,G,G,G,ø⟩) G (JLh (.tup [G1 r49.1,G1 r49.2]) (G4 G G) G (JLh (G1 r49.1) (Hm G G G) G (JLh (G1 r49.2) (Hm G G G) G (JLh (G1 r49.1) (G8 G G) G (JLh (G1 r49.2) (G8 G G) G (G9 (hK48 _ _ ?_)))))))
    refine G5 fun K50 hK50=>G3 (JLh (.agg (J0.cs s)) (Gi Jd G G G) G (JLh (G1 m) (G4 G G) G (JLh (G1 n) (G4 G G) G ?_)))
    obtain⟨r51,hr51,h⟩:=Gf h
    refine JLh (.tup [G1 r51.1,G1 r51.2]) (Gs (args:=[.agg (J0.cs s),G1 m,G1 n]) G (H52 F s m n r51 hr51) Q07 ⟨G,G,G,G,G,G,ø⟩) G (JLh (.tup [G1 r51.1,G1 r51.2]) (G4 G G) G (JLh (G1 r51.1) (Hm G G G) G (JLh (G1 r51.2) (Hm G G G) G (JLh (G1 r51.1) (G8 G G) G (JLh (G1 r51.2) (G8 G G) G (G9 (hK50 _ _ (G5 (fun K52 hK52=>G5 fun K53 hK53=>G3 (JLh (G1 r49.1) (G4 G G) G (JLh (G1 r51.1) (G4 G G) G (JLh (BL (decide (r49.1≠r51.1))) (G14 G G G) G (JLh (BL (decide (r49.1≠r51.1))) (G4 G G) G ?_)))))))))))))
    refine Gd (u:=G1 r49.2) [] G G G .scf ø (fun hc=>G4 G G) ?_
    refine Gd (u:=G1 r51.2) [] G G G .scf ø (fun hc=>G4 G G) ?_
    refine Gd (u:=BL (decide (r49.2≠r51.2))) [(97,G1 r49.2),(98,G1 r51.2)] G G G .scf ⟨.all id,.all id,ø⟩ (fun hc=>G14 G G G) ?_
    refine JLh (BL ((decide (r49.1≠r51.1))||(decide (r49.2≠r51.2)))) (Z5 G G G G) G (G9 (hK53 _ _ (Gp G (fun hb=>?_) (fun hb=>?_))))
    ·
     replace h:=Gy hb h
     refine G5 fun K54 hK54=>G3 (JLh (BL false) (G8 G G) G (G9 (hK54 _ _ (Gx (⟨[BL false],[],ø,G,⟨⟨_,G,.conv (.same G)⟩,ø⟩,G,congrArg (fun r:Bool=>(BL r:AV)) (Option.some.inj h)⟩)))))
    ·
     replace h:=Hp hb h
     refine Gq (hK52 _ _ ?_)
     refine G5 fun K55 hK55=>G3 (JLh (.agg [E5 (r8.Columns.1.map Gu.pl),E4 (r8.Covers.1.map H5.pl),G1 r8.Light.Kilos,G1 r8.Light.X,G1 r8.Light.Y,G1 r8.Light.Z,E7 r8.Rows.1,E6 r8.Frames.1,E8 (r8.Tanks.1.map Hd.pl),G1 r8.G7.Tolerance,G1 r8.G7.Trim,G1 r8.G7.List_,G1 r8.G7.Stability]) (H2.cv (Cv.aggL (cs:=(Ry.cs r8)) ⟨Cv.lstM (f:=Gu.av) (g:=Ga.av) Gu.pl Gu.cvl r8.Columns,Cv.lstM (f:=H5.av) (g:=Gm.av) H5.pl H5.cvl r8.Covers,.same,.same,.same,.same,Cv.lst0 r8.Rows,Cv.lst0 r8.Frames,Cv.lstM (f:=Hd.av) (g:=Gw.av) Hd.pl Hd.cvl r8.Tanks,.same,.same,.same,.same,ø⟩) (Gi Jd G G G)) G (JLh (E2 r9.1) (H2.cv (Cv.lst0 r9) (G4 G G)) G (JLh (LS 1 (E1) (r10.1.map Prod.fst)) (H2.cv (Cv.lstM (f:=(LT 2 G6.av)) (g:=(E1)) Prod.fst (fun x=>⟨Cv.lst0 x,ø⟩) r10) (G4 G G)) G ?_)))
     obtain⟨r56,hr56,h⟩:=Gf h
     refine JLh (.tup [G1 r56.1,G1 r56.2]) (Gs (args:=[.agg [E5 (r8.Columns.1.map Gu.pl),E4 (r8.Covers.1.map H5.pl),G1 r8.Light.Kilos,G1 r8.Light.X,G1 r8.Light.Y,G1 r8.Light.Z,E7 r8.Rows.1,E6 r8.Frames.1,E8 (r8.Tanks.1.map Hd.pl),G1 r8.G7.Tolerance,G1 r8.G7.Trim,G1 r8.G7.List_,G1 r8.G7.Stability],E2 r9.1,LS 1 (E1) (r10.1.map Prod.fst)]) G (H7f.down F (J0.mk (r8.Columns.1.map Gu.pl) (r8.Covers.1.map H5.pl) r8.Light r8.Rows.1 r8.Frames.1 (r8.Tanks.1.map Hd.pl) r8.G7) r9.1 (r10.1.map Prod.fst) r56 hr56) J76 ⟨G,G,G,G,G,G,ø⟩) G (JLh (.tup [G1 r56.1,G1 r56.2]) (G4 G G) G (JLh (G1 r56.1) (Hm G G G) G (JLh (G1 r56.2) (Hm G G G) G (JLh (G1 r56.1) (G8 G G) G (JLh (G1 r56.2) (G8 G G) G (G9 (hK55 _ _ ?_)))))))
     refine G5 fun K57 hK57=>G3 (JLh (.agg (J0.cs s)) (Gi Jd G G G) G (JLh (E2 boxes) (G4 G G) G (JLh (LS 1 (E1) families) (G4 G G) G ?_)))
     obtain⟨r58,hr58,h⟩:=Gf h
     refine JLh (.tup [G1 r58.1,G1 r58.2]) (Gs (args:=[.agg (J0.cs s),E2 boxes,LS 1 (E1) families]) G (H44 F s boxes families r58 hr58) Q06 ⟨G,G,G,G,G,G,ø⟩) G (JLh (.tup [G1 r58.1,G1 r58.2]) (G4 G G) G (JLh (G1 r58.1) (Hm G G G) G (JLh (G1 r58.2) (Hm G G G) G (JLh (G1 r58.1) (G8 G G) G (JLh (G1 r58.2) (G8 G G) G (G9 (hK57 _ _ (G5 (fun K59 hK59=>?_)))))))))
     refine G5 fun K60 hK60=>G3 (JLh (G1 r56.1) (G4 G G) G (JLh (G1 r58.1) (G4 G G) G (JLh (BL (decide (r56.1≠r58.1))) (G14 G G G) G (JLh (BL (decide (r56.1≠r58.1))) (G4 G G) G (Gd (u:=G1 r56.2) [] G G G .scf ø (fun hc=>G4 G G) ?_)))))
     refine Gd (u:=G1 r58.2) [] G G G .scf ø (fun hc=>G4 G G) ?_
     refine Gd (u:=BL (decide (r56.2≠r58.2))) [(119,G1 r56.2),(120,G1 r58.2)] G G G .scf ⟨.all id,.all id,ø⟩ (fun hc=>G14 G G G) ?_
     refine JLh (BL ((decide (r56.1≠r58.1))||(decide (r56.2≠r58.2)))) (Z5 G G G G) G (G9 (hK60 _ _ (Gp G (fun hb=>?_) (fun hb=>?_))))
     ·
      replace h:=Gy hb h
      refine G5 fun K61 hK61=>G3 (JLh (BL false) (G8 G G) G (G9 (hK61 _ _ (Gx (⟨[BL false],[],ø,G,⟨⟨_,G,.conv (.same G)⟩,ø⟩,G,congrArg (fun r:Bool=>(BL r:AV)) (Option.some.inj h)⟩)))))
     ·
      replace h:=Hp hb h
      refine Gq (hK59 _ _ (G5 (fun K62 hK62=>G5 fun K63 hK63=>G3 (JLh (LS 1 (E1) families) (G4 G G) G (H0 (f:=(E1)) (xs:=families) J1 G G (fun hm124=>?_) G G G)))))
      refine JLh (G1 0) (G4 G G) G (G9 (hK63 _ _ (Gn ?_)))
      obtain⟨b90,kx90,hb90,hkx90,h⟩:=J9 h
      refine H7 (fun i90 (s90:Unit)=>each b90 kx90 (List.drop i90 families) i90 s90=some r) (fun i90 s90=>[(1,E2 boxes),(2,LS 1 (E1) families),(7,Ed s),(15,Em r8),(16,LT 9 H4.av r9),(17,LT 1 (LT 2 G6.av) r10),(124,En families.length),(125,En i90)]) (fun i90 s90=>[]) (fun i90=>families.length - i90) 0 () h ⟨(by repeat' constructor),ø,rfl⟩ ?_
      clear h
      intro i90 s90 hi90 K90 e90
      refine G5 fun K91 hK91=>G3 (JLh (BL (decide ((i90:Int) < (families.length:Int)))) (Hx G G G) G (G9 (hK91 _ _ (G5 (fun K92 hK92=>Gp G (fun hb=>?_) (fun hb=>?_))))))
      ·
       have hk90:=Jm hb
       obtain⟨y90,nx90,hy90,hn90,h⟩:=Hy hi90 hk90
       replace h:=Zn hb90 h
       refine Gq (hK92 _ _ (G5 (fun K93 hK93=>Gn (G5 fun K94 hK94=>G3 (JLh (En i90) (G4 G G) G (JLh (En i90) (G8 G G) G (G9 (hK94 _ _ (G5 (fun K95 hK95=>?_))))))))))
       obtain⟨m97,y96,hm97,hy96,h⟩:=Q6 h
       obtain⟨r98,hr98,h⟩:=Gf h
       refine Jc [] [0,0,0,0,0,0,0,0,0,0,0,0] [0,0,0,0,0,0,0,0,0,0,0,0] [[]] J3 (by kernel_rfl) rfl rfl ?_
       refine Gb (u:=.agg [E5 (r8.Columns.1.map Gu.pl),E4 (r8.Covers.1.map H5.pl),G1 r8.Light.Kilos,G1 r8.Light.X,G1 r8.Light.Y,G1 r8.Light.Z,E7 r8.Rows.1,E6 r8.Frames.1,E8 (r8.Tanks.1.map Hd.pl),G1 r8.G7.Tolerance,G1 r8.G7.Trim,G1 r8.G7.List_,G1 r8.G7.Stability]) G G ⟨Gh (H2.cv (Cv.aggL (cs:=(Ry.cs r8)) ⟨Cv.lstM (f:=Gu.av) (g:=Ga.av) Gu.pl Gu.cvl r8.Columns,Cv.lstM (f:=H5.av) (g:=Gm.av) H5.pl H5.cvl r8.Covers,.same,.same,.same,.same,Cv.lst0 r8.Rows,Cv.lst0 r8.Frames,Cv.lstM (f:=Hd.av) (g:=Gw.av) Hd.pl Hd.cvl r8.Tanks,.same,.same,.same,.same,ø⟩) (Gi Jd G G G)) G,ø⟩ (Gb (u:=E2 r9.1) G G ⟨Gh (H2.cv (Cv.lst0 r9) (G4 G G)) G,ø⟩ (Gb (u:=LT 1 (LT 2 G6.av) r10) G G ⟨Gh (G4 G G) G,ø⟩ (Gb (u:=En i90) G G ⟨Gh (G4 G G) G,ø⟩ (Gb (u:=.dptr [LT 2 G6.av y96]) G G ⟨Gh (Gv (f:=(LT 2 G6.av)) (xs:=r10.1) (y:=y96) G G G J1 hy96 hm97) G,ø⟩ (Gb (u:=E1 y96.1) G G ⟨Gh (H2.cv (Cv.lst0 y96) (Gk Rv G G G)) G,ø⟩ (Gb (u:=.tup [G1 r98.1,G1 r98.2]) G G ⟨Gh (Gs (args:=[.agg [E5 (r8.Columns.1.map Gu.pl),E4 (r8.Covers.1.map H5.pl),G1 r8.Light.Kilos,G1 r8.Light.X,G1 r8.Light.Y,G1 r8.Light.Z,E7 r8.Rows.1,E6 r8.Frames.1,E8 (r8.Tanks.1.map Hd.pl),G1 r8.G7.Tolerance,G1 r8.G7.Trim,G1 r8.G7.List_,G1 r8.G7.Stability],E2 r9.1,E1 y96.1]) G (G45 F (J0.mk (r8.Columns.1.map Gu.pl) (r8.Covers.1.map H5.pl) r8.Light r8.Rows.1 r8.Frames.1 (r8.Tanks.1.map Hd.pl) r8.G7) r9.1 y96.1 r98 hr98) Gfd ⟨G,G,G,G,G,G,ø⟩) G,ø⟩ (Gb (u:=.tup [G1 r98.1,G1 r98.2]) G G ⟨Gh (G4 G G) G,ø⟩ (Gb (u:=G1 r98.1) G G ⟨Gh (Hm G G G) G,ø⟩ (Gb (u:=G1 r98.2) G G ⟨Gh (Hm G G G) G,ø⟩ (Gb (u:=G1 r98.1) G G ⟨Gh (G8 G G) G,ø⟩ (Gb (u:=G1 r98.2) G G ⟨Gh (G8 G G) G,ø⟩ (Rb ?_))))))))))))
       refine hK95 _ _ (G5 (fun K99 hK99=>?_))
       obtain⟨r100,hr100,h⟩:=Gf h
       refine Jc [] [0,0,0,0,0,0,0,0,0,0,0,0] [0,0,0,0,0,0,0,0,0,0,0,0] [[]] J3 (by kernel_rfl) rfl rfl ?_
       refine Gb (u:=.agg (J0.cs s)) G G ⟨Gh (Gi Jd G G G) G,ø⟩ (Gb (u:=E2 boxes) G G ⟨Gh (G4 G G) G,ø⟩ (Gb (u:=LS 1 (E1) families) G G ⟨Gh (G4 G G) G,ø⟩ (Gb (u:=En i90) G G ⟨Gh (G4 G G) G,ø⟩ (Gb (u:=.dptr [E1 y90]) G G ⟨Gh (Gv (f:=(E1)) (xs:=families) (y:=y90) G G G J1 hy90 G) G,ø⟩ (Gb (u:=E1 y90) G G ⟨Gh (Gk Rv G G G) G,ø⟩ (Gb (u:=.tup [G1 r100.1,G1 r100.2]) G G ⟨Gh (Gs (args:=[.agg (J0.cs s),E2 boxes,E1 y90]) G (H1f F s boxes y90 r100 hr100) Q05 ⟨G,G,G,G,G,G,ø⟩) G,ø⟩ (Gb (u:=.tup [G1 r100.1,G1 r100.2]) G G ⟨Gh (G4 G G) G,ø⟩ (Gb (u:=G1 r100.1) G G ⟨Gh (Hm G G G) G,ø⟩ (Gb (u:=G1 r100.2) G G ⟨Gh (Hm G G G) G,ø⟩ (Gb (u:=G1 r100.1) G G ⟨Gh (G8 G G) G,ø⟩ (Gb (u:=G1 r100.2) G G ⟨Gh (G8 G G) G,ø⟩ (Rb ?_))))))))))))
       refine hK99 _ _ (G5 fun K101 hK101=>G3 (JLh (G1 r98.1) (G4 G G) G (JLh (G1 r100.1) (G4 G G) G (JLh (BL (decide (r98.1≠r100.1))) (G14 G G G) G (JLh (BL (decide (r98.1≠r100.1))) (G4 G G) G (Gd (u:=G1 r98.2) [] G G G .scf ø (fun hc=>G4 G G) ?_))))))
       refine Gd (u:=G1 r100.2) [] G G G .scf ø (fun hc=>G4 G G) ?_
       refine Gd (u:=BL (decide (r98.2≠r100.2))) [(152,G1 r98.2),(153,G1 r100.2)] G G G .scf ⟨.all id,.all id,ø⟩ (fun hc=>G14 G G G) ?_
       refine JLh (BL ((decide (r98.1≠r100.1))||(decide (r98.2≠r100.2)))) (Z5 G G G G) G (G9 (hK101 _ _ (Gp G (fun hb=>?_) (fun hb=>?_))))
       ·
        replace h:=Gy hb h
        refine G5 fun K102 hK102=>G3 (JLh (BL false) (G8 G G) G (G9 (hK102 _ _ (Gx (⟨[BL false],[],ø,G,⟨⟨_,G,.conv (.same G)⟩,ø⟩,G,congrArg (fun r:Bool=>(BL r:AV)) (Option.some.inj h)⟩)))))
       ·
        replace h:=Hp hb h
        refine Gq (hK93 _ _ (G3 (JLh (G1 ((i90+1:Nat):Int)) (Hj (Hi hk90 hm124) G G G) G (JLh (G1 ((i90+1:Nat):Int)) (G4 G G) G (G9 (e90 _ _ (i90+1) () (app1 hn90 h) (by omega) ⟨(by repeat' constructor),ø,rfl⟩))))))
      ·
       have h:=app1 hkx90 (Hz hi90 (Hg hb))
       refine Hc (hK62 _ _ (G5 fun K103 hK103=>G3 (JLh (.agg (Ry.cs r8)) (Gi Jd G G G) G (JLh (.agg (J0.cs s)) (Gi Jd G G G) G ?_))))
       obtain⟨r104,hr104,h⟩:=Gf h
       refine JLh (BL r104) (Gs (args:=[.agg (Ry.cs r8),.agg (J0.cs s)]) G (H28 r8 s r104 hr104) Q0c ⟨G,G,G,G,ø⟩) G (JLh (BL r104) (G4 G G) G (Gd (u:=LT 9 H4.av r9) [] G G G .sct ø (fun hc=>G4 G G) ?_))
       refine Gd (u:=E2 boxes) [] G G G .sct ø (fun hc=>G4 G G) ?_
       obtain⟨r105,hr105,h⟩:=Gf h
       refine Gd (u:=BL r105) [(161,LT 9 H4.av r9),(162,E2 boxes)] G G G .sct ⟨.all id,.all id,ø⟩ (fun hc=>Gs (args:=[LT 9 H4.av r9,E2 boxes]) G (H17 r9 boxes r105 (Gy hc hr105)) Q0b ⟨G,G,G,G,ø⟩) ?_
       refine JLh (BL (r104&&r105)) (J7 G G G G) G (JLh (BL (r104&&r105)) (G4 G G) G (Gd (u:=LT 1 (LT 2 G6.av) r10) [] G G G .sct ø (fun hc=>G4 G G) ?_))
       refine Gd (u:=LS 1 (E1) families) [] G G G .sct ø (fun hc=>G4 G G) ?_
       obtain⟨r106,hr106,h⟩:=Gf h
       refine Gd (u:=BL r106) [(166,LT 1 (LT 2 G6.av) r10),(167,LS 1 (E1) families)] G G G .sct ⟨.all id,.all id,ø⟩ (fun hc=>Gs (args:=[LT 1 (LT 2 G6.av) r10,LS 1 (E1) families]) G (Gd0 r10 families r106 (Gy hc hr106)) Q04 ⟨G,G,G,G,ø⟩) ?_
       refine JLh (BL ((r104&&r105)&&r106)) (J7 G G G G) G (JLh (BL ((r104&&r105)&&r106)) (G4 G G) G ?_)
       obtain⟨r107,hr107,h⟩:=Gf h
       refine Gd (u:=BL r107) [] G G G .sct ø (fun hc=>Gs (args:=[]) G (G82 F r107 (Gy hc hr107)) J79 ø) ?_
       refine JLh (BL (((r104&&r105)&&r106)&&r107)) (J7 G G G G) G (JLh (BL (((r104&&r105)&&r106)&&r107)) (G8 G G) G (G9 (hK103 _ _ (Gx (⟨[BL (((r104&&r105)&&r106)&&r107)],[],ø,G,⟨⟨_,G,.conv (.same G)⟩,ø⟩,G,congrArg (fun r:Bool=>(BL r:AV)) (Option.some.inj h)⟩)))))
end
end Go.Proofs.YtfkilljboodoaaaGreat
