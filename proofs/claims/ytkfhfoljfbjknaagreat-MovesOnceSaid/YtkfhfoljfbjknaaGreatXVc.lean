/-
 Models of functions of the program,and that they return what the models say.
-/
import Derived.Test.YtkfhfoljfbjknaaGreatProg
import Derived.Test.YtkfhfoljfbjknaaGreatSortM
import Derived.Test.YtkfhfoljfbjknaaGreatSortLay
import Derived.Test.YtkfhfoljfbjknaaGreatRel
import Derived.Test.YtkfhfoljfbjknaaGreatLit0
import Derived.Test.YtkfhfoljfbjknaaGreatXA
import Derived.Test.YtkfhfoljfbjknaaGreatSpecA
import Derived.Test.YtkfhfoljfbjknaaGreatSpecI
import Derived.Test.YtkfhfoljfbjknaaGreatSpecJ
import Derived.Test.YtkfhfoljfbjknaaGreatXVa
import Derived.Test.YtkfhfoljfbjknaaGreatXVb
set_option maxRecDepth 100000
set_option linter.unusedVariables false
set_option linter.unusedSimpArgs false
namespace Go.Proofs.YtkfhfoljfbjknaaGreat
open Go.RowKit
noncomputable section
open XAF
open XVF

def M_ship_CoverOf_1 (x:Ga) (p1:Gz) (p2:Int):Option Bool:=
 Jy p1.Columns p2 fun y3=>
 bnd (M_ship_covers x y3) fun r5=>
 some r5
theorem M_ship_CoverOf_1_w (x:Ga) (p1:Gz) (p2:Int) (r:Bool) (h:M_ship_CoverOf_1 x p1 p2=some r):Pure Tryz.prog 75 [.agg [G0 x.Bay,E1 x.Rows],Ee p1,.dptr [G0 p2]] (·=BL r):=by
 unfold M_ship_CoverOf_1 at h
 refine H9 [.tmp 4] Tryz.func75 O O ?_
 refine G6 fun K1 hK1=>G3 ?_
 refine JLg (.ptr 1161 0) (Q1 (u:=.agg [G0 x.Bay,E1 x.Rows]) (cs:=[G0 x.Bay,E1 x.Rows]) 1161 O O O O O) ?_
 refine JLg (BL false) (G9 O O) ?_
 refine G8 (hK1 _ _ ?_)
 refine Gk [(1,Ee p1),(2,.dptr [G0 p2]),(3,.dptr [G0 x.Bay,E1 x.Rows])] [] 1161 rfl rfl rfl G rfl (by exact⟨.conv (.same rfl),.conv (.same rfl),.ptr,G⟩) ?_
 refine G6 (fun K2 hK2=>?_)
 obtain⟨m4,y3,hm4,hy3,h⟩:=R3 h
 obtain⟨r5,hr5,h⟩:=Ge h
 refine Qp [] [0,0,0,0,0,0,0,0] [0,0,0,0,0,0,0,0] [[]] Q5 (by kernel_rfl) rfl rfl ?_
 refine Gn (u:=.agg [G0 x.Bay,E1 x.Rows]) O O ⟨Gs (Gi tf_agg_74 O O O) O,G⟩ ?_
 refine Gn (u:=Ee p1) O O ⟨Gs (Gc J6 O O O) O,G⟩ ?_
 refine Gn (u:=E4 p1.Columns) O O ⟨Gs (Gf Jd O O O) O,G⟩ ?_
 refine Gn (u:=G0 p2) O O ⟨Gs (Gf Gb O O O) O,G⟩ ?_
 refine Gn (u:=Ei y3) O O ⟨Gs (H0 (f:=G5.av) (xs:=p1.Columns) (y:=y3) O O O J7 hy3 hm4) O,G⟩ ?_
 refine Gn (u:=.agg (G5.cs y3)) O O ⟨Gs (Gi Ya O O O) O,G⟩ ?_
 refine Gn (u:=BL r5) O O ⟨Gs (H1 (args:=[.agg [G0 x.Bay,E1 x.Rows],.agg (G5.cs y3)]) O (M_ship_covers_w x y3 r5 hr5) tf_call_76 ⟨O,O,O,O,G⟩) O,G⟩ ?_
 refine Gn (u:=BL r5) O O ⟨Gs (G9 O O) O,G⟩ ?_
 refine Ry ?_
 refine hK2 _ _ ?_
 refine Gu ?_
 exact⟨[BL r5],[],G,O,⟨⟨_,O,.conv (.same O)⟩,G⟩,O,congrArg (fun r:Bool=>(BL r:AV)) (Option.some.inj h)⟩

def M_ship_chosen_apiCover (l:List Ga) (wanted:Ga→Option Bool):Option (List Int):=
 each (fun y21 i21 (s21:(List Int)) nx21=>
  jp (fun kj24=>
   bnd (wanted y21) fun r27=>
   bif r27 then
   (need (decide ((s21.length+[(i21:Int)].length)*8≤140737488355328∧s21.length+[(i21:Int)].length≤maxLen)) <|
    kj24 (s21++[(i21:Int)]))
   else
   (kj24 s21)) fun(j24:(List Int))=>
  nx21 j24)
 (fun(s21:(List Int))=>
  some s21) l 0 []
theorem M_ship_chosen_apiCover_w (l:List Ga) (wanted:Ga→Option Bool) (wanted_f:FuncId) (wanted_c:List AV) (wanted_B:Hb Tryz.prog wanted_f=true) (wanted_d:Qm (fun _=>false) wanted_c=true) (wanted_w:∀ a0 q,wanted a0=some q→Pure Tryz.prog wanted_f ([.agg [G0 a0.Bay,E1 a0.Rows]]++wanted_c) (·=BL q)) (r:(List Int)) (h:M_ship_chosen_apiCover l wanted=some r):Pure Tryz.prog 74 [E6 l,.fn wanted_f wanted_c] (·=E1 r):=by
 unfold M_ship_chosen_apiCover at h
 refine H9 [.tmp 4] Tryz.func74 O O ?_
 refine G6 fun K1 hK1=>G3 ?_
 refine JLg (E1 ([]:List Int)) (Jj 1 O O) ?_
 refine G8 (hK1 _ _ ?_)
 refine G6 fun K2 hK2=>G3 ?_
 refine JLg (OW 1159 1 G0 ([]:List Int)) (Yx 1159 3 1 O O O) ?_
 refine G8 (hK2 _ _ ?_)
 refine G6 (fun K3 hK3=>?_)
 refine G6 fun K4 hK4=>G3 ?_
 refine JLg (E6 l) (G7 O O) ?_
 refine Hs (f:=Ga.av) (xs:=l) Qq O O (fun hm9=>?_) O O O
 refine JLg (G0 0) (G7 O O) ?_
 refine G8 (hK4 _ _ ?_)
 refine Gg ?_
 obtain⟨b21,kx21,hb21,hkx21,h⟩:=Hu h
 refine H7 (fun i21 (s21:(List Int))=>each b21 kx21 (List.drop i21 l) i21 s21=some r) (fun i21 s21=>[(1,.fn wanted_f wanted_c),(5,OW 1159 1 G0 s21),(8,E6 l),(9,Em l.length),(10,Em i21)]) (fun i21 s21=>[(1159,.spare 3 1 s21.length s21.length)]) (fun i21=>l.length - i21) 0 [] h ⟨⟨.same (H8 _ _ wanted_d),.same O,.same O,.same O,.same O,G⟩,⟨⟨_,O,.same⟩,G⟩,O⟩ ?_
 clear h
 intro i21 s21 hi21 K21 e21
 refine G6 fun K22 hK22=>G3 ?_
 refine JLg (BL (decide ((i21:Int) < (l.length:Int)))) (Hy O O O) ?_
 refine G8 (hK22 _ _ ?_)
 refine G6 (fun K23 hK23=>?_)
 refine Gh O (fun hb=>?_) (fun hb=>?_)
 ·
  have hk21:=J9 hb
  obtain⟨y21,nx21,hy21,hn21,h⟩:=Hn hi21 hk21
  replace h:=app4 hb21 h
  refine Gj ?_
  refine hK23 _ _ ?_
  obtain⟨kj24,hkj24,h⟩:=Qd h
  refine Jq (fun j24:(List Int)=>kj24 j24=some r) (fun j24=>[(1,.fn wanted_f wanted_c),(5,OW 1159 1 G0 j24),(8,E6 l),(9,Em l.length),(10,Em i21)]) (fun j24=>[(1159,.spare 3 1 j24.length j24.length)]) (fun Kj24 ej24=>?_) ?_
  ·
   refine Gg ?_
   refine G6 fun K25 hK25=>G3 ?_
   refine JLg (Em i21) (G7 O O) ?_
   refine JLg (.dptr [G0 y21.Bay,E1 y21.Rows]) (H0 (f:=Ga.av) (xs:=l) (y:=y21) O O O Qq hy21 O) ?_
   refine JLg (.agg [G0 y21.Bay,E1 y21.Rows]) (Gi tf_agg_74 O O O) ?_
   refine JLg (.ptr 1160 0) (Hi 1160 2 tf_zsize_74 O O) ?_
   refine JLg (Em i21) (G9 O O) ?_
   refine Hj (u:=.junk) (H2 (u:=.agg [G0 y21.Bay,E1 y21.Rows]) (ds:=[G0 y21.Bay,E1 y21.Rows]) tf_size_74 O O O O O O O O) ?_
   refine G8 (hK25 _ _ ?_)
   refine Gk [(1,.fn wanted_f wanted_c),(5,OW 1159 1 G0 s21),(6,Em i21),(7,.dptr [G0 y21.Bay,E1 y21.Rows]),(8,E6 l),(9,Em l.length),(10,Em i21)] [(1159,.spare 3 1 s21.length s21.length)] 1160 rfl rfl rfl ⟨⟨_,rfl,.same⟩,G⟩ rfl (by exact⟨.conv (.same (H8 _ _ wanted_d)),.conv (.same rfl),.conv (.same rfl),.ptr,.conv (.same rfl),.conv (.same rfl),.conv (.same rfl),G⟩) ?_
   refine G6 fun K26 hK26=>G3 ?_
   refine JLg (.fn wanted_f wanted_c) (G7 O O) ?_
   refine JLg (.agg [G0 y21.Bay,E1 y21.Rows]) (Gi tf_agg_74 O O O) ?_
   obtain⟨r27,hr27,h⟩:=Ge h
   refine JLg (BL r27) (Rk (args:=[.agg [G0 y21.Bay,E1 y21.Rows]]) (caps:=wanted_c) O O (wanted_w y21 _ hr27) wanted_B ⟨O,O,G⟩ wanted_d) ?_
   refine G8 (hK26 _ _ ?_)
   refine Gh O (fun hb=>?_) (fun hb=>?_)
   ·
    replace h:=Gv hb h
    refine G3 ?_
    refine JLg (OW 1159 1 G0 s21) (G7 O O) ?_
    refine JLg (Em i21) (G7 O O) ?_
    refine JLg (E1 [(i21:Int)]) (Hd (xs:=[Em i21]) O ⟨O,O,G⟩ Gy Rh O O O O) ?_
    obtain⟨ha28,h⟩:=Je h
    refine JLg (OW 1159 1 G0 (s21++[(i21:Int)])) (Qu (f:=G0) (xs:=s21) (ys:=[(i21:Int)]) O O O O Gy tf_elem_3 ha28 (fun _=>O) (.inl O) O) ?_
    refine JLg (OW 1159 1 G0 (s21++[(i21:Int)])) (G9 O O) ?_
    refine G8 ?_
    exact ej24 _ _ (s21++[(i21:Int)]) h ⟨⟨.same (H8 _ _ wanted_d),.same O,.same O,.same O,.same O,G⟩,⟨⟨_,O,.same⟩,G⟩,O⟩
   ·
    replace h:=Hp hb h
    refine Gj ?_
    exact ej24 _ _ s21 h ⟨⟨.same (H8 _ _ wanted_d),.same O,.same O,.same O,.same O,G⟩,⟨⟨_,O,.same⟩,G⟩,O⟩
  ·intro j24 h
   replace h:=app1 hkj24 h
   refine G3 ?_
   refine JLg (G0 ((i21+1:Nat):Int)) (Ht (Hc hk21 hm9) O O O) ?_
   refine JLg (G0 ((i21+1:Nat):Int)) (G7 O O) ?_
   refine G8 ?_
   exact e21 _ _ (i21+1) j24 (app1 hn21 h) (by omega) ⟨⟨.same (H8 _ _ wanted_d),.same rfl,.same rfl,.same rfl,.same rfl,G⟩,⟨⟨_,rfl,.same⟩,G⟩,rfl⟩
 ·
  have h:=app1 hkx21 (Ho hi21 (H3 hb))
  refine Hk ?_
  refine hK3 _ _ ?_
  refine G6 fun K29 hK29=>G3 ?_
  refine JLg (OW 1159 1 G0 s21) (G7 O O) ?_
  refine JLg (OW 1159 1 G0 s21) (G9 O O) ?_
  refine G8 (hK29 _ _ ?_)
  refine Gu ?_
  exact⟨[E1 s21],[],G,O,⟨⟨_,O,.conv (.list O)⟩,G⟩,O,congrArg (fun r:(List Int)=>(E1 r:AV)) (Option.some.inj h)⟩

def M_ship_CoverOf (s:Gz) (column:Int):Option Int:=
 bif ((decide (column < 0))||(decide ((s.Columns.length:Int)≤column))) then
 (some (-1))
 else
 (bnd (M_ship_chosen_apiCover s.Covers (fun z0=>M_ship_CoverOf_1 z0 s column)) fun r6=>
  bif decide ((r6.length:Int)=0) then
  (some (-1))
  else
  (Jy r6 0 fun y11=>
   some y11))
theorem M_ship_CoverOf_w (s:Gz) (column:Int) (r:Int) (h:M_ship_CoverOf s column=some r):Pure Tryz.prog 47 [.agg (Gz.cs s),G0 column] (·=G0 r):=by
 unfold M_ship_CoverOf at h
 refine H9 [.tmp 4] Tryz.func47 O O ?_
 refine G6 fun K1 hK1=>G3 ?_
 refine JLg (.ptr 1134 0) (Q1 (u:=.agg (Gz.cs s)) (cs:=(Gz.cs s)) 1134 O O O O O) ?_
 refine JLg (.ptr 1135 0) (Q1 (u:=G0 column) (cs:=[G0 column]) 1135 O O O O O) ?_
 refine JLg (G0 0) (G9 O O) ?_
 refine G8 (hK1 _ _ ?_)
 refine Gk [(2,Ee s),(3,.ptr 1135 0)] [(1135,.box 3 [G0 column])] 1134 rfl rfl rfl ⟨⟨_,rfl,.boxEq rfl rfl⟩,G⟩ rfl (by exact⟨.ptr,.conv (.same rfl),G⟩) ?_
 refine Gk [(2,Ee s),(3,.dptr [G0 column])] [] 1135 rfl rfl rfl G rfl (by exact⟨.conv (.same rfl),.ptr,G⟩) ?_
 refine G6 (fun K2 hK2=>?_)
 refine G6 fun K3 hK3=>G3 ?_
 refine JLg (G0 column) (Gf Gb O O O) ?_
 refine JLg (BL (decide (column < 0))) (Hy O O O) ?_
 refine JLg (BL (decide (column < 0))) (G7 O O) ?_
 refine Gd (u:=G0 column) [] O O O .scf G (fun hc=>Gf Gb O O O) ?_
 refine Gd (u:=Ee s) [] O O O .scf G (fun hc=>Gc J6 O O O) ?_
 refine Gd (u:=E4 s.Columns) [(10,Ee s)] O O O .scf ⟨.all id,G⟩ (fun hc=>Gf Jd O O O) ?_
 refine Gd (u:=Em s.Columns.length) [(11,E4 s.Columns)] O O O .scf ⟨.all id,G⟩ (fun hc=>Yz (f:=G5.av) (xs:=s.Columns) J7 O O) ?_
 refine Gd (u:=BL (decide ((s.Columns.length:Int)≤column))) [(9,G0 column),(12,Em s.Columns.length)] O O O .scf ⟨.all id,.all id,G⟩ (fun hc=>Yu O O O) ?_
 refine JLg (BL ((decide (column < 0))||(decide ((s.Columns.length:Int)≤column)))) (Y4 O O O O) ?_
 refine G8 (hK3 _ _ ?_)
 refine Gh O (fun hb=>?_) (fun hb=>?_)
 ·
  replace h:=Gv hb h
  refine G6 fun K4 hK4=>G3 ?_
  refine JLg (G0 (-1)) (G9 O O) ?_
  refine G8 (hK4 _ _ ?_)
  refine Gu ?_
  exact⟨[G0 (-1)],[],G,O,⟨⟨_,O,.conv (.same O)⟩,G⟩,O,congrArg (fun r:Int=>(G0 r:AV)) (Option.some.inj h)⟩
 ·
  replace h:=Hp hb h
  refine Gj ?_
  refine hK2 _ _ ?_
  refine G6 fun K5 hK5=>G3 ?_
  refine JLg (.dptr [E6 s.Covers,G0 s.Light.Kilos,G0 s.Light.X,G0 s.Light.Y,G0 s.Light.Z,E7 s.Rows,E8 s.Frames,E9 s.Tanks,G0 s.G4.Tolerance,G0 s.G4.Trim,G0 s.G4.List_,G0 s.G4.Stability]) (Gc Qs O O O) ?_
  refine JLg (E6 s.Covers) (Gf Ra O O O) ?_
  refine JLg (.fn 75 [.dptr (Gz.cs s),.dptr [G0 column]]) (R4 (cs:=[.dptr (Gz.cs s),.dptr [G0 column]]) O O) ?_
  obtain⟨r6,hr6,h⟩:=Ge h
  refine JLg (E1 r6) (H1 (args:=[E6 s.Covers,.fn 75 [.dptr (Gz.cs s),.dptr [G0 column]]]) O (M_ship_chosen_apiCover_w s.Covers (fun z0=>M_ship_CoverOf_1 z0 s column) 75 [.dptr (Gz.cs s),.dptr [G0 column]] tf_call_75 O (fun z0 q hq=>M_ship_CoverOf_1_w z0 s column q hq) r6 hr6) tf_call_74 ⟨O,O,O,O,G⟩) ?_
  refine JLg (E1 r6) (G9 O O) ?_
  refine G8 (hK5 _ _ ?_)
  refine G6 (fun K7 hK7=>?_)
  refine G6 fun K8 hK8=>G3 ?_
  refine JLg (E1 r6) (G7 O O) ?_
  refine Hs (f:=G0) (xs:=r6) Gy O O (fun hm20=>?_) O O O
  refine JLg (BL (decide ((r6.length:Int)=0))) (Qb O O O) ?_
  refine G8 (hK8 _ _ ?_)
  refine Gh O (fun hb=>?_) (fun hb=>?_)
  ·
   replace h:=Gv hb h
   refine G6 fun K9 hK9=>G3 ?_
   refine JLg (G0 (-1)) (G9 O O) ?_
   refine G8 (hK9 _ _ ?_)
   refine Gu ?_
   exact⟨[G0 (-1)],[],G,O,⟨⟨_,O,.conv (.same O)⟩,G⟩,O,congrArg (fun r:Int=>(G0 r:AV)) (Option.some.inj h)⟩
  ·
   replace h:=Hp hb h
   refine Gj ?_
   refine hK7 _ _ ?_
   refine G6 fun K10 hK10=>G3 ?_
   refine JLg (E1 r6) (G7 O O) ?_
   obtain⟨m12,y11,hm12,hy11,h⟩:=R3 h
   refine JLg (.dptr [G0 y11]) (H0 (f:=G0) (xs:=r6) (y:=y11) O O O Gy hy11 hm12) ?_
   refine JLg (G0 y11) (Gf Gb O O O) ?_
   refine JLg (G0 y11) (G9 O O) ?_
   refine G8 (hK10 _ _ ?_)
   refine Gu ?_
   exact⟨[G0 y11],[],G,O,⟨⟨_,O,.conv (.same O)⟩,G⟩,O,congrArg (fun r:Int=>(G0 r:AV)) (Option.some.inj h)⟩

def M_slot_Over (a:Slot) (b:Slot):Option Bool:=
 bnd (bif ((decide (a.G5=b.G5))&&(decide (b.Tier < a.Tier))) then M_slot_shares a.Half b.Half else some default) fun r3=>
 some (((decide (a.G5=b.G5))&&(decide (b.Tier < a.Tier)))&&r3)
theorem M_slot_Over_w (a:Slot) (b:Slot) (r:Bool) (h:M_slot_Over a b=some r):Pure Tryz.prog 48 [.agg [G0 a.G5,G0 a.Tier,U8 a.Half],.agg [G0 b.G5,G0 b.Tier,U8 b.Half]] (·=BL r):=by
 unfold M_slot_Over at h
 refine H9 [.tmp 4] Tryz.func48 O O ?_
 refine G6 fun K1 hK1=>G3 ?_
 refine JLg (.ptr 1136 0) (Q1 (u:=.agg [G0 a.G5,G0 a.Tier,U8 a.Half]) (cs:=[G0 a.G5,G0 a.Tier,U8 a.Half]) 1136 O O O O O) ?_
 refine JLg (.ptr 1137 0) (Q1 (u:=.agg [G0 b.G5,G0 b.Tier,U8 b.Half]) (cs:=[G0 b.G5,G0 b.Tier,U8 b.Half]) 1137 O O O O O) ?_
 refine JLg (BL false) (G9 O O) ?_
 refine G8 (hK1 _ _ ?_)
 refine Gk [(2,.dptr [G0 a.G5,G0 a.Tier,U8 a.Half]),(3,.ptr 1137 0)] [(1137,.box 57 [G0 b.G5,G0 b.Tier,U8 b.Half])] 1136 rfl rfl rfl ⟨⟨_,rfl,.boxEq rfl rfl⟩,G⟩ rfl (by exact⟨.ptr,.conv (.same rfl),G⟩) ?_
 refine Gk [(2,.dptr [G0 a.G5,G0 a.Tier,U8 a.Half]),(3,.dptr [G0 b.G5,G0 b.Tier,U8 b.Half])] [] 1137 rfl rfl rfl G rfl (by exact⟨.conv (.same rfl),.ptr,G⟩) ?_
 refine G6 fun K2 hK2=>G3 ?_
 refine JLg (.dptr [G0 a.G5,G0 a.Tier,U8 a.Half]) (Gc J8 O O O) ?_
 refine JLg (G0 a.G5) (Gf Gb O O O) ?_
 refine JLg (.dptr [G0 b.G5,G0 b.Tier,U8 b.Half]) (Gc J8 O O O) ?_
 refine JLg (G0 b.G5) (Gf Gb O O O) ?_
 refine JLg (BL (decide (a.G5=b.G5))) (Qb O O O) ?_
 refine JLg (BL (decide (a.G5=b.G5))) (G7 O O) ?_
 refine Gd (u:=.dptr [G0 a.Tier,U8 a.Half]) [] O O O .sct G (fun hc=>Gc Q7 O O O) ?_
 refine Gd (u:=G0 a.Tier) [(11,.dptr [G0 a.Tier,U8 a.Half])] O O O .sct ⟨.all id,G⟩ (fun hc=>Gf Gb O O O) ?_
 refine Gd (u:=.dptr [G0 b.Tier,U8 b.Half]) [] O O O .sct G (fun hc=>Gc Q7 O O O) ?_
 refine Gd (u:=G0 b.Tier) [(13,.dptr [G0 b.Tier,U8 b.Half])] O O O .sct ⟨.all id,G⟩ (fun hc=>Gf Gb O O O) ?_
 refine Gd (u:=BL (decide (b.Tier < a.Tier))) [(12,G0 a.Tier),(14,G0 b.Tier)] O O O .sct ⟨.all id,.all id,G⟩ (fun hc=>Yd O O O) ?_
 refine JLg (BL ((decide (a.G5=b.G5))&&(decide (b.Tier < a.Tier)))) (Qr O O O O) ?_
 refine JLg (BL ((decide (a.G5=b.G5))&&(decide (b.Tier < a.Tier)))) (G7 O O) ?_
 refine Gd (u:=.dptr [U8 a.Half]) [] O O O .sct G (fun hc=>Gc Qx O O O) ?_
 refine Gd (u:=U8 a.Half) [(18,.dptr [U8 a.Half])] O O O .sct ⟨.all id,G⟩ (fun hc=>Gf Hx O O O) ?_
 refine Gd (u:=.dptr [U8 b.Half]) [] O O O .sct G (fun hc=>Gc Qx O O O) ?_
 refine Gd (u:=U8 b.Half) [(20,.dptr [U8 b.Half])] O O O .sct ⟨.all id,G⟩ (fun hc=>Gf Hx O O O) ?_
 obtain⟨r3,hr3,h⟩:=Ge h
 refine Gd (u:=BL r3) [(19,U8 a.Half),(21,U8 b.Half)] O O O .sct ⟨.all id,.all id,G⟩ (fun hc=>H1 (args:=[U8 a.Half,U8 b.Half]) O (M_slot_shares_w a.Half b.Half r3 (Gv hc hr3)) tf_call_72 ⟨O,O,O,O,G⟩) ?_
 refine JLg (BL (((decide (a.G5=b.G5))&&(decide (b.Tier < a.Tier)))&&r3)) (Qr O O O O) ?_
 refine JLg (BL (((decide (a.G5=b.G5))&&(decide (b.Tier < a.Tier)))&&r3)) (G9 O O) ?_
 refine G8 (hK2 _ _ ?_)
 refine Gu ?_
 exact⟨[BL (((decide (a.G5=b.G5))&&(decide (b.Tier < a.Tier)))&&r3)],[],G,O,⟨⟨_,O,.conv (.same O)⟩,G⟩,O,congrArg (fun r:Bool=>(BL r:AV)) (Option.some.inj h)⟩

def M_plan_set_int_add (m:Gr Int Unit) (k:Int):Option (Bool×(Gr Int Unit)):=
 bif (Gr.has m k) then
 (some (false,m))
 else
 (some (true,(Gr.put m k ())))
theorem M_plan_set_int_add_m200000022 (m:Gr Int Unit) (k:Int) (r:Bool×(Gr Int Unit)) (h:M_plan_set_int_add m k=some r):Jr Tryz.prog 46 [.mp 1076,G0 k] [(1076,MP 123 (fun n:Int=>Value.int .i64 n) (fun _:Unit=>.agg []) m)] (fun av L'=>av=BL r.1∧L'=[(1076,MP 123 (fun n:Int=>Value.int .i64 n) (fun _:Unit=>.agg []) r.2)]):=by
 unfold M_plan_set_int_add at h
 refine Ju [1076] [.tmp 4] Tryz.func46 O O (inAll O) ?_
 refine G6 fun K1 hK1=>G3 ?_
 refine JLg (BL false) (G9 O O) ?_
 refine G8 (hK1 _ _ ?_)
 refine G6 (fun K2 hK2=>?_)
 refine G6 fun K3 hK3=>G3 ?_
 refine JLg (.mp 1076) (G7 O O) ?_
 refine JLg (G0 k) (G7 O O) ?_
 refine JLg (.tup [.agg [],BL (Gr.has m k)]) (A_lookupM1 (av:=(fun _:Unit=>.agg [])) (m:=m) (a:=k) () (.agg #[]) O O O O tk_3 tf_map_123 tf_zv_157 O) ?_
 refine JLg (.tup [.agg [],BL (Gr.has m k)]) (G7 O O) ?_
 refine JLg (.agg []) (Hq O O O) ?_
 refine JLg (BL (Gr.has m k)) (Hq O O O) ?_
 refine JLg (.ptr 1133 0) (Hi 1133 0 tf_zsize_157 O O) ?_
 refine Hj (u:=.junk) (A_store0 (u:=.agg []) tf_size_157 O O O O O O) ?_
 refine JLg (BL (Gr.has m k)) (G9 O O) ?_
 refine G8 (hK3 _ _ ?_)
 refine Gk [(0,.mp 1076),(1,G0 k),(6,BL (Gr.has m k))] [(1076,MP 123 (fun n:Int=>Value.int .i64 n) (fun _:Unit=>.agg []) m)] 1133 rfl rfl rfl ⟨⟨_,rfl,.map⟩,G⟩ rfl (by exact⟨.conv (.same rfl),.conv (.same rfl),.conv (.same rfl),G⟩) ?_
 refine G6 fun K5 hK5=>G3 ?_
 refine JLg (BL (Gr.has m k)) (G7 O O) ?_
 refine G8 (hK5 _ _ ?_)
 refine Gh O (fun hb=>?_) (fun hb=>?_)
 ·
  replace h:=Gv hb h
  refine G6 fun K6 hK6=>G3 ?_
  refine JLg (BL false) (G9 O O) ?_
  refine G8 (hK6 _ _ ?_)
  refine Gu ?_
  obtain rfl:=Option.some.inj h
  exact⟨[BL false],[(1076,MP 123 (fun n:Int=>Value.int .i64 n) (fun _:Unit=>.agg []) m)],⟨⟨_,O,.map⟩,G⟩,O,⟨⟨_,O,.conv (.same O)⟩,G⟩,O,O⟩
 ·
  replace h:=Hp hb h
  refine Gj ?_
  refine hK2 _ _ ?_
  refine G6 fun K7 hK7=>G3 ?_
  refine JLg (.mp 1076) (G7 O O) ?_
  refine JLg (G0 k) (G7 O O) ?_
  refine JLg (.agg []) (J4 (cs:=[]) [] [] [] tf_places_157 tf_zero_157 G O O) ?_
  refine Hj (u:=.junk) (Y0 (m:=m) (a:=k) (v:=()) O O O O O O tk_3 tf_map_123) ?_
  refine G8 (hK7 _ _ ?_)
  refine G6 fun K8 hK8=>G3 ?_
  refine JLg (BL true) (G9 O O) ?_
  refine G8 (hK8 _ _ ?_)
  refine Gu ?_
  obtain rfl:=Option.some.inj h
  exact⟨[BL true],[(1076,MP 123 (fun n:Int=>Value.int .i64 n) (fun _:Unit=>.agg []) (Gr.put m k ()))],⟨⟨_,O,.map⟩,G⟩,O,⟨⟨_,O,.conv (.same O)⟩,G⟩,O,O⟩

def B_plan_lifted_1 (self_:Int→(Gr Int Unit)→(List Int)→(List (List G2))→Gz→Option ((Gr Int Unit)×(List Int))) (F:Nat) (id_:Int) (p1:Gr Int Unit) (p2:List Int) (p3:List (List G2)) (p4:Gz):Option ((Gr Int Unit)×(List Int)):=
 bnd (M_plan_set_int_add p1 id_) fun r3=>
 bif (!r3.1) then
 (some (r3.2,p2))
 else
 (need (decide ((p2.length+[id_].length)*8≤140737488355328∧p2.length+[id_].length≤maxLen)) <|
  each (fun y7 i7 (s7:(Gr Int Unit)×(List Int)) nx7=>
   jp (fun kj10=>
    bnd (M_plan_find y7 id_) fun r13=>
    bif (!r13.2) then
    (kj10 (s7.1,s7.2))
    else
    (jp (fun kj17=>
      Jy p4.Columns r13.1.G5 fun y19=>
      bif (!y19.Deck) then
      (bnd (M_ship_CoverOf p4 r13.1.G5) fun r21=>
       kj17 r21)
      else
      (kj17 (-1))) fun(j17:Int)=>
     each (fun y56 i56 (s56:(Gr Int Unit)×(List Int)) nx56=>
      jp (fun kj59=>
       bnd (M_slot_Over y56.Slot r13.1) fun r62=>
       bif r62 then
       (bnd (self_ y56.Gp s56.1 s56.2 p3 p4) fun r63=>
        kj59 (r63.1,r63.2))
       else
       (kj59 (s56.1,s56.2))) fun(j59:(Gr Int Unit)×(List Int))=>
      nx56 (j59.1,j59.2))
     (fun(s56:(Gr Int Unit)×(List Int))=>
      each (fun y65 i65 (s65:(Gr Int Unit)×(List Int)) nx65=>
       each (fun y107 i107 (s107:(Gr Int Unit)×(List Int)) nx107=>
        jp (fun kj110=>
         bnd (bif decide (0≤j17) then Jy p4.Columns y107.Slot.G5 some else some default) fun y113=>
         bnd (bif ((decide (0≤j17))&&y113.Deck) then M_ship_CoverOf p4 y107.Slot.G5 else some default) fun r114=>
         bif (((decide (0≤j17))&&y113.Deck)&&(decide (r114=j17))) then
         (bnd (self_ y107.Gp s107.1 s107.2 p3 p4) fun r115=>
          kj110 (r115.1,r115.2))
         else
         (kj110 (s107.1,s107.2))) fun(j110:(Gr Int Unit)×(List Int))=>
        nx107 (j110.1,j110.2))
       (fun(s107:(Gr Int Unit)×(List Int))=>
        nx65 (s107.1,s107.2)) y65 0 (s65.1,s65.2))
      (fun(s65:(Gr Int Unit)×(List Int))=>
       kj10 (s65.1,s65.2)) p3 0 (s56.1,s56.2)) y7 0 (s7.1,s7.2))) fun(j10:(Gr Int Unit)×(List Int))=>
   nx7 (j10.1,j10.2))
  (fun(s7:(Gr Int Unit)×(List Int))=>
   some (s7.1,s7.2)) p3 0 (r3.2,(p2++[id_])))
def M_plan_lifted_1:Nat→Int→(Gr Int Unit)→(List Int)→(List (List G2))→Gz→Option ((Gr Int Unit)×(List Int))
 | 0,_,_,_,_,_=>none
 | F+1,id_,p1,p2,p3,p4=>B_plan_lifted_1 (M_plan_lifted_1 F) F id_ p1 p2 p3 p4
theorem B_plan_lifted_1_w (self_:Int→(Gr Int Unit)→(List Int)→(List (List G2))→Gz→Option ((Gr Int Unit)×(List Int))) (self_w:∀ (id_:Int) (p1:Gr Int Unit) (p2:List Int) (p3:List (List G2)) (p4:Gz) (r:(Gr Int Unit)×(List Int)),self_ id_ p1 p2 p3 p4=some r→Jr Tryz.prog 45 [G0 id_,.ptr 1070 0,.ptr 1071 0,.dptr [LS 1 (E0) p3],Ee p4,.ptr 1072 0] [(1070,.box 123 [.mp 1076]),(1076,MP 123 (fun n:Int=>Value.int .i64 n) (fun _:Unit=>.agg []) p1),(1071,.box 52 [.vec 1077 p2.length 1 p2.length]),(1077,.vec 3 1 p2.length (p2.map G0)),(1072,.box 124 [.fn 45 [.ptr 1070 0,.ptr 1071 0,.dptr [LS 1 (E0) p3],Ee p4,.ptr 1072 0]])] (fun av L'=>av=.tup []∧L'=[(1070,.box 123 [.mp 1076]),(1076,MP 123 (fun n:Int=>Value.int .i64 n) (fun _:Unit=>.agg []) r.1),(1071,.box 52 [.vec 1077 r.2.length 1 r.2.length]),(1077,.vec 3 1 r.2.length (r.2.map G0)),(1072,.box 124 [.fn 45 [.ptr 1070 0,.ptr 1071 0,.dptr [LS 1 (E0) p3],Ee p4,.ptr 1072 0]])])) (F:Nat) (id_:Int) (p1:Gr Int Unit) (p2:List Int) (p3:List (List G2)) (p4:Gz) (r:(Gr Int Unit)×(List Int)) (h:B_plan_lifted_1 self_ F id_ p1 p2 p3 p4=some r):Jr Tryz.prog 45 [G0 id_,.ptr 1070 0,.ptr 1071 0,.dptr [LS 1 (E0) p3],Ee p4,.ptr 1072 0] [(1070,.box 123 [.mp 1076]),(1076,MP 123 (fun n:Int=>Value.int .i64 n) (fun _:Unit=>.agg []) p1),(1071,.box 52 [.vec 1077 p2.length 1 p2.length]),(1077,.vec 3 1 p2.length (p2.map G0)),(1072,.box 124 [.fn 45 [.ptr 1070 0,.ptr 1071 0,.dptr [LS 1 (E0) p3],Ee p4,.ptr 1072 0]])] (fun av L'=>av=.tup []∧L'=[(1070,.box 123 [.mp 1076]),(1076,MP 123 (fun n:Int=>Value.int .i64 n) (fun _:Unit=>.agg []) r.1),(1071,.box 52 [.vec 1077 r.2.length 1 r.2.length]),(1077,.vec 3 1 r.2.length (r.2.map G0)),(1072,.box 124 [.fn 45 [.ptr 1070 0,.ptr 1071 0,.dptr [LS 1 (E0) p3],Ee p4,.ptr 1072 0]])]):=by
 unfold B_plan_lifted_1 at h
 refine Ju [1070,1076,1071,1077,1072] [] Tryz.func45 O O (inAll O) ?_
 refine G6 (fun K1 hK1=>?_)
 refine G6 fun K2 hK2=>G3 ?_
 refine JLg (.mp 1076) (Jx tf_scalar_123 O O O O) ?_
 refine JLg (G0 id_) (G7 O O) ?_
 obtain⟨r3,hr3,h⟩:=Ge h
 refine JLg (BL r3.1) (Rm (args:=[.mp 1076,G0 id_]) (L0:=[(1076,MP 123 (fun n:Int=>Value.int .i64 n) (fun _:Unit=>.agg []) p1)]) (Lr:=[(1076,MP 123 (fun n:Int=>Value.int .i64 n) (fun _:Unit=>.agg []) r3.2)]) O (M_plan_set_int_add_m200000022 p1 id_ r3 hr3) tf_call_46 ⟨.inl O,O,.inl O,O,G⟩ ⟨O,G⟩ O O O) ?_
 refine JLg (BL (!r3.1)) (Rj (b:=r3.1) O O) ?_
 refine G8 (hK2 _ _ ?_)
 refine Gh O (fun hb=>?_) (fun hb=>?_)
 ·
  replace h:=Gv hb h
  refine Gu ?_
  obtain rfl:=Option.some.inj h
  exact⟨[],[(1070,.box 123 [.mp 1076]),(1076,MP 123 (fun n:Int=>Value.int .i64 n) (fun _:Unit=>.agg []) r3.2),(1071,.box 52 [.vec 1077 p2.length 1 p2.length]),(1077,.vec 3 1 p2.length (p2.map G0)),(1072,.box 124 [.fn 45 [.ptr 1070 0,.ptr 1071 0,.dptr [LS 1 (E0) p3],Ee p4,.ptr 1072 0]])],⟨⟨_,O,.boxL O ⟨.same O,G⟩⟩,⟨_,O,.map⟩,⟨_,O,.boxL O ⟨.same O,G⟩⟩,⟨_,O,.vec⟩,⟨_,O,.boxL O ⟨.same O,G⟩⟩,G⟩,O,G,O,O⟩
 ·
  replace h:=Hp hb h
  refine Gj ?_
  refine hK1 _ _ ?_
  refine G6 fun K4 hK4=>G3 ?_
  refine JLg (.vec 1077 p2.length 1 p2.length) (Jx Qt O O O O) ?_
  refine JLg (G0 id_) (G7 O O) ?_
  refine JLg (E1 [id_]) (Hd (xs:=[G0 id_]) O ⟨O,O,G⟩ Gy Rh O O O O) ?_
  obtain⟨ha5,h⟩:=Je h
  refine JLg (.vec 1077 ((p2++[id_]).length) 1 ((p2++[id_]).length)) (A_vappendM (f:=G0) (xs:=p2) (ys:=[id_]) (ver:=p2.length) (ver1:=(p2++[id_]).length) rfl rfl rfl rfl Gy tf_elem_3 ha5 (fun _=>rfl) (.inl rfl) (by simp)) ?_
  refine Hj (u:=.junk) (H2 (u:=.vec 1077 ((p2++[id_]).length) 1 ((p2++[id_]).length)) (ds:=[.vec 1077 ((p2++[id_]).length) 1 ((p2++[id_]).length)]) tf_size_52 O O O O O O O O) ?_
  refine G8 (hK4 _ _ ?_)
  refine G6 fun K6 hK6=>G3 ?_
  refine JLg (LS 1 (E0) p3) (Gf Qk O O O) ?_
  refine Hs (f:=(E0)) (xs:=p3) Ja O O (fun hm27=>?_) O O O
  refine JLg (G0 0) (G7 O O) ?_
  refine G8 (hK6 _ _ ?_)
  refine Gg ?_
  obtain⟨b7,kx7,hb7,hkx7,h⟩:=Hu h
  refine H7 (fun i7 (s7:(Gr Int Unit)×(List Int))=>each b7 kx7 (List.drop i7 p3) i7 s7=some r) (fun i7 s7=>[(0,G0 id_),(3,.dptr [LS 1 (E0) p3]),(4,Ee p4),(5,.ptr 1072 0),(26,LS 1 (E0) p3),(27,Em p3.length),(28,Em i7)]) (fun i7 s7=>[(1076,MP 123 (fun n:Int=>Value.int .i64 n) (fun _:Unit=>.agg []) s7.1),(1077,.vec 3 1 s7.2.length (s7.2.map G0)),(1070,.box 123 [.mp 1076]),(1071,.box 52 [.vec 1077 s7.2.length 1 s7.2.length]),(1072,.box 124 [.fn 45 [.ptr 1070 0,.ptr 1071 0,.dptr [LS 1 (E0) p3],Ee p4,.ptr 1072 0]])]) (fun i7=>p3.length - i7) 0 (r3.2,(p2++[id_])) h ⟨(by repeat' constructor),⟨⟨_,rfl,.map⟩,⟨_,rfl,.vec⟩,⟨_,rfl,.boxL rfl ⟨.same rfl,G⟩⟩,⟨_,rfl,.boxL rfl ⟨.same rfl,G⟩⟩,⟨_,rfl,.boxL rfl ⟨.same rfl,G⟩⟩,G⟩,rfl⟩ ?_
  clear h
  intro i7 s7 hi7 K7 e7
  refine G6 fun K8 hK8=>G3 ?_
  refine JLg (BL (decide ((i7:Int) < (p3.length:Int)))) (Hy O O O) ?_
  refine G8 (hK8 _ _ ?_)
  refine G6 (fun K9 hK9=>?_)
  refine Gh O (fun hb=>?_) (fun hb=>?_)
  ·
   have hk7:=J9 hb
   obtain⟨y7,nx7,hy7,hn7,h⟩:=Hn hi7 hk7
   replace h:=app4 hb7 h
   refine Gj ?_
   refine hK9 _ _ ?_
   obtain⟨kj10,hkj10,h⟩:=Qd h
   refine Jq (fun j10:(Gr Int Unit)×(List Int)=>kj10 j10=some r) (fun j10=>[(0,G0 id_),(3,.dptr [LS 1 (E0) p3]),(4,Ee p4),(5,.ptr 1072 0),(26,LS 1 (E0) p3),(27,Em p3.length),(28,Em i7)]) (fun j10=>[(1076,MP 123 (fun n:Int=>Value.int .i64 n) (fun _:Unit=>.agg []) j10.1),(1077,.vec 3 1 j10.2.length (j10.2.map G0)),(1070,.box 123 [.mp 1076]),(1071,.box 52 [.vec 1077 j10.2.length 1 j10.2.length]),(1072,.box 124 [.fn 45 [.ptr 1070 0,.ptr 1071 0,.dptr [LS 1 (E0) p3],Ee p4,.ptr 1072 0]])]) (fun Kj10 ej10=>?_) ?_
   ·
    refine Gg ?_
    refine G6 fun K11 hK11=>G3 ?_
    refine JLg (.dptr [E0 y7]) (H0 (f:=(E0)) (xs:=p3) (y:=y7) O O O Ja hy7 O) ?_
    refine JLg (E0 y7) (Gf Qc O O O) ?_
    refine JLg (E0 y7) (G9 O O) ?_
    refine G8 (hK11 _ _ ?_)
    refine G6 fun K12 hK12=>G3 ?_
    refine JLg (E0 y7) (G7 O O) ?_
    refine JLg (G0 id_) (G7 O O) ?_
    obtain⟨r13,hr13,h⟩:=Ge h
    refine JLg (.tup [.agg (Slot.cs r13.1),BL r13.2]) (H1 (args:=[E0 y7,G0 id_]) O (M_plan_find_w y7 id_ r13 hr13) Yq ⟨O,O,O,O,G⟩) ?_
    refine JLg (.tup [.agg (Slot.cs r13.1),BL r13.2]) (G7 O O) ?_
    refine JLg (.agg (Slot.cs r13.1)) (Hq O O O) ?_
    refine JLg (BL r13.2) (Hq O O O) ?_
    refine JLg (.ptr 1130 0) (Hi 1130 3 Qz O O) ?_
    refine Hj (u:=.junk) (H2 (u:=.agg (Slot.cs r13.1)) (ds:=[G0 r13.1.G5,G0 r13.1.Tier,U8 r13.1.Half]) R8 O O O O O O O O) ?_
    refine JLg (BL r13.2) (G9 O O) ?_
    refine G8 (hK12 _ _ ?_)
    refine Gk [(0,G0 id_),(3,.dptr [LS 1 (E0) p3]),(4,Ee p4),(5,.ptr 1072 0),(8,E0 y7),(9,Eg r13.1),(10,BL r13.2),(26,LS 1 (E0) p3),(27,Em p3.length),(28,Em i7)] [(1076,MP 123 (fun n:Int=>Value.int .i64 n) (fun _:Unit=>.agg []) s7.1),(1077,.vec 3 1 s7.2.length (s7.2.map G0)),(1070,.box 123 [.mp 1076]),(1071,.box 52 [.vec 1077 s7.2.length 1 s7.2.length]),(1072,.box 124 [.fn 45 [.ptr 1070 0,.ptr 1071 0,.dptr [LS 1 (E0) p3],Ee p4,.ptr 1072 0]])] 1130 rfl rfl rfl ⟨⟨_,rfl,.map⟩,⟨_,rfl,.vec⟩,⟨_,rfl,.boxEq rfl rfl⟩,⟨_,rfl,.boxEq rfl rfl⟩,⟨_,rfl,.boxEq rfl rfl⟩,G⟩ rfl (by repeat' (first | exact .ptr | constructor)) ?_
    refine G6 (fun K14 hK14=>?_)
    refine G6 fun K15 hK15=>G3 ?_
    refine JLg (BL r13.2) (G7 O O) ?_
    refine JLg (BL (!r13.2)) (Rj (b:=r13.2) O O) ?_
    refine G8 (hK15 _ _ ?_)
    refine Gh O (fun hb=>?_) (fun hb=>?_)
    ·
     replace h:=Gv hb h
     refine Hk ?_
     exact ej10 _ _ (s7.1,s7.2) h ⟨(by repeat' constructor),⟨⟨_,rfl,.map⟩,⟨_,rfl,.vec⟩,⟨_,rfl,.boxL rfl ⟨.same rfl,G⟩⟩,⟨_,rfl,.boxL rfl ⟨.same rfl,G⟩⟩,⟨_,rfl,.boxL rfl ⟨.same rfl,G⟩⟩,G⟩,rfl⟩
    ·
     replace h:=Hp hb h
     refine Gj ?_
     refine hK14 _ _ ?_
     refine G6 fun K16 hK16=>G3 ?_
     refine JLg (G0 (-1)) (G9 O O) ?_
     refine G8 (hK16 _ _ ?_)
     obtain⟨kj17,hkj17,h⟩:=Qd h
     refine Jq (fun j17:Int=>kj17 j17=some r) (fun j17=>[(0,G0 id_),(3,.dptr [LS 1 (E0) p3]),(4,Ee p4),(5,.ptr 1072 0),(8,E0 y7),(9,Eg r13.1),(11,G0 j17),(26,LS 1 (E0) p3),(27,Em p3.length),(28,Em i7)]) (fun j17=>[(1076,MP 123 (fun n:Int=>Value.int .i64 n) (fun _:Unit=>.agg []) s7.1),(1077,.vec 3 1 s7.2.length (s7.2.map G0)),(1070,.box 123 [.mp 1076]),(1071,.box 52 [.vec 1077 s7.2.length 1 s7.2.length]),(1072,.box 124 [.fn 45 [.ptr 1070 0,.ptr 1071 0,.dptr [LS 1 (E0) p3],Ee p4,.ptr 1072 0]])]) (fun Kj17 ej17=>?_) ?_
     ·
      refine G6 fun K18 hK18=>G3 ?_
      refine JLg (Ee p4) (Gc J6 O O O) ?_
      refine JLg (E4 p4.Columns) (Gf Jd O O O) ?_
      refine JLg (Eg r13.1) (Gc J8 O O O) ?_
      refine JLg (G0 r13.1.G5) (Gf Gb O O O) ?_
      obtain⟨m20,y19,hm20,hy19,h⟩:=R3 h
      refine JLg (Ei y19) (H0 (f:=G5.av) (xs:=p4.Columns) (y:=y19) O O O J7 hy19 hm20) ?_
      refine JLg (.dptr ((G5.cs y19).drop 2)) (Gc Rb O O O) ?_
      refine JLg (BL y19.Deck) (Gf Qj O O O) ?_
      refine JLg (BL (!y19.Deck)) (Rj (b:=y19.Deck) O O) ?_
      refine G8 (hK18 _ _ ?_)
      refine Gh O (fun hb=>?_) (fun hb=>?_)
      ·
       replace h:=Gv hb h
       refine G3 ?_
       refine JLg (.agg (Gz.cs p4)) (Gi J0 O O O) ?_
       refine JLg (Eg r13.1) (Gc J8 O O O) ?_
       refine JLg (G0 r13.1.G5) (Gf Gb O O O) ?_
       obtain⟨r21,hr21,h⟩:=Ge h
       refine JLg (G0 r21) (H1 (args:=[.agg (Gz.cs p4),G0 r13.1.G5]) O (M_ship_CoverOf_w p4 r13.1.G5 r21 hr21) tf_call_47 ⟨O,O,O,O,G⟩) ?_
       refine JLg (G0 r21) (G9 O O) ?_
       refine G8 ?_
       exact ej17 _ _ r21 h ⟨(by repeat' constructor),⟨⟨_,rfl,.map⟩,⟨_,rfl,.vec⟩,⟨_,rfl,.boxL rfl ⟨.same rfl,G⟩⟩,⟨_,rfl,.boxL rfl ⟨.same rfl,G⟩⟩,⟨_,rfl,.boxL rfl ⟨.same rfl,G⟩⟩,G⟩,rfl⟩
      ·
       replace h:=Hp hb h
       refine Gj ?_
       exact ej17 _ _ (-1) h ⟨(by repeat' constructor),⟨⟨_,rfl,.map⟩,⟨_,rfl,.vec⟩,⟨_,rfl,.boxL rfl ⟨.same rfl,G⟩⟩,⟨_,rfl,.boxL rfl ⟨.same rfl,G⟩⟩,⟨_,rfl,.boxL rfl ⟨.same rfl,G⟩⟩,G⟩,rfl⟩
     ·intro j17 h
      replace h:=app1 hkj17 h
      refine G6 (fun K22 hK22=>?_)
      refine G6 fun K23 hK23=>G3 ?_
      refine JLg (E0 y7) (G7 O O) ?_
      refine Hs (f:=G2.av) (xs:=y7) Gx O O (fun hm53=>?_) O O O
      refine JLg (G0 0) (G7 O O) ?_
      refine G8 (hK23 _ _ ?_)
      refine Gg ?_
      obtain⟨b56,kx56,hb56,hkx56,h⟩:=Hu h
      refine H7 (fun i56 (s56:(Gr Int Unit)×(List Int))=>each b56 kx56 (List.drop i56 y7) i56 s56=some r) (fun i56 s56=>[(0,G0 id_),(3,.dptr [LS 1 (E0) p3]),(4,Ee p4),(5,.ptr 1072 0),(9,Eg r13.1),(11,G0 j17),(26,LS 1 (E0) p3),(27,Em p3.length),(28,Em i7),(52,E0 y7),(53,Em y7.length),(54,Em i56)]) (fun i56 s56=>[(1076,MP 123 (fun n:Int=>Value.int .i64 n) (fun _:Unit=>.agg []) s56.1),(1077,.vec 3 1 s56.2.length (s56.2.map G0)),(1070,.box 123 [.mp 1076]),(1071,.box 52 [.vec 1077 s56.2.length 1 s56.2.length]),(1072,.box 124 [.fn 45 [.ptr 1070 0,.ptr 1071 0,.dptr [LS 1 (E0) p3],Ee p4,.ptr 1072 0]])]) (fun i56=>y7.length - i56) 0 (s7.1,s7.2) h ⟨(by repeat' constructor),⟨⟨_,rfl,.map⟩,⟨_,rfl,.vec⟩,⟨_,rfl,.boxL rfl ⟨.same rfl,G⟩⟩,⟨_,rfl,.boxL rfl ⟨.same rfl,G⟩⟩,⟨_,rfl,.boxL rfl ⟨.same rfl,G⟩⟩,G⟩,rfl⟩ ?_
      clear h
      intro i56 s56 hi56 K56 e56
      refine G6 fun K57 hK57=>G3 ?_
      refine JLg (BL (decide ((i56:Int) < (y7.length:Int)))) (Hy O O O) ?_
      refine G8 (hK57 _ _ ?_)
      refine G6 (fun K58 hK58=>?_)
      refine Gh O (fun hb=>?_) (fun hb=>?_)
      ·
       have hk56:=J9 hb
       obtain⟨y56,nx56,hy56,hn56,h⟩:=Hn hi56 hk56
       replace h:=app4 hb56 h
       refine Gj ?_
       refine hK58 _ _ ?_
       obtain⟨kj59,hkj59,h⟩:=Qd h
       refine Jq (fun j59:(Gr Int Unit)×(List Int)=>kj59 j59=some r) (fun j59=>[(0,G0 id_),(3,.dptr [LS 1 (E0) p3]),(4,Ee p4),(5,.ptr 1072 0),(9,Eg r13.1),(11,G0 j17),(26,LS 1 (E0) p3),(27,Em p3.length),(28,Em i7),(52,E0 y7),(53,Em y7.length),(54,Em i56)]) (fun j59=>[(1076,MP 123 (fun n:Int=>Value.int .i64 n) (fun _:Unit=>.agg []) j59.1),(1077,.vec 3 1 j59.2.length (j59.2.map G0)),(1070,.box 123 [.mp 1076]),(1071,.box 52 [.vec 1077 j59.2.length 1 j59.2.length]),(1072,.box 124 [.fn 45 [.ptr 1070 0,.ptr 1071 0,.dptr [LS 1 (E0) p3],Ee p4,.ptr 1072 0]])]) (fun Kj59 ej59=>?_) ?_
       ·
        refine Gg ?_
        refine G6 fun K60 hK60=>G3 ?_
        refine JLg (Ef y56) (H0 (f:=G2.av) (xs:=y7) (y:=y56) O O O Gx hy56 O) ?_
        refine JLg (.agg (G2.cs y56)) (Gi Jf O O O) ?_
        refine JLg (.ptr 1131 0) (Hi 1131 4 Jb O O) ?_
        refine Hj (u:=.junk) (H2 (u:=.agg (G2.cs y56)) (ds:=[G0 y56.Gp,G0 y56.Slot.G5,G0 y56.Slot.Tier,U8 y56.Slot.Half]) Jz O O O O O O O O) ?_
        refine G8 (hK60 _ _ ?_)
        refine Gk [(0,G0 id_),(3,.dptr [LS 1 (E0) p3]),(4,Ee p4),(5,.ptr 1072 0),(9,Eg r13.1),(11,G0 j17),(13,Ef y56),(26,LS 1 (E0) p3),(27,Em p3.length),(28,Em i7),(52,E0 y7),(53,Em y7.length),(54,Em i56)] [(1076,MP 123 (fun n:Int=>Value.int .i64 n) (fun _:Unit=>.agg []) s56.1),(1077,.vec 3 1 s56.2.length (s56.2.map G0)),(1070,.box 123 [.mp 1076]),(1071,.box 52 [.vec 1077 s56.2.length 1 s56.2.length]),(1072,.box 124 [.fn 45 [.ptr 1070 0,.ptr 1071 0,.dptr [LS 1 (E0) p3],Ee p4,.ptr 1072 0]])] 1131 rfl rfl rfl ⟨⟨_,rfl,.map⟩,⟨_,rfl,.vec⟩,⟨_,rfl,.boxEq rfl rfl⟩,⟨_,rfl,.boxEq rfl rfl⟩,⟨_,rfl,.boxEq rfl rfl⟩,G⟩ rfl (by repeat' (first | exact .ptr | constructor)) ?_
        refine G6 fun K61 hK61=>G3 ?_
        refine JLg (Eg y56.Slot) (Gc J1 O O O) ?_
        refine JLg (.agg (Slot.cs y56.Slot)) (Gi Jp O O O) ?_
        refine JLg (.agg (Slot.cs r13.1)) (Gi Jp O O O) ?_
        obtain⟨r62,hr62,h⟩:=Ge h
        refine JLg (BL r62) (H1 (args:=[.agg (Slot.cs y56.Slot),.agg (Slot.cs r13.1)]) O (M_slot_Over_w y56.Slot r13.1 r62 hr62) tf_call_48 ⟨O,O,O,O,G⟩) ?_
        refine G8 (hK61 _ _ ?_)
        refine Gh O (fun hb=>?_) (fun hb=>?_)
        ·
         replace h:=Gv hb h
         refine G3 ?_
         refine JLg (.fn 45 [.ptr 1070 0,.ptr 1071 0,.dptr [LS 1 (E0) p3],Ee p4,.ptr 1072 0]) (Jx tf_scalar_124 O O O O) ?_
         refine JLg (Ef y56) (Gc J5 O O O) ?_
         refine JLg (G0 y56.Gp) (Gf Gb O O O) ?_
         obtain⟨r63,hr63,h⟩:=Ge h
         refine JLg (.tup []) (Yi (args:=[G0 y56.Gp]) (caps:=[.ptr 1070 0,.ptr 1071 0,.dptr [LS 1 (E0) p3],Ee p4,.ptr 1072 0]) (L0:=[(1070,.box 123 [.mp 1076]),(1076,MP 123 (fun n:Int=>Value.int .i64 n) (fun _:Unit=>.agg []) s56.1),(1071,.box 52 [.vec 1077 s56.2.length 1 s56.2.length]),(1077,.vec 3 1 s56.2.length (s56.2.map G0)),(1072,.box 124 [.fn 45 [.ptr 1070 0,.ptr 1071 0,.dptr [LS 1 (E0) p3],Ee p4,.ptr 1072 0]])]) (Lr:=[(1070,.box 123 [.mp 1076]),(1076,MP 123 (fun n:Int=>Value.int .i64 n) (fun _:Unit=>.agg []) r63.1),(1071,.box 52 [.vec 1077 r63.2.length 1 r63.2.length]),(1077,.vec 3 1 r63.2.length (r63.2.map G0)),(1072,.box 124 [.fn 45 [.ptr 1070 0,.ptr 1071 0,.dptr [LS 1 (E0) p3],Ee p4,.ptr 1072 0]])]) O O (self_w y56.Gp s56.1 s56.2 p3 p4 r63 hr63) tf_call_45 ⟨.inl O,O,G⟩ O ⟨O,O,O,O,O,G⟩ O O O) ?_
         refine G8 ?_
         exact ej59 _ _ (r63.1,r63.2) h ⟨(by repeat' constructor),⟨⟨_,rfl,.map⟩,⟨_,rfl,.vec⟩,⟨_,rfl,.boxL rfl ⟨.same rfl,G⟩⟩,⟨_,rfl,.boxL rfl ⟨.same rfl,G⟩⟩,⟨_,rfl,.boxL rfl ⟨.same rfl,G⟩⟩,G⟩,rfl⟩
        ·
         replace h:=Hp hb h
         refine Gj ?_
         exact ej59 _ _ (s56.1,s56.2) h ⟨(by repeat' constructor),⟨⟨_,rfl,.map⟩,⟨_,rfl,.vec⟩,⟨_,rfl,.boxL rfl ⟨.same rfl,G⟩⟩,⟨_,rfl,.boxL rfl ⟨.same rfl,G⟩⟩,⟨_,rfl,.boxL rfl ⟨.same rfl,G⟩⟩,G⟩,rfl⟩
       ·intro j59 h
        replace h:=app1 hkj59 h
        refine G3 ?_
        refine JLg (G0 ((i56+1:Nat):Int)) (Ht (Hc hk56 hm53) O O O) ?_
        refine JLg (G0 ((i56+1:Nat):Int)) (G7 O O) ?_
        refine G8 ?_
        exact e56 _ _ (i56+1) (j59.1,j59.2) (app1 hn56 h) (by omega) ⟨(by repeat' constructor),⟨⟨_,rfl,.map⟩,⟨_,rfl,.vec⟩,⟨_,rfl,.boxL rfl ⟨.same rfl,G⟩⟩,⟨_,rfl,.boxL rfl ⟨.same rfl,G⟩⟩,⟨_,rfl,.boxL rfl ⟨.same rfl,G⟩⟩,G⟩,rfl⟩
      ·
       have h:=app1 hkx56 (Ho hi56 (H3 hb))
       refine Hk ?_
       refine hK22 _ _ ?_
       refine G6 fun K64 hK64=>G3 ?_
       refine JLg (LS 1 (E0) p3) (Gf Qk O O O) ?_
       refine Hs (f:=(E0)) (xs:=p3) Ja O O (fun hm68=>?_) O O O
       refine JLg (G0 0) (G7 O O) ?_
       refine G8 (hK64 _ _ ?_)
       refine Gg ?_
       obtain⟨b65,kx65,hb65,hkx65,h⟩:=Hu h
       refine H7 (fun i65 (s65:(Gr Int Unit)×(List Int))=>each b65 kx65 (List.drop i65 p3) i65 s65=some r) (fun i65 s65=>[(0,G0 id_),(3,.dptr [LS 1 (E0) p3]),(4,Ee p4),(5,.ptr 1072 0),(11,G0 j17),(26,LS 1 (E0) p3),(27,Em p3.length),(28,Em i7),(67,LS 1 (E0) p3),(68,Em p3.length),(69,Em i65)]) (fun i65 s65=>[(1076,MP 123 (fun n:Int=>Value.int .i64 n) (fun _:Unit=>.agg []) s65.1),(1077,.vec 3 1 s65.2.length (s65.2.map G0)),(1070,.box 123 [.mp 1076]),(1071,.box 52 [.vec 1077 s65.2.length 1 s65.2.length]),(1072,.box 124 [.fn 45 [.ptr 1070 0,.ptr 1071 0,.dptr [LS 1 (E0) p3],Ee p4,.ptr 1072 0]])]) (fun i65=>p3.length - i65) 0 (s56.1,s56.2) h ⟨(by repeat' constructor),⟨⟨_,rfl,.map⟩,⟨_,rfl,.vec⟩,⟨_,rfl,.boxL rfl ⟨.same rfl,G⟩⟩,⟨_,rfl,.boxL rfl ⟨.same rfl,G⟩⟩,⟨_,rfl,.boxL rfl ⟨.same rfl,G⟩⟩,G⟩,rfl⟩ ?_
       clear h
       intro i65 s65 hi65 K65 e65
       refine G6 fun K66 hK66=>G3 ?_
       refine JLg (BL (decide ((i65:Int) < (p3.length:Int)))) (Hy O O O) ?_
       refine G8 (hK66 _ _ ?_)
       refine G6 (fun K67 hK67=>?_)
       refine Gh O (fun hb=>?_) (fun hb=>?_)
       ·
        have hk65:=J9 hb
        obtain⟨y65,nx65,hy65,hn65,h⟩:=Hn hi65 hk65
        replace h:=app4 hb65 h
        refine Gj ?_
        refine hK67 _ _ ?_
        refine G6 (fun K68 hK68=>?_)
        refine Gg ?_
        refine G6 fun K69 hK69=>G3 ?_
        refine JLg (.dptr [E0 y65]) (H0 (f:=(E0)) (xs:=p3) (y:=y65) O O O Ja hy65 O) ?_
        refine JLg (E0 y65) (Gf Qc O O O) ?_
        refine JLg (E0 y65) (G9 O O) ?_
        refine G8 (hK69 _ _ ?_)
        refine G6 fun K70 hK70=>G3 ?_
        refine JLg (E0 y65) (G7 O O) ?_
        refine Hs (f:=G2.av) (xs:=y65) Gx O O (fun hm74=>?_) O O O
        refine JLg (G0 0) (G7 O O) ?_
        refine G8 (hK70 _ _ ?_)
        refine Gg ?_
        obtain⟨b107,kx107,hb107,hkx107,h⟩:=Hu h
        refine H7 (fun i107 (s107:(Gr Int Unit)×(List Int))=>each b107 kx107 (List.drop i107 y65) i107 s107=some r) (fun i107 s107=>[(0,G0 id_),(3,.dptr [LS 1 (E0) p3]),(4,Ee p4),(5,.ptr 1072 0),(11,G0 j17),(26,LS 1 (E0) p3),(27,Em p3.length),(28,Em i7),(67,LS 1 (E0) p3),(68,Em p3.length),(69,Em i65),(73,E0 y65),(74,Em y65.length),(75,Em i107)]) (fun i107 s107=>[(1076,MP 123 (fun n:Int=>Value.int .i64 n) (fun _:Unit=>.agg []) s107.1),(1077,.vec 3 1 s107.2.length (s107.2.map G0)),(1070,.box 123 [.mp 1076]),(1071,.box 52 [.vec 1077 s107.2.length 1 s107.2.length]),(1072,.box 124 [.fn 45 [.ptr 1070 0,.ptr 1071 0,.dptr [LS 1 (E0) p3],Ee p4,.ptr 1072 0]])]) (fun i107=>y65.length - i107) 0 (s65.1,s65.2) h ⟨(by repeat' constructor),⟨⟨_,rfl,.map⟩,⟨_,rfl,.vec⟩,⟨_,rfl,.boxL rfl ⟨.same rfl,G⟩⟩,⟨_,rfl,.boxL rfl ⟨.same rfl,G⟩⟩,⟨_,rfl,.boxL rfl ⟨.same rfl,G⟩⟩,G⟩,rfl⟩ ?_
        clear h
        intro i107 s107 hi107 K107 e107
        refine G6 fun K108 hK108=>G3 ?_
        refine JLg (BL (decide ((i107:Int) < (y65.length:Int)))) (Hy O O O) ?_
        refine G8 (hK108 _ _ ?_)
        refine G6 (fun K109 hK109=>?_)
        refine Gh O (fun hb=>?_) (fun hb=>?_)
        ·
         have hk107:=J9 hb
         obtain⟨y107,nx107,hy107,hn107,h⟩:=Hn hi107 hk107
         replace h:=app4 hb107 h
         refine Gj ?_
         refine hK109 _ _ ?_
         obtain⟨kj110,hkj110,h⟩:=Qd h
         refine Jq (fun j110:(Gr Int Unit)×(List Int)=>kj110 j110=some r) (fun j110=>[(0,G0 id_),(3,.dptr [LS 1 (E0) p3]),(4,Ee p4),(5,.ptr 1072 0),(11,G0 j17),(26,LS 1 (E0) p3),(27,Em p3.length),(28,Em i7),(67,LS 1 (E0) p3),(68,Em p3.length),(69,Em i65),(73,E0 y65),(74,Em y65.length),(75,Em i107)]) (fun j110=>[(1076,MP 123 (fun n:Int=>Value.int .i64 n) (fun _:Unit=>.agg []) j110.1),(1077,.vec 3 1 j110.2.length (j110.2.map G0)),(1070,.box 123 [.mp 1076]),(1071,.box 52 [.vec 1077 j110.2.length 1 j110.2.length]),(1072,.box 124 [.fn 45 [.ptr 1070 0,.ptr 1071 0,.dptr [LS 1 (E0) p3],Ee p4,.ptr 1072 0]])]) (fun Kj110 ej110=>?_) ?_
         ·
          refine Gg ?_
          refine G6 fun K111 hK111=>G3 ?_
          refine JLg (Ef y107) (H0 (f:=G2.av) (xs:=y65) (y:=y107) O O O Gx hy107 O) ?_
          refine JLg (.agg (G2.cs y107)) (Gi Jf O O O) ?_
          refine JLg (.ptr 1132 0) (Hi 1132 4 Jb O O) ?_
          refine Hj (u:=.junk) (H2 (u:=.agg (G2.cs y107)) (ds:=[G0 y107.Gp,G0 y107.Slot.G5,G0 y107.Slot.Tier,U8 y107.Slot.Half]) Jz O O O O O O O O) ?_
          refine G8 (hK111 _ _ ?_)
          refine Gk [(0,G0 id_),(3,.dptr [LS 1 (E0) p3]),(4,Ee p4),(5,.ptr 1072 0),(11,G0 j17),(17,Ef y107),(26,LS 1 (E0) p3),(27,Em p3.length),(28,Em i7),(67,LS 1 (E0) p3),(68,Em p3.length),(69,Em i65),(73,E0 y65),(74,Em y65.length),(75,Em i107)] [(1076,MP 123 (fun n:Int=>Value.int .i64 n) (fun _:Unit=>.agg []) s107.1),(1077,.vec 3 1 s107.2.length (s107.2.map G0)),(1070,.box 123 [.mp 1076]),(1071,.box 52 [.vec 1077 s107.2.length 1 s107.2.length]),(1072,.box 124 [.fn 45 [.ptr 1070 0,.ptr 1071 0,.dptr [LS 1 (E0) p3],Ee p4,.ptr 1072 0]])] 1132 rfl rfl rfl ⟨⟨_,rfl,.map⟩,⟨_,rfl,.vec⟩,⟨_,rfl,.boxEq rfl rfl⟩,⟨_,rfl,.boxEq rfl rfl⟩,⟨_,rfl,.boxEq rfl rfl⟩,G⟩ rfl (by repeat' (first | exact .ptr | constructor)) ?_
          refine G6 fun K112 hK112=>G3 ?_
          refine JLg (G0 j17) (G7 O O) ?_
          refine JLg (BL (decide (0≤j17))) (Yu O O O) ?_
          refine JLg (BL (decide (0≤j17))) (G7 O O) ?_
          refine Gd (u:=Ee p4) [] O O O .sct G (fun hc=>Gc J6 O O O) ?_
          refine Gd (u:=E4 p4.Columns) [(82,Ee p4)] O O O .sct ⟨.all id,G⟩ (fun hc=>Gf Jd O O O) ?_
          refine Gd (u:=Eg y107.Slot) [] O O O .sct G (fun hc=>Gc J1 O O O) ?_
          refine Gd (u:=Eg y107.Slot) [(84,Eg y107.Slot)] O O O .sct ⟨.all id,G⟩ (fun hc=>Gc J8 O O O) ?_
          refine Gd (u:=G0 y107.Slot.G5) [(85,Eg y107.Slot)] O O O .sct ⟨.all id,G⟩ (fun hc=>Gf Gb O O O) ?_
          obtain⟨y113,hy113,h⟩:=Ge h
          refine Gd (u:=Ei y113) [(83,E4 p4.Columns),(86,G0 y107.Slot.G5)] O O O .sct ⟨.all id,.all id,G⟩ (fun hc=>(match Rv (Gv hc hy113) with | ⟨_,hm_,hy_⟩=>H0 (f:=G5.av) (xs:=p4.Columns) (y:=y113) O O O J7 hy_ hm_)) ?_
          refine Gd (u:=.dptr ((G5.cs y113).drop 2)) [(87,Ei y113)] O O O .sct ⟨.all id,G⟩ (fun hc=>Gc Rb O O O) ?_
          refine Gd (u:=BL y113.Deck) [(88,.dptr ((G5.cs y113).drop 2))] O O O .sct ⟨.all id,G⟩ (fun hc=>Gf Qj O O O) ?_
          refine JLg (BL ((decide (0≤j17))&&y113.Deck)) (Qr O O O O) ?_
          refine JLg (BL ((decide (0≤j17))&&y113.Deck)) (G7 O O) ?_
          refine Gd (u:=.agg (Gz.cs p4)) [] O O O .sct G (fun hc=>Gi J0 O O O) ?_
          refine Gd (u:=Eg y107.Slot) [] O O O .sct G (fun hc=>Gc J1 O O O) ?_
          refine Gd (u:=Eg y107.Slot) [(93,Eg y107.Slot)] O O O .sct ⟨.all id,G⟩ (fun hc=>Gc J8 O O O) ?_
          refine Gd (u:=G0 y107.Slot.G5) [(94,Eg y107.Slot)] O O O .sct ⟨.all id,G⟩ (fun hc=>Gf Gb O O O) ?_
          obtain⟨r114,hr114,h⟩:=Ge h
          refine Gd (u:=G0 r114) [(92,.agg (Gz.cs p4)),(95,G0 y107.Slot.G5)] O O O .sct ⟨.all id,.all id,G⟩ (fun hc=>H1 (args:=[.agg (Gz.cs p4),G0 y107.Slot.G5]) O (M_ship_CoverOf_w p4 y107.Slot.G5 r114 (Gv hc hr114)) tf_call_47 ⟨O,O,O,O,G⟩) ?_
          refine Gd (u:=G0 j17) [] O O O .sct G (fun hc=>G7 O O) ?_
          refine Gd (u:=BL (decide (r114=j17))) [(96,G0 r114),(97,G0 j17)] O O O .sct ⟨.all id,.all id,G⟩ (fun hc=>Qb O O O) ?_
          refine JLg (BL (((decide (0≤j17))&&y113.Deck)&&(decide (r114=j17)))) (Qr O O O O) ?_
          refine G8 (hK112 _ _ ?_)
          refine Gh O (fun hb=>?_) (fun hb=>?_)
          ·
           replace h:=Gv hb h
           refine G3 ?_
           refine JLg (.fn 45 [.ptr 1070 0,.ptr 1071 0,.dptr [LS 1 (E0) p3],Ee p4,.ptr 1072 0]) (Jx tf_scalar_124 O O O O) ?_
           refine JLg (Ef y107) (Gc J5 O O O) ?_
           refine JLg (G0 y107.Gp) (Gf Gb O O O) ?_
           obtain⟨r115,hr115,h⟩:=Ge h
           refine JLg (.tup []) (Yi (args:=[G0 y107.Gp]) (caps:=[.ptr 1070 0,.ptr 1071 0,.dptr [LS 1 (E0) p3],Ee p4,.ptr 1072 0]) (L0:=[(1070,.box 123 [.mp 1076]),(1076,MP 123 (fun n:Int=>Value.int .i64 n) (fun _:Unit=>.agg []) s107.1),(1071,.box 52 [.vec 1077 s107.2.length 1 s107.2.length]),(1077,.vec 3 1 s107.2.length (s107.2.map G0)),(1072,.box 124 [.fn 45 [.ptr 1070 0,.ptr 1071 0,.dptr [LS 1 (E0) p3],Ee p4,.ptr 1072 0]])]) (Lr:=[(1070,.box 123 [.mp 1076]),(1076,MP 123 (fun n:Int=>Value.int .i64 n) (fun _:Unit=>.agg []) r115.1),(1071,.box 52 [.vec 1077 r115.2.length 1 r115.2.length]),(1077,.vec 3 1 r115.2.length (r115.2.map G0)),(1072,.box 124 [.fn 45 [.ptr 1070 0,.ptr 1071 0,.dptr [LS 1 (E0) p3],Ee p4,.ptr 1072 0]])]) O O (self_w y107.Gp s107.1 s107.2 p3 p4 r115 hr115) tf_call_45 ⟨.inl O,O,G⟩ O ⟨O,O,O,O,O,G⟩ O O O) ?_
           refine G8 ?_
           exact ej110 _ _ (r115.1,r115.2) h ⟨(by repeat' constructor),⟨⟨_,rfl,.map⟩,⟨_,rfl,.vec⟩,⟨_,rfl,.boxL rfl ⟨.same rfl,G⟩⟩,⟨_,rfl,.boxL rfl ⟨.same rfl,G⟩⟩,⟨_,rfl,.boxL rfl ⟨.same rfl,G⟩⟩,G⟩,rfl⟩
          ·
           replace h:=Hp hb h
           refine Gj ?_
           exact ej110 _ _ (s107.1,s107.2) h ⟨(by repeat' constructor),⟨⟨_,rfl,.map⟩,⟨_,rfl,.vec⟩,⟨_,rfl,.boxL rfl ⟨.same rfl,G⟩⟩,⟨_,rfl,.boxL rfl ⟨.same rfl,G⟩⟩,⟨_,rfl,.boxL rfl ⟨.same rfl,G⟩⟩,G⟩,rfl⟩
         ·intro j110 h
          replace h:=app1 hkj110 h
          refine G3 ?_
          refine JLg (G0 ((i107+1:Nat):Int)) (Ht (Hc hk107 hm74) O O O) ?_
          refine JLg (G0 ((i107+1:Nat):Int)) (G7 O O) ?_
          refine G8 ?_
          exact e107 _ _ (i107+1) (j110.1,j110.2) (app1 hn107 h) (by omega) ⟨(by repeat' constructor),⟨⟨_,rfl,.map⟩,⟨_,rfl,.vec⟩,⟨_,rfl,.boxL rfl ⟨.same rfl,G⟩⟩,⟨_,rfl,.boxL rfl ⟨.same rfl,G⟩⟩,⟨_,rfl,.boxL rfl ⟨.same rfl,G⟩⟩,G⟩,rfl⟩
        ·
         have h:=app1 hkx107 (Ho hi107 (H3 hb))
         refine Hk ?_
         refine hK68 _ _ ?_
         refine G3 ?_
         refine JLg (G0 ((i65+1:Nat):Int)) (Ht (Hc hk65 hm68) O O O) ?_
         refine JLg (G0 ((i65+1:Nat):Int)) (G7 O O) ?_
         refine G8 ?_
         exact e65 _ _ (i65+1) (s107.1,s107.2) (app1 hn65 h) (by omega) ⟨(by repeat' constructor),⟨⟨_,rfl,.map⟩,⟨_,rfl,.vec⟩,⟨_,rfl,.boxL rfl ⟨.same rfl,G⟩⟩,⟨_,rfl,.boxL rfl ⟨.same rfl,G⟩⟩,⟨_,rfl,.boxL rfl ⟨.same rfl,G⟩⟩,G⟩,rfl⟩
       ·
        have h:=app1 hkx65 (Ho hi65 (H3 hb))
        refine Hk ?_
        exact ej10 _ _ (s65.1,s65.2) h ⟨(by repeat' constructor),⟨⟨_,rfl,.map⟩,⟨_,rfl,.vec⟩,⟨_,rfl,.boxL rfl ⟨.same rfl,G⟩⟩,⟨_,rfl,.boxL rfl ⟨.same rfl,G⟩⟩,⟨_,rfl,.boxL rfl ⟨.same rfl,G⟩⟩,G⟩,rfl⟩
   ·intro j10 h
    replace h:=app1 hkj10 h
    refine G3 ?_
    refine JLg (G0 ((i7+1:Nat):Int)) (Ht (Hc hk7 hm27) O O O) ?_
    refine JLg (G0 ((i7+1:Nat):Int)) (G7 O O) ?_
    refine G8 ?_
    exact e7 _ _ (i7+1) (j10.1,j10.2) (app1 hn7 h) (by omega) ⟨(by repeat' constructor),⟨⟨_,rfl,.map⟩,⟨_,rfl,.vec⟩,⟨_,rfl,.boxL rfl ⟨.same rfl,G⟩⟩,⟨_,rfl,.boxL rfl ⟨.same rfl,G⟩⟩,⟨_,rfl,.boxL rfl ⟨.same rfl,G⟩⟩,G⟩,rfl⟩
  ·
   have h:=app1 hkx7 (Ho hi7 (H3 hb))
   refine Hk ?_
   obtain rfl:=Option.some.inj h
   exact⟨[],[(1070,.box 123 [.mp 1076]),(1076,MP 123 (fun n:Int=>Value.int .i64 n) (fun _:Unit=>.agg []) s7.1),(1071,.box 52 [.vec 1077 s7.2.length 1 s7.2.length]),(1077,.vec 3 1 s7.2.length (s7.2.map G0)),(1072,.box 124 [.fn 45 [.ptr 1070 0,.ptr 1071 0,.dptr [LS 1 (E0) p3],Ee p4,.ptr 1072 0]])],⟨⟨_,O,.boxL O ⟨.same O,G⟩⟩,⟨_,O,.map⟩,⟨_,O,.boxL O ⟨.same O,G⟩⟩,⟨_,O,.vec⟩,⟨_,O,.boxL O ⟨.same O,G⟩⟩,G⟩,O,G,O,O⟩
theorem M_plan_lifted_1_w:∀ (F:Nat) (id_:Int) (p1:Gr Int Unit) (p2:List Int) (p3:List (List G2)) (p4:Gz) (r:(Gr Int Unit)×(List Int)) (h:M_plan_lifted_1 F id_ p1 p2 p3 p4=some r),Jr Tryz.prog 45 [G0 id_,.ptr 1070 0,.ptr 1071 0,.dptr [LS 1 (E0) p3],Ee p4,.ptr 1072 0] [(1070,.box 123 [.mp 1076]),(1076,MP 123 (fun n:Int=>Value.int .i64 n) (fun _:Unit=>.agg []) p1),(1071,.box 52 [.vec 1077 p2.length 1 p2.length]),(1077,.vec 3 1 p2.length (p2.map G0)),(1072,.box 124 [.fn 45 [.ptr 1070 0,.ptr 1071 0,.dptr [LS 1 (E0) p3],Ee p4,.ptr 1072 0]])] (fun av L'=>av=.tup []∧L'=[(1070,.box 123 [.mp 1076]),(1076,MP 123 (fun n:Int=>Value.int .i64 n) (fun _:Unit=>.agg []) r.1),(1071,.box 52 [.vec 1077 r.2.length 1 r.2.length]),(1077,.vec 3 1 r.2.length (r.2.map G0)),(1072,.box 124 [.fn 45 [.ptr 1070 0,.ptr 1071 0,.dptr [LS 1 (E0) p3],Ee p4,.ptr 1072 0]])]):=by
 intro F
 induction F with
 | zero=>intro id_ p1 p2 p3 p4 r h; cases h
 | succ F ih=>intro id_ p1 p2 p3 p4 r h; exact B_plan_lifted_1_w (M_plan_lifted_1 F) ih F id_ p1 p2 p3 p4 r h

def Q3 (F:Nat) (s:Gz) (before:List G2) (after:List G2):Option (List Int):=
 each (fun y9 i9 (s9:(Gr Int Unit)×(List Int)) nx9=>
  each (fun y59 i59 (s59:(Gr Int Unit)×(List Int)) nx59=>
   jp (fun kj62=>
    bnd (M_plan_find before y59.Gp) fun r65=>
    bnd (M_plan_find after y59.Gp) fun r67=>
    bif ((!(r65.2==r67.2))||(!decide (r65.1=r67.1))) then
    (bnd (M_plan_lifted_1 F y59.Gp s59.1 s59.2 [before,after] s) fun r69=>
     kj62 (r69.1,r69.2))
    else
    (kj62 (s59.1,s59.2))) fun(j62:(Gr Int Unit)×(List Int))=>
   nx59 (j62.1,j62.2))
  (fun(s59:(Gr Int Unit)×(List Int))=>
   nx9 (s59.1,s59.2)) y9 0 (s9.1,s9.2))
 (fun(s9:(Gr Int Unit)×(List Int))=>
  bnd (sortIM s9.2) fun r71=>
  some r71) [before,after] 0 ((Gr.empty:Gr Int Unit),[])
theorem M_plan_lifted_w (F:Nat) (s:Gz) (before:List G2) (after:List G2) (r:(List Int)) (h:Q3 F s before after=some r):Pure Tryz.prog 19 [.agg (Gz.cs s),E0 before,E0 after] (·=E1 r):=by
 unfold Q3 at h
 refine H9 [.tmp 6] Tryz.func19 O O ?_
 refine G6 fun K1 hK1=>G3 ?_
 refine JLg (.ptr 1067 0) (Q1 (u:=.agg (Gz.cs s)) (cs:=(Gz.cs s)) 1067 O O O O O) ?_
 refine JLg (E1 ([]:List Int)) (Jj 1 O O) ?_
 refine G8 (hK1 _ _ ?_)
 refine Gk [(1,E0 before),(2,E0 after),(3,Ee s)] [] 1067 rfl rfl rfl G rfl (by exact⟨.conv (.same rfl),.conv (.same rfl),.ptr,G⟩) ?_
 refine G6 fun K2 hK2=>G3 ?_
 refine JLg (E0 before) (G7 O O) ?_
 refine JLg (E0 after) (G7 O O) ?_
 refine JLg (LS 1 (E0) [before,after]) (Hd (xs:=[E0 before,E0 after]) O ⟨O,O,O,O,G⟩ Ja Ys O O O O) ?_
 refine JLg (.ptr 1069 0) (Hi 1069 1 tf_zsize_38 O O) ?_
 refine Hj (u:=.junk) (H2 (u:=LS 1 (E0) [before,after]) (ds:=[LS 1 (E0) [before,after]]) tf_size_38 O O O O O O O O) ?_
 refine G8 (hK2 _ _ ?_)
 refine Gk [(1,E0 before),(2,E0 after),(3,Ee s),(7,.dptr [LS 1 (E0) [before,after]])] [] 1069 rfl rfl rfl G rfl (by repeat' (first | exact .ptr | constructor)) ?_
 refine G6 fun K3 hK3=>G3 ?_
 refine JLg (.mp 1076) (Rt 1076 (fun n:Int=>Value.int .i64 n) (fun _:Unit=>.agg []) O O) ?_
 refine JLg (.ptr 1070 0) (Hi 1070 1 tf_zsize_123 O O) ?_
 refine Hj (u:=.junk) (H2 (u:=.mp 1076) (ds:=[.mp 1076]) tf_size_123 O O O O O O O O) ?_
 refine G8 (hK3 _ _ ?_)
 refine G6 fun K4 hK4=>G3 ?_
 refine JLg (.ptr 1071 0) (Y1 1071 [.sc (.slice none 0 0)] [.slice none 0 0] tf_zero_52 ⟨.inl O,G⟩ O O) ?_
 refine JL_vecCell 1071 0 1077 3 1 O O O (cs':=[.vec 1077 (([]:List Int).length) 1 (([]:List Int).length)]) O ?_
 refine G8 (hK4 _ _ ?_)
 refine G6 fun K5 hK5=>G3 ?_
 refine JLg (.ptr 1072 0) (Hi 1072 1 tf_zsize_124 O O) ?_
 refine G8 (hK5 _ _ ?_)
 refine G6 fun K6 hK6=>G3 ?_
 refine JLg (.fn 45 [.ptr 1070 0,.ptr 1071 0,.dptr [LS 1 (E0) [before,after]],Ee s,.ptr 1072 0]) (R4 (cs:=[.ptr 1070 0,.ptr 1071 0,.dptr [LS 1 (E0) [before,after]],Ee s,.ptr 1072 0]) O O) ?_
 refine Hj (u:=.junk) (H2 (u:=.fn 45 [.ptr 1070 0,.ptr 1071 0,.dptr [LS 1 (E0) [before,after]],Ee s,.ptr 1072 0]) (ds:=[.fn 45 [.ptr 1070 0,.ptr 1071 0,.dptr [LS 1 (E0) [before,after]],Ee s,.ptr 1072 0]]) tf_size_124 O O O O O O O O) ?_
 refine G8 (hK6 _ _ ?_)
 refine G6 (fun K7 hK7=>?_)
 refine G6 fun K8 hK8=>G3 ?_
 refine JLg (LS 1 (E0) [before,after]) (Gf Qk O O O) ?_
 refine Hs (f:=(E0)) (xs:=[before,after]) Ja O O (fun hm25=>?_) O O O
 refine JLg (G0 0) (G7 O O) ?_
 refine G8 (hK8 _ _ ?_)
 refine Gg ?_
 obtain⟨b9,kx9,hb9,hkx9,h⟩:=Hu h
 refine H7 (fun i9 (s9:(Gr Int Unit)×(List Int))=>each b9 kx9 (List.drop i9 [before,after]) i9 s9=some r) (fun i9 s9=>[(1,E0 before),(2,E0 after),(9,.ptr 1071 0),(10,.ptr 1072 0),(24,LS 1 (E0) [before,after]),(25,G0 ([before,after].length:Int)),(26,Em i9)]) (fun i9 s9=>[(1076,MP 123 (fun n:Int=>Value.int .i64 n) (fun _:Unit=>.agg []) s9.1),(1077,.vec 3 1 s9.2.length (s9.2.map G0)),(1070,.box 123 [.mp 1076]),(1071,.box 52 [.vec 1077 s9.2.length 1 s9.2.length]),(1072,.box 124 [.fn 45 [.ptr 1070 0,.ptr 1071 0,.dptr [LS 1 (E0) [before,after]],Ee s,.ptr 1072 0]])]) (fun i9=>[before,after].length - i9) 0 ((Gr.empty:Gr Int Unit),[]) h ⟨(by repeat' constructor),⟨⟨_,rfl,.map⟩,⟨_,rfl,.vec⟩,⟨_,rfl,.boxL rfl ⟨.same rfl,G⟩⟩,⟨_,rfl,.boxL rfl ⟨.same rfl,G⟩⟩,⟨_,rfl,.boxL rfl ⟨.same rfl,G⟩⟩,G⟩,rfl⟩ ?_
 clear h
 intro i9 s9 hi9 K9 e9
 refine G6 fun K10 hK10=>G3 ?_
 refine JLg (BL (decide ((i9:Int) < ([before,after].length:Int)))) (Hy O O O) ?_
 refine G8 (hK10 _ _ ?_)
 refine G6 (fun K11 hK11=>?_)
 refine Gh O (fun hb=>?_) (fun hb=>?_)
 ·
  have hk9:=J9 hb
  obtain⟨y9,nx9,hy9,hn9,h⟩:=Hn hi9 hk9
  replace h:=app4 hb9 h
  refine Gj ?_
  refine hK11 _ _ ?_
  refine G6 (fun K12 hK12=>?_)
  refine Gg ?_
  refine G6 fun K13 hK13=>G3 ?_
  refine JLg (.dptr [E0 y9]) (H0 (f:=(E0)) (xs:=[before,after]) (y:=y9) O O O Ja hy9 O) ?_
  refine JLg (E0 y9) (Gf Qc O O O) ?_
  refine JLg (E0 y9) (G9 O O) ?_
  refine G8 (hK13 _ _ ?_)
  refine G6 fun K14 hK14=>G3 ?_
  refine JLg (E0 y9) (G7 O O) ?_
  refine Hs (f:=G2.av) (xs:=y9) Gx O O (fun hm31=>?_) O O O
  refine JLg (G0 0) (G7 O O) ?_
  refine G8 (hK14 _ _ ?_)
  refine Gg ?_
  obtain⟨b59,kx59,hb59,hkx59,h⟩:=Hu h
  refine H7 (fun i59 (s59:(Gr Int Unit)×(List Int))=>each b59 kx59 (List.drop i59 y9) i59 s59=some r) (fun i59 s59=>[(1,E0 before),(2,E0 after),(9,.ptr 1071 0),(10,.ptr 1072 0),(24,LS 1 (E0) [before,after]),(25,G0 ([before,after].length:Int)),(26,Em i9),(30,E0 y9),(31,Em y9.length),(32,Em i59)]) (fun i59 s59=>[(1076,MP 123 (fun n:Int=>Value.int .i64 n) (fun _:Unit=>.agg []) s59.1),(1077,.vec 3 1 s59.2.length (s59.2.map G0)),(1070,.box 123 [.mp 1076]),(1071,.box 52 [.vec 1077 s59.2.length 1 s59.2.length]),(1072,.box 124 [.fn 45 [.ptr 1070 0,.ptr 1071 0,.dptr [LS 1 (E0) [before,after]],Ee s,.ptr 1072 0]])]) (fun i59=>y9.length - i59) 0 (s9.1,s9.2) h ⟨(by repeat' constructor),⟨⟨_,rfl,.map⟩,⟨_,rfl,.vec⟩,⟨_,rfl,.boxL rfl ⟨.same rfl,G⟩⟩,⟨_,rfl,.boxL rfl ⟨.same rfl,G⟩⟩,⟨_,rfl,.boxL rfl ⟨.same rfl,G⟩⟩,G⟩,rfl⟩ ?_
  clear h
  intro i59 s59 hi59 K59 e59
  refine G6 fun K60 hK60=>G3 ?_
  refine JLg (BL (decide ((i59:Int) < (y9.length:Int)))) (Hy O O O) ?_
  refine G8 (hK60 _ _ ?_)
  refine G6 (fun K61 hK61=>?_)
  refine Gh O (fun hb=>?_) (fun hb=>?_)
  ·
   have hk59:=J9 hb
   obtain⟨y59,nx59,hy59,hn59,h⟩:=Hn hi59 hk59
   replace h:=app4 hb59 h
   refine Gj ?_
   refine hK61 _ _ ?_
   obtain⟨kj62,hkj62,h⟩:=Qd h
   refine Jq (fun j62:(Gr Int Unit)×(List Int)=>kj62 j62=some r) (fun j62=>[(1,E0 before),(2,E0 after),(9,.ptr 1071 0),(10,.ptr 1072 0),(24,LS 1 (E0) [before,after]),(25,G0 ([before,after].length:Int)),(26,Em i9),(30,E0 y9),(31,Em y9.length),(32,Em i59)]) (fun j62=>[(1076,MP 123 (fun n:Int=>Value.int .i64 n) (fun _:Unit=>.agg []) j62.1),(1077,.vec 3 1 j62.2.length (j62.2.map G0)),(1070,.box 123 [.mp 1076]),(1071,.box 52 [.vec 1077 j62.2.length 1 j62.2.length]),(1072,.box 124 [.fn 45 [.ptr 1070 0,.ptr 1071 0,.dptr [LS 1 (E0) [before,after]],Ee s,.ptr 1072 0]])]) (fun Kj62 ej62=>?_) ?_
   ·
    refine Gg ?_
    refine G6 fun K63 hK63=>G3 ?_
    refine JLg (Ef y59) (H0 (f:=G2.av) (xs:=y9) (y:=y59) O O O Gx hy59 O) ?_
    refine JLg (.agg (G2.cs y59)) (Gi Jf O O O) ?_
    refine JLg (.ptr 1073 0) (Hi 1073 4 Jb O O) ?_
    refine Hj (u:=.junk) (H2 (u:=.agg (G2.cs y59)) (ds:=[G0 y59.Gp,G0 y59.Slot.G5,G0 y59.Slot.Tier,U8 y59.Slot.Half]) Jz O O O O O O O O) ?_
    refine G8 (hK63 _ _ ?_)
    refine Gk [(1,E0 before),(2,E0 after),(9,.ptr 1071 0),(10,.ptr 1072 0),(14,Ef y59),(24,LS 1 (E0) [before,after]),(25,G0 ([before,after].length:Int)),(26,Em i9),(30,E0 y9),(31,Em y9.length),(32,Em i59)] [(1076,MP 123 (fun n:Int=>Value.int .i64 n) (fun _:Unit=>.agg []) s59.1),(1077,.vec 3 1 s59.2.length (s59.2.map G0)),(1070,.box 123 [.mp 1076]),(1071,.box 52 [.vec 1077 s59.2.length 1 s59.2.length]),(1072,.box 124 [.fn 45 [.ptr 1070 0,.ptr 1071 0,.dptr [LS 1 (E0) [before,after]],Ee s,.ptr 1072 0]])] 1073 rfl rfl rfl ⟨⟨_,rfl,.map⟩,⟨_,rfl,.vec⟩,⟨_,rfl,.boxEq rfl rfl⟩,⟨_,rfl,.boxEq rfl rfl⟩,⟨_,rfl,.boxEq rfl rfl⟩,G⟩ rfl (by repeat' (first | exact .ptr | constructor)) ?_
    refine G6 fun K64 hK64=>G3 ?_
    refine JLg (E0 before) (G7 O O) ?_
    refine JLg (Ef y59) (Gc J5 O O O) ?_
    refine JLg (G0 y59.Gp) (Gf Gb O O O) ?_
    obtain⟨r65,hr65,h⟩:=Ge h
    refine JLg (.tup [.agg (Slot.cs r65.1),BL r65.2]) (H1 (args:=[E0 before,G0 y59.Gp]) O (M_plan_find_w before y59.Gp r65 hr65) Yq ⟨O,O,O,O,G⟩) ?_
    refine JLg (.tup [.agg (Slot.cs r65.1),BL r65.2]) (G7 O O) ?_
    refine JLg (.agg (Slot.cs r65.1)) (Hq O O O) ?_
    refine JLg (BL r65.2) (Hq O O O) ?_
    refine JLg (.ptr 1074 0) (Hi 1074 3 Qz O O) ?_
    refine Hj (u:=.junk) (H2 (u:=.agg (Slot.cs r65.1)) (ds:=[G0 r65.1.G5,G0 r65.1.Tier,U8 r65.1.Half]) R8 O O O O O O O O) ?_
    refine JLg (BL r65.2) (G9 O O) ?_
    refine G8 (hK64 _ _ ?_)
    refine Gk [(1,E0 before),(2,E0 after),(9,.ptr 1071 0),(10,.ptr 1072 0),(14,Ef y59),(15,Eg r65.1),(16,BL r65.2),(24,LS 1 (E0) [before,after]),(25,G0 ([before,after].length:Int)),(26,Em i9),(30,E0 y9),(31,Em y9.length),(32,Em i59)] [(1076,MP 123 (fun n:Int=>Value.int .i64 n) (fun _:Unit=>.agg []) s59.1),(1077,.vec 3 1 s59.2.length (s59.2.map G0)),(1070,.box 123 [.mp 1076]),(1071,.box 52 [.vec 1077 s59.2.length 1 s59.2.length]),(1072,.box 124 [.fn 45 [.ptr 1070 0,.ptr 1071 0,.dptr [LS 1 (E0) [before,after]],Ee s,.ptr 1072 0]])] 1074 rfl rfl rfl ⟨⟨_,rfl,.map⟩,⟨_,rfl,.vec⟩,⟨_,rfl,.boxEq rfl rfl⟩,⟨_,rfl,.boxEq rfl rfl⟩,⟨_,rfl,.boxEq rfl rfl⟩,G⟩ rfl (by repeat' (first | exact .ptr | constructor)) ?_
    refine G6 fun K66 hK66=>G3 ?_
    refine JLg (E0 after) (G7 O O) ?_
    refine JLg (Ef y59) (Gc J5 O O O) ?_
    refine JLg (G0 y59.Gp) (Gf Gb O O O) ?_
    obtain⟨r67,hr67,h⟩:=Ge h
    refine JLg (.tup [.agg (Slot.cs r67.1),BL r67.2]) (H1 (args:=[E0 after,G0 y59.Gp]) O (M_plan_find_w after y59.Gp r67 hr67) Yq ⟨O,O,O,O,G⟩) ?_
    refine JLg (.tup [.agg (Slot.cs r67.1),BL r67.2]) (G7 O O) ?_
    refine JLg (.agg (Slot.cs r67.1)) (Hq O O O) ?_
    refine JLg (BL r67.2) (Hq O O O) ?_
    refine JLg (.ptr 1075 0) (Hi 1075 3 Qz O O) ?_
    refine Hj (u:=.junk) (H2 (u:=.agg (Slot.cs r67.1)) (ds:=[G0 r67.1.G5,G0 r67.1.Tier,U8 r67.1.Half]) R8 O O O O O O O O) ?_
    refine JLg (BL r67.2) (G9 O O) ?_
    refine G8 (hK66 _ _ ?_)
    refine Gk [(1,E0 before),(2,E0 after),(9,.ptr 1071 0),(10,.ptr 1072 0),(14,Ef y59),(15,Eg r65.1),(16,BL r65.2),(17,Eg r67.1),(18,BL r67.2),(24,LS 1 (E0) [before,after]),(25,G0 ([before,after].length:Int)),(26,Em i9),(30,E0 y9),(31,Em y9.length),(32,Em i59)] [(1076,MP 123 (fun n:Int=>Value.int .i64 n) (fun _:Unit=>.agg []) s59.1),(1077,.vec 3 1 s59.2.length (s59.2.map G0)),(1070,.box 123 [.mp 1076]),(1071,.box 52 [.vec 1077 s59.2.length 1 s59.2.length]),(1072,.box 124 [.fn 45 [.ptr 1070 0,.ptr 1071 0,.dptr [LS 1 (E0) [before,after]],Ee s,.ptr 1072 0]])] 1075 rfl rfl rfl ⟨⟨_,rfl,.map⟩,⟨_,rfl,.vec⟩,⟨_,rfl,.boxEq rfl rfl⟩,⟨_,rfl,.boxEq rfl rfl⟩,⟨_,rfl,.boxEq rfl rfl⟩,G⟩ rfl (by repeat' (first | exact .ptr | constructor)) ?_
    refine G6 fun K68 hK68=>G3 ?_
    refine JLg (BL r65.2) (G7 O O) ?_
    refine JLg (BL r67.2) (G7 O O) ?_
    refine JLg (BL (!(r65.2==r67.2))) (A_neBool tf_bool_4 O O O) ?_
    refine JLg (BL (!(r65.2==r67.2))) (G7 O O) ?_
    refine Gd (u:=.agg (Slot.cs r65.1)) [] O O O .scf G (fun hc=>Gi Jp O O O) ?_
    refine Gd (u:=.agg (Slot.cs r67.1)) [] O O O .scf G (fun hc=>Gi Jp O O O) ?_
    refine Gd (u:=BL (!decide (r65.1=r67.1))) [(54,.agg (Slot.cs r65.1)),(55,.agg (Slot.cs r67.1))] O O O .scf ⟨.all id,.all id,G⟩ (fun hc=>A_neAgg (vs:=[.int .i64 r65.1.G5,.int .i64 r65.1.Tier,.int .u8 r65.1.Half]) (us:=[.int .i64 r67.1.G5,.int .i64 r67.1.Tier,.int .u8 r67.1.Half]) 4 O (tq_57 r65.1 r67.1) tf_aggof_57 tf_eqg_57 O O O) ?_
    refine JLg (BL ((!(r65.2==r67.2))||(!decide (r65.1=r67.1)))) (Y4 O O O O) ?_
    refine G8 (hK68 _ _ ?_)
    refine Gh O (fun hb=>?_) (fun hb=>?_)
    ·
     replace h:=Gv hb h
     refine G3 ?_
     refine JLg (.fn 45 [.ptr 1070 0,.ptr 1071 0,.dptr [LS 1 (E0) [before,after]],Ee s,.ptr 1072 0]) (Jx tf_scalar_124 O O O O) ?_
     refine JLg (Ef y59) (Gc J5 O O O) ?_
     refine JLg (G0 y59.Gp) (Gf Gb O O O) ?_
     obtain⟨r69,hr69,h⟩:=Ge h
     refine JLg (.tup []) (Yi (args:=[G0 y59.Gp]) (caps:=[.ptr 1070 0,.ptr 1071 0,.dptr [LS 1 (E0) [before,after]],Ee s,.ptr 1072 0]) (L0:=[(1070,.box 123 [.mp 1076]),(1076,MP 123 (fun n:Int=>Value.int .i64 n) (fun _:Unit=>.agg []) s59.1),(1071,.box 52 [.vec 1077 s59.2.length 1 s59.2.length]),(1077,.vec 3 1 s59.2.length (s59.2.map G0)),(1072,.box 124 [.fn 45 [.ptr 1070 0,.ptr 1071 0,.dptr [LS 1 (E0) [before,after]],Ee s,.ptr 1072 0]])]) (Lr:=[(1070,.box 123 [.mp 1076]),(1076,MP 123 (fun n:Int=>Value.int .i64 n) (fun _:Unit=>.agg []) r69.1),(1071,.box 52 [.vec 1077 r69.2.length 1 r69.2.length]),(1077,.vec 3 1 r69.2.length (r69.2.map G0)),(1072,.box 124 [.fn 45 [.ptr 1070 0,.ptr 1071 0,.dptr [LS 1 (E0) [before,after]],Ee s,.ptr 1072 0]])]) O O (M_plan_lifted_1_w F y59.Gp s59.1 s59.2 [before,after] s r69 hr69) tf_call_45 ⟨.inl O,O,G⟩ O ⟨O,O,O,O,O,G⟩ O O O) ?_
     refine G8 ?_
     exact ej62 _ _ (r69.1,r69.2) h ⟨(by repeat' constructor),⟨⟨_,rfl,.map⟩,⟨_,rfl,.vec⟩,⟨_,rfl,.boxL rfl ⟨.same rfl,G⟩⟩,⟨_,rfl,.boxL rfl ⟨.same rfl,G⟩⟩,⟨_,rfl,.boxL rfl ⟨.same rfl,G⟩⟩,G⟩,rfl⟩
    ·
     replace h:=Hp hb h
     refine Gj ?_
     exact ej62 _ _ (s59.1,s59.2) h ⟨(by repeat' constructor),⟨⟨_,rfl,.map⟩,⟨_,rfl,.vec⟩,⟨_,rfl,.boxL rfl ⟨.same rfl,G⟩⟩,⟨_,rfl,.boxL rfl ⟨.same rfl,G⟩⟩,⟨_,rfl,.boxL rfl ⟨.same rfl,G⟩⟩,G⟩,rfl⟩
   ·intro j62 h
    replace h:=app1 hkj62 h
    refine G3 ?_
    refine JLg (G0 ((i59+1:Nat):Int)) (Ht (Hc hk59 hm31) O O O) ?_
    refine JLg (G0 ((i59+1:Nat):Int)) (G7 O O) ?_
    refine G8 ?_
    exact e59 _ _ (i59+1) (j62.1,j62.2) (app1 hn59 h) (by omega) ⟨(by repeat' constructor),⟨⟨_,rfl,.map⟩,⟨_,rfl,.vec⟩,⟨_,rfl,.boxL rfl ⟨.same rfl,G⟩⟩,⟨_,rfl,.boxL rfl ⟨.same rfl,G⟩⟩,⟨_,rfl,.boxL rfl ⟨.same rfl,G⟩⟩,G⟩,rfl⟩
  ·
   have h:=app1 hkx59 (Ho hi59 (H3 hb))
   refine Hk ?_
   refine hK12 _ _ ?_
   refine G3 ?_
   refine JLg (G0 ((i9+1:Nat):Int)) (Ht (Hc hk9 hm25) O O O) ?_
   refine JLg (G0 ((i9+1:Nat):Int)) (G7 O O) ?_
   refine G8 ?_
   exact e9 _ _ (i9+1) (s59.1,s59.2) (app1 hn9 h) (by omega) ⟨(by repeat' constructor),⟨⟨_,rfl,.map⟩,⟨_,rfl,.vec⟩,⟨_,rfl,.boxL rfl ⟨.same rfl,G⟩⟩,⟨_,rfl,.boxL rfl ⟨.same rfl,G⟩⟩,⟨_,rfl,.boxL rfl ⟨.same rfl,G⟩⟩,G⟩,rfl⟩
 ·
  have h:=app1 hkx9 (Ho hi9 (H3 hb))
  refine Hk ?_
  refine hK7 _ _ ?_
  refine G6 fun K70 hK70=>G3 ?_
  refine JLg (.vec 1077 s9.2.length 1 s9.2.length) (Jx Qt O O O O) ?_
  obtain⟨r71,hr71,h⟩:=Ge h
  refine JLg (.tup []) (A_sortI (F:=49) (xs:=s9.2) (r:=r71) O sortILaw_49 sortINone_49 tf_call_49 O O O hr71 O) ?_
  refine G8 (hK70 _ _ ?_)
  refine G6 fun K72 hK72=>G3 ?_
  refine JLg (.vec 1077 s9.2.length 1 s9.2.length) (Jx Qt O O O O) ?_
  refine JLg (.vec 1077 s9.2.length 1 s9.2.length) (G9 O O) ?_
  refine G8 (hK72 _ _ ?_)
  refine JC_vfreeze [(6,E1 r71)] [] 1077 rfl rfl G rfl (by exact⟨.vec,G⟩) ?_
  refine Gu ?_
  exact⟨[E1 r71],[],G,O,⟨⟨_,O,.conv (.same O)⟩,G⟩,O,congrArg (fun r:(List Int)=>(E1 r:AV)) (Option.some.inj h)⟩

def Qh (F:Nat) (s:Gz) (boxes:List Gp) (before:List G2) (after:List G2):Option ((List Int)×Int):=
 bnd (M_stow_Right s boxes before) fun r4=>
 bnd (bif (!(!r4)) then M_stow_Right s boxes after else some default) fun r5=>
 bif ((!r4)||(!r5)) then
 (some ([],2))
 else
 (bnd (Q3 F s before after) fun r8=>
  some (r8,0))
theorem M_plan_Lifted_w (F:Nat) (s:Gz) (boxes:List Gp) (before:List G2) (after:List G2) (r:(List Int)×Int) (h:Qh F s boxes before after=some r):Pure Tryz.prog 8 [.agg (Gz.cs s),E2 boxes,E0 before,E0 after] (·=.tup [E1 r.1,G0 r.2]):=by
 unfold Qh at h
 refine H9 [.tmp 8,.tmp 9] Tryz.func8 O O ?_
 refine G6 fun K1 hK1=>G3 ?_
 refine JLg (.ptr 1029 0) (Q1 (u:=.agg (Gz.cs s)) (cs:=(Gz.cs s)) 1029 O O O O O) ?_
 refine JLg (E1 ([]:List Int)) (Jj 1 O O) ?_
 refine JLg (G0 0) (G9 O O) ?_
 refine G8 (hK1 _ _ ?_)
 refine Gk [(1,E2 boxes),(2,E0 before),(3,E0 after),(4,Ee s)] [] 1029 rfl rfl rfl G rfl (by repeat' (first | exact .ptr | constructor)) ?_
 refine G6 (fun K2 hK2=>?_)
 refine G6 fun K3 hK3=>G3 ?_
 refine JLg (.agg (Gz.cs s)) (Gi J0 O O O) ?_
 refine JLg (E2 boxes) (G7 O O) ?_
 refine JLg (E0 before) (G7 O O) ?_
 obtain⟨r4,hr4,h⟩:=Ge h
 refine JLg (BL r4) (H1 (args:=[.agg (Gz.cs s),E2 boxes,E0 before]) O (M_stow_Right_w s boxes before r4 hr4) tf_call_18 ⟨O,O,O,O,O,O,G⟩) ?_
 refine JLg (BL (!r4)) (Rj (b:=r4) O O) ?_
 refine JLg (BL (!r4)) (G7 O O) ?_
 refine Gd (u:=.agg (Gz.cs s)) [] O O O .scf G (fun hc=>Gi J0 O O O) ?_
 refine Gd (u:=E2 boxes) [] O O O .scf G (fun hc=>G7 O O) ?_
 refine Gd (u:=E0 after) [] O O O .scf G (fun hc=>G7 O O) ?_
 obtain⟨r5,hr5,h⟩:=Ge h
 refine Gd (u:=BL r5) [(16,.agg (Gz.cs s)),(17,E2 boxes),(18,E0 after)] O O O .scf ⟨.all id,.all id,.all id,G⟩ (fun hc=>H1 (args:=[.agg (Gz.cs s),E2 boxes,E0 after]) O (M_stow_Right_w s boxes after r5 (Gv hc hr5)) tf_call_18 ⟨O,O,O,O,O,O,G⟩) ?_
 refine Gd (u:=BL (!r5)) [(19,BL r5)] O O O .scf ⟨.all id,G⟩ (fun hc=>Rj (b:=r5) O O) ?_
 refine JLg (BL ((!r4)||(!r5))) (Y4 O O O O) ?_
 refine G8 (hK3 _ _ ?_)
 refine Gh O (fun hb=>?_) (fun hb=>?_)
 ·
  replace h:=Gv hb h
  refine G6 fun K6 hK6=>G3 ?_
  refine JLg (E1 ([]:List Int)) (Jj 1 O O) ?_
  refine JLg (G0 2) (G9 O O) ?_
  refine G8 (hK6 _ _ ?_)
  refine Gu ?_
  exact⟨[E1 ([]:List Int),G0 2],[],G,O,⟨⟨_,O,.conv (.same O)⟩,⟨_,O,.conv (.same O)⟩,G⟩,O,congrArg (fun r:(List Int)×Int=>(.tup [E1 r.1,G0 r.2]:AV)) (Option.some.inj h)⟩
 ·
  replace h:=Hp hb h
  refine Gj ?_
  refine hK2 _ _ ?_
  refine G6 fun K7 hK7=>G3 ?_
  refine JLg (.agg (Gz.cs s)) (Gi J0 O O O) ?_
  refine JLg (E0 before) (G7 O O) ?_
  refine JLg (E0 after) (G7 O O) ?_
  obtain⟨r8,hr8,h⟩:=Ge h
  refine JLg (E1 r8) (H1 (args:=[.agg (Gz.cs s),E0 before,E0 after]) O (M_plan_lifted_w F s before after r8 hr8) tf_call_19 ⟨O,O,O,O,O,O,G⟩) ?_
  refine JLg (E1 r8) (G9 O O) ?_
  refine JLg (G0 0) (G9 O O) ?_
  refine G8 (hK7 _ _ ?_)
  refine Gu ?_
  exact⟨[E1 r8,G0 0],[],G,O,⟨⟨_,O,.conv (.same O)⟩,⟨_,O,.conv (.same O)⟩,G⟩,O,congrArg (fun r:(List Int)×Int=>(.tup [E1 r.1,G0 r.2]:AV)) (Option.some.inj h)⟩

def M_plan_Boxes (boxes:List Gp) (calls:Int):Option Bool:=
 bif (((decide (calls < 1))||(decide (20 < calls)))||(decide (2000 < (boxes.length:Int)))) then
 (some false)
 else
 (each (fun y28 i28 (s28:Int) nx28=>
   bif ((((((decide (y28.ID≤s28))||(decide (999999 < y28.ID)))||((decide (y28.Size≠40))&&((decide (y28.Size≠20))||y28.High)))||(decide (y28.Load < 0)))||(decide (y28.Discharge≤y28.Load)))||(decide (calls≤y28.Discharge))) then
   (some false)
   else
   (nx28 y28.ID))
  (fun(s28:Int)=>
   some true) boxes 0 0)
theorem M_plan_Boxes_w (boxes:List Gp) (calls:Int) (r:Bool) (h:M_plan_Boxes boxes calls=some r):Pure Tryz.prog 30 [E2 boxes,G0 calls] (·=BL r):=by
 unfold M_plan_Boxes at h
 refine H9 [.tmp 4] Tryz.func30 O O ?_
 refine G6 fun K1 hK1=>G3 ?_
 refine JLg (BL false) (G9 O O) ?_
 refine G8 (hK1 _ _ ?_)
 refine G6 (fun K2 hK2=>?_)
 refine G6 fun K3 hK3=>G3 ?_
 refine JLg (G0 calls) (G7 O O) ?_
 refine JLg (BL (decide (calls < 1))) (Hy O O O) ?_
 refine JLg (BL (decide (calls < 1))) (G7 O O) ?_
 refine Gd (u:=G0 calls) [] O O O .scf G (fun hc=>G7 O O) ?_
 refine Gd (u:=BL (decide (20 < calls))) [(11,G0 calls)] O O O .scf ⟨.all id,G⟩ (fun hc=>Yd O O O) ?_
 refine JLg (BL ((decide (calls < 1))||(decide (20 < calls)))) (Y4 O O O O) ?_
 refine JLg (BL ((decide (calls < 1))||(decide (20 < calls)))) (G7 O O) ?_
 refine Gd (u:=E2 boxes) [] O O O .scf G (fun hc=>G7 O O) ?_
 refine Gd (u:=Em boxes.length) [(15,E2 boxes)] O O O .scf ⟨.all id,G⟩ (fun hc=>Yz (f:=Gp.av) (xs:=boxes) Jm O O) ?_
 refine Gd (u:=BL (decide (2000 < (boxes.length:Int)))) [(16,Em boxes.length)] O O O .scf ⟨.all id,G⟩ (fun hc=>Yd O O O) ?_
 refine JLg (BL (((decide (calls < 1))||(decide (20 < calls)))||(decide (2000 < (boxes.length:Int))))) (Y4 O O O O) ?_
 refine G8 (hK3 _ _ ?_)
 refine Gh O (fun hb=>?_) (fun hb=>?_)
 ·
  replace h:=Gv hb h
  refine G6 fun K4 hK4=>G3 ?_
  refine JLg (BL false) (G9 O O) ?_
  refine G8 (hK4 _ _ ?_)
  refine Gu ?_
  exact⟨[BL false],[],G,O,⟨⟨_,O,.conv (.same O)⟩,G⟩,O,congrArg (fun r:Bool=>(BL r:AV)) (Option.some.inj h)⟩
 ·
  replace h:=Hp hb h
  refine Gj ?_
  refine hK2 _ _ ?_
  refine G6 fun K5 hK5=>G3 ?_
  refine JLg (G0 0) (G9 O O) ?_
  refine G8 (hK5 _ _ ?_)
  refine G6 (fun K6 hK6=>?_)
  refine G6 fun K7 hK7=>G3 ?_
  refine JLg (E2 boxes) (G7 O O) ?_
  refine Hs (f:=Gp.av) (xs:=boxes) Jm O O (fun hm20=>?_) O O O
  refine JLg (G0 0) (G7 O O) ?_
  refine G8 (hK7 _ _ ?_)
  refine Gg ?_
  obtain⟨b28,kx28,hb28,hkx28,h⟩:=Hu h
  refine H7 (fun i28 (s28:Int)=>each b28 kx28 (List.drop i28 boxes) i28 s28=some r) (fun i28 s28=>[(1,G0 calls),(5,G0 s28),(19,E2 boxes),(20,Em boxes.length),(21,Em i28)]) (fun i28 s28=>[]) (fun i28=>boxes.length - i28) 0 0 h ⟨(by repeat' constructor),G,rfl⟩ ?_
  clear h
  intro i28 s28 hi28 K28 e28
  refine G6 fun K29 hK29=>G3 ?_
  refine JLg (BL (decide ((i28:Int) < (boxes.length:Int)))) (Hy O O O) ?_
  refine G8 (hK29 _ _ ?_)
  refine G6 (fun K30 hK30=>?_)
  refine Gh O (fun hb=>?_) (fun hb=>?_)
  ·
   have hk28:=J9 hb
   obtain⟨y28,nx28,hy28,hn28,h⟩:=Hn hi28 hk28
   replace h:=app4 hb28 h
   refine Gj ?_
   refine hK30 _ _ ?_
   refine G6 (fun K31 hK31=>?_)
   refine Gg ?_
   refine G6 fun K32 hK32=>G3 ?_
   refine JLg (Eh y28) (H0 (f:=Gp.av) (xs:=boxes) (y:=y28) O O O Jm hy28 O) ?_
   refine JLg (.agg (Gp.cs y28)) (Gi Rq O O O) ?_
   refine JLg (.ptr 1105 0) (Hi 1105 9 R6 O O) ?_
   refine Hj (u:=.junk) (H2 (u:=.agg (Gp.cs y28)) (ds:=(Gp.cs y28)) Rr O O O O O O O O) ?_
   refine G8 (hK32 _ _ ?_)
   refine Gk [(1,G0 calls),(5,G0 s28),(7,Eh y28),(19,E2 boxes),(20,Em boxes.length),(21,Em i28)] [] 1105 rfl rfl rfl G rfl (by repeat' (first | exact .ptr | constructor)) ?_
   refine G6 (fun K33 hK33=>?_)
   refine G6 fun K34 hK34=>G3 ?_
   refine JLg (Eh y28) (Gc Ji O O O) ?_
   refine JLg (G0 y28.ID) (Gf Gb O O O) ?_
   refine JLg (G0 s28) (G7 O O) ?_
   refine JLg (BL (decide (y28.ID≤s28))) (A_leq O O O) ?_
   refine JLg (BL (decide (y28.ID≤s28))) (G7 O O) ?_
   refine Gd (u:=Eh y28) [] O O O .scf G (fun hc=>Gc Ji O O O) ?_
   refine Gd (u:=G0 y28.ID) [(30,Eh y28)] O O O .scf ⟨.all id,G⟩ (fun hc=>Gf Gb O O O) ?_
   refine Gd (u:=BL (decide (999999 < y28.ID))) [(31,G0 y28.ID)] O O O .scf ⟨.all id,G⟩ (fun hc=>Yd O O O) ?_
   refine JLg (BL ((decide (y28.ID≤s28))||(decide (999999 < y28.ID)))) (Y4 O O O O) ?_
   refine JLg (BL ((decide (y28.ID≤s28))||(decide (999999 < y28.ID)))) (G7 O O) ?_
   refine Gd (u:=.dptr ((Gp.cs y28).drop 2)) [] O O O .scf G (fun hc=>Gc Yg O O O) ?_
   refine Gd (u:=U8 y28.Size) [(35,.dptr ((Gp.cs y28).drop 2))] O O O .scf ⟨.all id,G⟩ (fun hc=>Gf Hx O O O) ?_
   refine Gd (u:=BL (decide (y28.Size≠40))) [(36,U8 y28.Size)] O O O .scf ⟨.all id,G⟩ (fun hc=>Yy O O O) ?_
   refine Gd (u:=BL (decide (y28.Size≠40))) [(37,BL (decide (y28.Size≠40)))] O O O .scf ⟨.all id,G⟩ (fun hc=>G7 O O) ?_
   refine Gd (u:=.dptr ((Gp.cs y28).drop 2)) [] O O O .optt G (fun hc=>Gc Yg O O O) ?_
   refine Gd (u:=U8 y28.Size) [(39,.dptr ((Gp.cs y28).drop 2))] O O O .optt ⟨.all id,G⟩ (fun hc=>Gf Hx O O O) ?_
   refine Gd (u:=BL (decide (y28.Size≠20))) [(40,U8 y28.Size)] O O O .optt ⟨.all id,G⟩ (fun hc=>Yy O O O) ?_
   refine Gd (u:=BL (decide (y28.Size≠20))) [(41,BL (decide (y28.Size≠20)))] O O O .optt ⟨.all id,G⟩ (fun hc=>G7 O O) ?_
   refine Gd (u:=.dptr ((Gp.cs y28).drop 3)) [] O O O .optf G (fun hc=>Gc tf_field_61_3 O O O) ?_
   refine Gd (u:=BL y28.High) [(43,.dptr ((Gp.cs y28).drop 3))] O O O .optf ⟨.all id,G⟩ (fun hc=>Gf Qj O O O) ?_
   refine Gd (u:=BL ((decide (y28.Size≠20))||y28.High)) [(42,BL (decide (y28.Size≠20))),(44,_)] O O O .optt ⟨.all id,.part,G⟩ (fun hc=>Y4 O O O O) ?_
   refine Gd (u:=BL ((decide (y28.Size≠40))&&((decide (y28.Size≠20))||y28.High))) [(38,BL (decide (y28.Size≠40))),(45,_)] O O O .scf ⟨.all id,.part,G⟩ (fun hc=>Qr O O O O) ?_
   refine JLg (BL (((decide (y28.ID≤s28))||(decide (999999 < y28.ID)))||((decide (y28.Size≠40))&&((decide (y28.Size≠20))||y28.High)))) (Y4 O O O O) ?_
   refine JLg (BL (((decide (y28.ID≤s28))||(decide (999999 < y28.ID)))||((decide (y28.Size≠40))&&((decide (y28.Size≠20))||y28.High)))) (G7 O O) ?_
   refine Gd (u:=.dptr ((Gp.cs y28).drop 5)) [] O O O .scf G (fun hc=>Gc Y3 O O O) ?_
   refine Gd (u:=G0 y28.Load) [(49,.dptr ((Gp.cs y28).drop 5))] O O O .scf ⟨.all id,G⟩ (fun hc=>Gf Gb O O O) ?_
   refine Gd (u:=BL (decide (y28.Load < 0))) [(50,G0 y28.Load)] O O O .scf ⟨.all id,G⟩ (fun hc=>Hy O O O) ?_
   refine JLg (BL ((((decide (y28.ID≤s28))||(decide (999999 < y28.ID)))||((decide (y28.Size≠40))&&((decide (y28.Size≠20))||y28.High)))||(decide (y28.Load < 0)))) (Y4 O O O O) ?_
   refine JLg (BL ((((decide (y28.ID≤s28))||(decide (999999 < y28.ID)))||((decide (y28.Size≠40))&&((decide (y28.Size≠20))||y28.High)))||(decide (y28.Load < 0)))) (G7 O O) ?_
   refine Gd (u:=.dptr ((Gp.cs y28).drop 5)) [] O O O .scf G (fun hc=>Gc Y3 O O O) ?_
   refine Gd (u:=G0 y28.Load) [(54,.dptr ((Gp.cs y28).drop 5))] O O O .scf ⟨.all id,G⟩ (fun hc=>Gf Gb O O O) ?_
   refine Gd (u:=.dptr ((Gp.cs y28).drop 6)) [] O O O .scf G (fun hc=>Gc Y9 O O O) ?_
   refine Gd (u:=G0 y28.Discharge) [(56,.dptr ((Gp.cs y28).drop 6))] O O O .scf ⟨.all id,G⟩ (fun hc=>Gf Gb O O O) ?_
   refine Gd (u:=BL (decide (y28.Discharge≤y28.Load))) [(55,G0 y28.Load),(57,G0 y28.Discharge)] O O O .scf ⟨.all id,.all id,G⟩ (fun hc=>Yu O O O) ?_
   refine JLg (BL (((((decide (y28.ID≤s28))||(decide (999999 < y28.ID)))||((decide (y28.Size≠40))&&((decide (y28.Size≠20))||y28.High)))||(decide (y28.Load < 0)))||(decide (y28.Discharge≤y28.Load)))) (Y4 O O O O) ?_
   refine JLg (BL (((((decide (y28.ID≤s28))||(decide (999999 < y28.ID)))||((decide (y28.Size≠40))&&((decide (y28.Size≠20))||y28.High)))||(decide (y28.Load < 0)))||(decide (y28.Discharge≤y28.Load)))) (G7 O O) ?_
   refine Gd (u:=.dptr ((Gp.cs y28).drop 6)) [] O O O .scf G (fun hc=>Gc Y9 O O O) ?_
   refine Gd (u:=G0 y28.Discharge) [(61,.dptr ((Gp.cs y28).drop 6))] O O O .scf ⟨.all id,G⟩ (fun hc=>Gf Gb O O O) ?_
   refine Gd (u:=G0 calls) [] O O O .scf G (fun hc=>G7 O O) ?_
   refine Gd (u:=BL (decide (calls≤y28.Discharge))) [(62,G0 y28.Discharge),(63,G0 calls)] O O O .scf ⟨.all id,.all id,G⟩ (fun hc=>Yu O O O) ?_
   refine JLg (BL ((((((decide (y28.ID≤s28))||(decide (999999 < y28.ID)))||((decide (y28.Size≠40))&&((decide (y28.Size≠20))||y28.High)))||(decide (y28.Load < 0)))||(decide (y28.Discharge≤y28.Load)))||(decide (calls≤y28.Discharge)))) (Y4 O O O O) ?_
   refine G8 (hK34 _ _ ?_)
   refine Gh O (fun hb=>?_) (fun hb=>?_)
   ·
    replace h:=Gv hb h
    refine G6 fun K35 hK35=>G3 ?_
    refine JLg (BL false) (G9 O O) ?_
    refine G8 (hK35 _ _ ?_)
    refine Gu ?_
    exact⟨[BL false],[],G,O,⟨⟨_,O,.conv (.same O)⟩,G⟩,O,congrArg (fun r:Bool=>(BL r:AV)) (Option.some.inj h)⟩
   ·
    replace h:=Hp hb h
    refine Gj ?_
    refine hK33 _ _ ?_
    refine G3 ?_
    refine JLg (Eh y28) (Gc Ji O O O) ?_
    refine JLg (G0 y28.ID) (Gf Gb O O O) ?_
    refine JLg (G0 y28.ID) (G9 O O) ?_
    refine G8 (hK31 _ _ ?_)
    refine G3 ?_
    refine JLg (G0 ((i28+1:Nat):Int)) (Ht (Hc hk28 hm20) O O O) ?_
    refine JLg (G0 ((i28+1:Nat):Int)) (G7 O O) ?_
    refine G8 ?_
    exact e28 _ _ (i28+1) y28.ID (app1 hn28 h) (by omega) ⟨(by repeat' constructor),G,rfl⟩
  ·
   have h:=app1 hkx28 (Ho hi28 (H3 hb))
   refine Hk ?_
   refine hK6 _ _ ?_
   refine G6 fun K36 hK36=>G3 ?_
   refine JLg (BL true) (G9 O O) ?_
   refine G8 (hK36 _ _ ?_)
   refine Gu ?_
   exact⟨[BL true],[],G,O,⟨⟨_,O,.conv (.same O)⟩,G⟩,O,congrArg (fun r:Bool=>(BL r:AV)) (Option.some.inj h)⟩

def M_plan_Aboard (boxes:List Gp) (call:Int):Option (List Int):=
 each (fun y19 i19 (s19:(List Int)) nx19=>
  jp (fun kj22=>
   bif ((decide (y19.Load≤call))&&(decide (call < y19.Discharge))) then
   (need (decide ((s19.length+[y19.ID].length)*8≤140737488355328∧s19.length+[y19.ID].length≤maxLen)) <|
    kj22 (s19++[y19.ID]))
   else
   (kj22 s19)) fun(j22:(List Int))=>
  nx19 j22)
 (fun(s19:(List Int))=>
  some s19) boxes 0 []
theorem M_plan_Aboard_w (boxes:List Gp) (call:Int) (r:(List Int)) (h:M_plan_Aboard boxes call=some r):Pure Tryz.prog 32 [E2 boxes,G0 call] (·=E1 r):=by
 unfold M_plan_Aboard at h
 refine H9 [.tmp 4] Tryz.func32 O O ?_
 refine G6 fun K1 hK1=>G3 ?_
 refine JLg (E1 ([]:List Int)) (Jj 1 O O) ?_
 refine G8 (hK1 _ _ ?_)
 refine G6 fun K2 hK2=>G3 ?_
 refine JLg (OW 1107 1 G0 ([]:List Int)) (Yx 1107 3 1 O O O) ?_
 refine G8 (hK2 _ _ ?_)
 refine G6 (fun K3 hK3=>?_)
 refine G6 fun K4 hK4=>G3 ?_
 refine JLg (E2 boxes) (G7 O O) ?_
 refine Hs (f:=Gp.av) (xs:=boxes) Jm O O (fun hm9=>?_) O O O
 refine JLg (G0 0) (G7 O O) ?_
 refine G8 (hK4 _ _ ?_)
 refine Gg ?_
 obtain⟨b19,kx19,hb19,hkx19,h⟩:=Hu h
 refine H7 (fun i19 (s19:(List Int))=>each b19 kx19 (List.drop i19 boxes) i19 s19=some r) (fun i19 s19=>[(1,G0 call),(5,OW 1107 1 G0 s19),(8,E2 boxes),(9,Em boxes.length),(10,Em i19)]) (fun i19 s19=>[(1107,.spare 3 1 s19.length s19.length)]) (fun i19=>boxes.length - i19) 0 [] h ⟨(by repeat' constructor),⟨⟨_,rfl,.same⟩,G⟩,rfl⟩ ?_
 clear h
 intro i19 s19 hi19 K19 e19
 refine G6 fun K20 hK20=>G3 ?_
 refine JLg (BL (decide ((i19:Int) < (boxes.length:Int)))) (Hy O O O) ?_
 refine G8 (hK20 _ _ ?_)
 refine G6 (fun K21 hK21=>?_)
 refine Gh O (fun hb=>?_) (fun hb=>?_)
 ·
  have hk19:=J9 hb
  obtain⟨y19,nx19,hy19,hn19,h⟩:=Hn hi19 hk19
  replace h:=app4 hb19 h
  refine Gj ?_
  refine hK21 _ _ ?_
  obtain⟨kj22,hkj22,h⟩:=Qd h
  refine Jq (fun j22:(List Int)=>kj22 j22=some r) (fun j22=>[(1,G0 call),(5,OW 1107 1 G0 j22),(8,E2 boxes),(9,Em boxes.length),(10,Em i19)]) (fun j22=>[(1107,.spare 3 1 j22.length j22.length)]) (fun Kj22 ej22=>?_) ?_
  ·
   refine Gg ?_
   refine G6 fun K23 hK23=>G3 ?_
   refine JLg (Eh y19) (H0 (f:=Gp.av) (xs:=boxes) (y:=y19) O O O Jm hy19 O) ?_
   refine JLg (.agg (Gp.cs y19)) (Gi Rq O O O) ?_
   refine JLg (.ptr 1108 0) (Hi 1108 9 R6 O O) ?_
   refine Hj (u:=.junk) (H2 (u:=.agg (Gp.cs y19)) (ds:=(Gp.cs y19)) Rr O O O O O O O O) ?_
   refine G8 (hK23 _ _ ?_)
   refine Gk [(1,G0 call),(5,OW 1107 1 G0 s19),(7,Eh y19),(8,E2 boxes),(9,Em boxes.length),(10,Em i19)] [(1107,.spare 3 1 s19.length s19.length)] 1108 rfl rfl rfl ⟨⟨_,rfl,.same⟩,G⟩ rfl (by repeat' (first | exact .ptr | constructor)) ?_
   refine G6 fun K24 hK24=>G3 ?_
   refine JLg (.dptr ((Gp.cs y19).drop 5)) (Gc Y3 O O O) ?_
   refine JLg (G0 y19.Load) (Gf Gb O O O) ?_
   refine JLg (G0 call) (G7 O O) ?_
   refine JLg (BL (decide (y19.Load≤call))) (A_leq O O O) ?_
   refine JLg (BL (decide (y19.Load≤call))) (G7 O O) ?_
   refine Gd (u:=G0 call) [] O O O .sct G (fun hc=>G7 O O) ?_
   refine Gd (u:=.dptr ((Gp.cs y19).drop 6)) [] O O O .sct G (fun hc=>Gc Y9 O O O) ?_
   refine Gd (u:=G0 y19.Discharge) [(20,.dptr ((Gp.cs y19).drop 6))] O O O .sct ⟨.all id,G⟩ (fun hc=>Gf Gb O O O) ?_
   refine Gd (u:=BL (decide (call < y19.Discharge))) [(19,G0 call),(21,G0 y19.Discharge)] O O O .sct ⟨.all id,.all id,G⟩ (fun hc=>Hy O O O) ?_
   refine JLg (BL ((decide (y19.Load≤call))&&(decide (call < y19.Discharge)))) (Qr O O O O) ?_
   refine G8 (hK24 _ _ ?_)
   refine Gh O (fun hb=>?_) (fun hb=>?_)
   ·
    replace h:=Gv hb h
    refine G3 ?_
    refine JLg (OW 1107 1 G0 s19) (G7 O O) ?_
    refine JLg (Eh y19) (Gc Ji O O O) ?_
    refine JLg (G0 y19.ID) (Gf Gb O O O) ?_
    refine JLg (E1 [y19.ID]) (Hd (xs:=[G0 y19.ID]) O ⟨O,O,G⟩ Gy Rh O O O O) ?_
    obtain⟨ha25,h⟩:=Je h
    refine JLg (OW 1107 1 G0 (s19++[y19.ID])) (Qu (f:=G0) (xs:=s19) (ys:=[y19.ID]) O O O O Gy tf_elem_3 ha25 (fun _=>O) (.inl O) O) ?_
    refine JLg (OW 1107 1 G0 (s19++[y19.ID])) (G9 O O) ?_
    refine G8 ?_
    exact ej22 _ _ (s19++[y19.ID]) h ⟨(by repeat' constructor),⟨⟨_,rfl,.same⟩,G⟩,rfl⟩
   ·
    replace h:=Hp hb h
    refine Gj ?_
    exact ej22 _ _ s19 h ⟨(by repeat' constructor),⟨⟨_,rfl,.same⟩,G⟩,rfl⟩
  ·intro j22 h
   replace h:=app1 hkj22 h
   refine G3 ?_
   refine JLg (G0 ((i19+1:Nat):Int)) (Ht (Hc hk19 hm9) O O O) ?_
   refine JLg (G0 ((i19+1:Nat):Int)) (G7 O O) ?_
   refine G8 ?_
   exact e19 _ _ (i19+1) j22 (app1 hn19 h) (by omega) ⟨(by repeat' constructor),⟨⟨_,rfl,.same⟩,G⟩,rfl⟩
 ·
  have h:=app1 hkx19 (Ho hi19 (H3 hb))
  refine Hk ?_
  refine hK3 _ _ ?_
  refine G6 fun K26 hK26=>G3 ?_
  refine JLg (OW 1107 1 G0 s19) (G7 O O) ?_
  refine JLg (OW 1107 1 G0 s19) (G9 O O) ?_
  refine G8 (hK26 _ _ ?_)
  refine Gu ?_
  exact⟨[E1 s19],[],G,O,⟨⟨_,O,.conv (.list O)⟩,G⟩,O,congrArg (fun r:(List Int)=>(E1 r:AV)) (Option.some.inj h)⟩

def M_slices_EqualFunc_int (s1_:List G2) (s2_:List Int) (eq:G2→Int→Option Bool):Option Bool:=
 bif decide ((s1_.length:Int)≠(s2_.length:Int)) then
 (some false)
 else
 (each (fun y29 i29 (s29:Unit) nx29=>
   Jy s2_ (i29:Int) fun y35=>
   bnd (eq y29 y35) fun r38=>
   bif (!r38) then
   (some false)
   else
   (nx29 ()))
  (fun(s29:Unit)=>
   some true) s1_ 0 ())
theorem M_slices_EqualFunc_int_w (s1_:List G2) (s2_:List Int) (eq:G2→Int→Option Bool) (eq_f:FuncId) (eq_c:List AV) (eq_B:Hb Tryz.prog eq_f=true) (eq_d:Qm (fun _=>false) eq_c=true) (eq_w:∀ a0 a1 q,eq a0 a1=some q→Pure Tryz.prog eq_f ([.agg (G2.cs a0),G0 a1]++eq_c) (·=BL q)) (r:Bool) (h:M_slices_EqualFunc_int s1_ s2_ eq=some r):Pure Tryz.prog 31 [E0 s1_,E1 s2_,.fn eq_f eq_c] (·=BL r):=by
 unfold M_slices_EqualFunc_int at h
 refine H9 [.tmp 6] Tryz.func31 O O ?_
 refine G6 fun K1 hK1=>G3 ?_
 refine JLg (BL false) (G9 O O) ?_
 refine G8 (hK1 _ _ ?_)
 refine G6 (fun K2 hK2=>?_)
 refine G6 fun K3 hK3=>G3 ?_
 refine JLg (E0 s1_) (G7 O O) ?_
 refine Hs (f:=G2.av) (xs:=s1_) Gx O O (fun hm11=>?_) O O O
 refine JLg (E1 s2_) (G7 O O) ?_
 refine Hs (f:=G0) (xs:=s2_) Gy O O (fun hm13=>?_) O O O
 refine JLg (BL (decide ((s1_.length:Int)≠(s2_.length:Int)))) (Yy O O O) ?_
 refine G8 (hK3 _ _ ?_)
 refine Gh O (fun hb=>?_) (fun hb=>?_)
 ·
  replace h:=Gv hb h
  refine G6 fun K4 hK4=>G3 ?_
  refine JLg (BL false) (G9 O O) ?_
  refine G8 (hK4 _ _ ?_)
  refine Gu ?_
  exact⟨[BL false],[],G,O,⟨⟨_,O,.conv (.same O)⟩,G⟩,O,congrArg (fun r:Bool=>(BL r:AV)) (Option.some.inj h)⟩
 ·
  replace h:=Hp hb h
  refine Gj ?_
  refine hK2 _ _ ?_
  refine G6 (fun K5 hK5=>?_)
  refine G6 fun K6 hK6=>G3 ?_
  refine JLg (E0 s1_) (G7 O O) ?_
  refine Hs (f:=G2.av) (xs:=s1_) Gx O O (fun hm16=>?_) O O O
  refine JLg (G0 0) (G7 O O) ?_
  refine G8 (hK6 _ _ ?_)
  refine Gg ?_
  obtain⟨b29,kx29,hb29,hkx29,h⟩:=Hu h
  refine H7 (fun i29 (s29:Unit)=>each b29 kx29 (List.drop i29 s1_) i29 s29=some r) (fun i29 s29=>[(1,E1 s2_),(2,.fn eq_f eq_c),(15,E0 s1_),(16,Em s1_.length),(17,Em i29)]) (fun i29 s29=>[]) (fun i29=>s1_.length - i29) 0 () h ⟨⟨.same O,.same (H8 _ _ eq_d),.same O,.same O,.same O,G⟩,G,O⟩ ?_
  clear h
  intro i29 s29 hi29 K29 e29
  refine G6 fun K30 hK30=>G3 ?_
  refine JLg (BL (decide ((i29:Int) < (s1_.length:Int)))) (Hy O O O) ?_
  refine G8 (hK30 _ _ ?_)
  refine G6 (fun K31 hK31=>?_)
  refine Gh O (fun hb=>?_) (fun hb=>?_)
  ·
   have hk29:=J9 hb
   obtain⟨y29,nx29,hy29,hn29,h⟩:=Hn hi29 hk29
   replace h:=app4 hb29 h
   refine Gj ?_
   refine hK31 _ _ ?_
   refine G6 (fun K32 hK32=>?_)
   refine Gg ?_
   refine G6 fun K33 hK33=>G3 ?_
   refine JLg (Em i29) (G7 O O) ?_
   refine JLg (Ef y29) (H0 (f:=G2.av) (xs:=s1_) (y:=y29) O O O Gx hy29 O) ?_
   refine JLg (.agg (G2.cs y29)) (Gi Jf O O O) ?_
   refine JLg (.ptr 1106 0) (Hi 1106 4 Jb O O) ?_
   refine JLg (Em i29) (G9 O O) ?_
   refine Hj (u:=.junk) (H2 (u:=.agg (G2.cs y29)) (ds:=[G0 y29.Gp,G0 y29.Slot.G5,G0 y29.Slot.Tier,U8 y29.Slot.Half]) Jz O O O O O O O O) ?_
   refine G8 (hK33 _ _ ?_)
   refine Gk [(1,E1 s2_),(2,.fn eq_f eq_c),(7,Em i29),(8,Ef y29),(15,E0 s1_),(16,Em s1_.length),(17,Em i29)] [] 1106 rfl rfl rfl G rfl (by exact⟨.conv (.same rfl),.conv (.same (H8 _ _ eq_d)),.conv (.same rfl),.ptr,.conv (.same rfl),.conv (.same rfl),.conv (.same rfl),G⟩) ?_
   refine G6 fun K34 hK34=>G3 ?_
   refine JLg (E1 s2_) (G7 O O) ?_
   refine JLg (Em i29) (G7 O O) ?_
   obtain⟨m36,y35,hm36,hy35,h⟩:=R3 h
   refine JLg (.dptr [G0 y35]) (H0 (f:=G0) (xs:=s2_) (y:=y35) O O O Gy hy35 hm36) ?_
   refine JLg (G0 y35) (Gf Gb O O O) ?_
   refine JLg (G0 y35) (G9 O O) ?_
   refine G8 (hK34 _ _ ?_)
   refine G6 fun K37 hK37=>G3 ?_
   refine JLg (.fn eq_f eq_c) (G7 O O) ?_
   refine JLg (.agg (G2.cs y29)) (Gi Jf O O O) ?_
   refine JLg (G0 y35) (G7 O O) ?_
   obtain⟨r38,hr38,h⟩:=Ge h
   refine JLg (BL r38) (Rk (args:=[.agg (G2.cs y29),G0 y35]) (caps:=eq_c) O O (eq_w y29 y35 _ hr38) eq_B ⟨O,O,O,O,G⟩ eq_d) ?_
   refine JLg (BL (!r38)) (Rj (b:=r38) O O) ?_
   refine G8 (hK37 _ _ ?_)
   refine Gh O (fun hb=>?_) (fun hb=>?_)
   ·
    replace h:=Gv hb h
    refine G6 fun K39 hK39=>G3 ?_
    refine JLg (BL false) (G9 O O) ?_
    refine G8 (hK39 _ _ ?_)
    refine Gu ?_
    exact⟨[BL false],[],G,O,⟨⟨_,O,.conv (.same O)⟩,G⟩,O,congrArg (fun r:Bool=>(BL r:AV)) (Option.some.inj h)⟩
   ·
    replace h:=Hp hb h
    refine Gj ?_
    refine hK32 _ _ ?_
    refine G3 ?_
    refine JLg (G0 ((i29+1:Nat):Int)) (Ht (Hc hk29 hm16) O O O) ?_
    refine JLg (G0 ((i29+1:Nat):Int)) (G7 O O) ?_
    refine G8 ?_
    exact e29 _ _ (i29+1) () (app1 hn29 h) (by omega) ⟨⟨.same rfl,.same (H8 _ _ eq_d),.same rfl,.same rfl,.same rfl,G⟩,G,rfl⟩
  ·
   have h:=app1 hkx29 (Ho hi29 (H3 hb))
   refine Hk ?_
   refine hK5 _ _ ?_
   refine G6 fun K40 hK40=>G3 ?_
   refine JLg (BL true) (G9 O O) ?_
   refine G8 (hK40 _ _ ?_)
   refine Gu ?_
   exact⟨[BL true],[],G,O,⟨⟨_,O,.conv (.same O)⟩,G⟩,O,congrArg (fun r:Bool=>(BL r:AV)) (Option.some.inj h)⟩

def M_plan_Check_1 (x:G2) (id_:Int):Option Bool:=
 some (decide (x.Gp=id_))
theorem M_plan_Check_1_w (x:G2) (id_:Int) (r:Bool) (h:M_plan_Check_1 x id_=some r):Pure Tryz.prog 33 [.agg (G2.cs x),G0 id_] (·=BL r):=by
 unfold M_plan_Check_1 at h
 refine H9 [.tmp 4] Tryz.func33 O O ?_
 refine G6 fun K1 hK1=>G3 ?_
 refine JLg (.ptr 1109 0) (Q1 (u:=.agg (G2.cs x)) (cs:=[G0 x.Gp,G0 x.Slot.G5,G0 x.Slot.Tier,U8 x.Slot.Half]) 1109 O O O O O) ?_
 refine JLg (BL false) (G9 O O) ?_
 refine G8 (hK1 _ _ ?_)
 refine Gk [(1,G0 id_),(2,Ef x)] [] 1109 rfl rfl rfl G rfl (by exact⟨.conv (.same rfl),.ptr,G⟩) ?_
 refine G6 fun K2 hK2=>G3 ?_
 refine JLg (Ef x) (Gc J5 O O O) ?_
 refine JLg (G0 x.Gp) (Gf Gb O O O) ?_
 refine JLg (G0 id_) (G7 O O) ?_
 refine JLg (BL (decide (x.Gp=id_))) (Qb O O O) ?_
 refine JLg (BL (decide (x.Gp=id_))) (G9 O O) ?_
 refine G8 (hK2 _ _ ?_)
 refine Gu ?_
 exact⟨[BL (decide (x.Gp=id_))],[],G,O,⟨⟨_,O,.conv (.same O)⟩,G⟩,O,congrArg (fun r:Bool=>(BL r:AV)) (Option.some.inj h)⟩

def M_plan_Check (s:Gz) (boxes:List Gp) (calls:Int) (p:Plan):Option (Int×Int):=
 bnd (S_ship_Right s) fun r4=>
 bif (!r4) then
 (some (0,2))
 else
 (bnd (M_plan_Boxes boxes calls) fun r7=>
  bif (!r7) then
  (some (0,230))
  else
  (bif decide ((p.States.length:Int)≠calls) then
   (some (0,231))
   else
   (each (fun y45 i45 (s45:Unit) nx45=>
     bnd (M_stow_Right s boxes y45) fun r52=>
     bif (!r52) then
     (some ((i45:Int),232))
     else
     (bnd (M_plan_Aboard boxes (i45:Int)) fun r55=>
      bnd (M_slices_EqualFunc_int y45 r55 (fun z0 z1=>M_plan_Check_1 z0 z1)) fun r56=>
      bif (!r56) then
      (some ((i45:Int),233))
      else
      (nx45 ())))
    (fun(s45:Unit)=>
     some (0,0)) p.States 0 ())))
theorem M_plan_Check_w (s:Gz) (boxes:List Gp) (calls:Int) (p:Plan) (r:Int×Int) (h:M_plan_Check s boxes calls p=some r):Pure Tryz.prog 15 [.agg (Gz.cs s),E2 boxes,G0 calls,.agg [LS 1 (E0) p.States,LS 1 (E1) p.Water]] (·=.tup [G0 r.1,G0 r.2]):=by
 unfold M_plan_Check at h
 refine H9 [.tmp 8,.tmp 9] Tryz.func15 O O ?_
 refine G6 fun K1 hK1=>G3 ?_
 refine JLg (.ptr 1054 0) (Q1 (u:=.agg (Gz.cs s)) (cs:=(Gz.cs s)) 1054 O O O O O) ?_
 refine JLg (.ptr 1055 0) (Q1 (u:=.agg [LS 1 (E0) p.States,LS 1 (E1) p.Water]) (cs:=[LS 1 (E0) p.States,LS 1 (E1) p.Water]) 1055 O O O O O) ?_
 refine JLg (G0 0) (G9 O O) ?_
 refine JLg (G0 0) (G9 O O) ?_
 refine G8 (hK1 _ _ ?_)
 refine Gk [(1,E2 boxes),(2,G0 calls),(4,Ee s),(7,.ptr 1055 0)] [(1055,.box 41 [LS 1 (E0) p.States,LS 1 (E1) p.Water])] 1054 rfl rfl rfl ⟨⟨_,rfl,.boxEq rfl rfl⟩,G⟩ rfl (by repeat' (first | exact .ptr | constructor)) ?_
 refine Gk [(1,E2 boxes),(2,G0 calls),(4,Ee s),(7,.dptr [LS 1 (E0) p.States,LS 1 (E1) p.Water])] [] 1055 rfl rfl rfl G rfl (by repeat' (first | exact .ptr | constructor)) ?_
 refine G6 (fun K2 hK2=>?_)
 refine Gg ?_
 refine G6 fun K3 hK3=>G3 ?_
 refine JLg (.agg (Gz.cs s)) (Gi J0 O O O) ?_
 obtain⟨r4,hr4,h⟩:=Ge h
 refine JLg (BL r4) (H1 (args:=[.agg (Gz.cs s)]) O (S_ship_Right_w.down s r4 hr4) tf_call_29 ⟨O,O,G⟩) ?_
 refine JLg (BL (!r4)) (Rj (b:=r4) O O) ?_
 refine JLg (BL (!r4)) (G9 O O) ?_
 refine G8 (hK3 _ _ ?_)
 refine Gh O (fun hb=>?_) (fun hb=>?_)
 ·
  replace h:=Gv hb h
  refine G6 fun K5 hK5=>G3 ?_
  refine JLg (G0 0) (G9 O O) ?_
  refine JLg (G0 2) (G9 O O) ?_
  refine G8 (hK5 _ _ ?_)
  refine Gu ?_
  exact⟨[G0 0,G0 2],[],G,O,⟨⟨_,O,.conv (.same O)⟩,⟨_,O,.conv (.same O)⟩,G⟩,O,congrArg (fun r:Int×Int=>(.tup [G0 r.1,G0 r.2]:AV)) (Option.some.inj h)⟩
 ·
  replace h:=Hp hb h
  refine G6 fun K6 hK6=>G3 ?_
  refine JLg (E2 boxes) (G7 O O) ?_
  refine JLg (G0 calls) (G7 O O) ?_
  obtain⟨r7,hr7,h⟩:=Ge h
  refine JLg (BL r7) (H1 (args:=[E2 boxes,G0 calls]) O (M_plan_Boxes_w boxes calls r7 hr7) tf_call_30 ⟨O,O,O,O,G⟩) ?_
  refine JLg (BL (!r7)) (Rj (b:=r7) O O) ?_
  refine JLg (BL (!r7)) (G9 O O) ?_
  refine G8 (hK6 _ _ ?_)
  refine Gh O (fun hb=>?_) (fun hb=>?_)
  ·
   replace h:=Gv hb h
   refine G6 fun K8 hK8=>G3 ?_
   refine JLg (G0 0) (G9 O O) ?_
   refine JLg (G0 230) (G9 O O) ?_
   refine G8 (hK8 _ _ ?_)
   refine Gu ?_
   exact⟨[G0 0,G0 230],[],G,O,⟨⟨_,O,.conv (.same O)⟩,⟨_,O,.conv (.same O)⟩,G⟩,O,congrArg (fun r:Int×Int=>(.tup [G0 r.1,G0 r.2]:AV)) (Option.some.inj h)⟩
  ·
   replace h:=Hp hb h
   refine G6 fun K9 hK9=>G3 ?_
   refine JLg (.dptr [LS 1 (E0) p.States,LS 1 (E1) p.Water]) (Gc Qy O O O) ?_
   refine JLg (LS 1 (E0) p.States) (Gf Qk O O O) ?_
   refine Hs (f:=(E0)) (xs:=p.States) Ja O O (fun hm24=>?_) O O O
   refine JLg (G0 calls) (G7 O O) ?_
   refine JLg (BL (decide ((p.States.length:Int)≠calls))) (Yy O O O) ?_
   refine JLg (BL (decide ((p.States.length:Int)≠calls))) (G9 O O) ?_
   refine G8 (hK9 _ _ ?_)
   refine Gh O (fun hb=>?_) (fun hb=>?_)
   ·
    replace h:=Gv hb h
    refine G6 fun K10 hK10=>G3 ?_
    refine JLg (G0 0) (G9 O O) ?_
    refine JLg (G0 231) (G9 O O) ?_
    refine G8 (hK10 _ _ ?_)
    refine Gu ?_
    exact⟨[G0 0,G0 231],[],G,O,⟨⟨_,O,.conv (.same O)⟩,⟨_,O,.conv (.same O)⟩,G⟩,O,congrArg (fun r:Int×Int=>(.tup [G0 r.1,G0 r.2]:AV)) (Option.some.inj h)⟩
   ·
    replace h:=Hp hb h
    refine Gj ?_
    refine hK2 _ _ ?_
    refine G6 (fun K11 hK11=>?_)
    refine G6 fun K12 hK12=>G3 ?_
    refine JLg (.dptr [LS 1 (E0) p.States,LS 1 (E1) p.Water]) (Gc Qy O O O) ?_
    refine JLg (LS 1 (E0) p.States) (Gf Qk O O O) ?_
    refine Hs (f:=(E0)) (xs:=p.States) Ja O O (fun hm29=>?_) O O O
    refine JLg (G0 0) (G7 O O) ?_
    refine G8 (hK12 _ _ ?_)
    refine Gg ?_
    obtain⟨b45,kx45,hb45,hkx45,h⟩:=Hu h
    refine H7 (fun i45 (s45:Unit)=>each b45 kx45 (List.drop i45 p.States) i45 s45=some r) (fun i45 s45=>[(1,E2 boxes),(4,Ee s),(28,LS 1 (E0) p.States),(29,Em p.States.length),(30,Em i45)]) (fun i45 s45=>[]) (fun i45=>p.States.length - i45) 0 () h ⟨(by repeat' constructor),G,rfl⟩ ?_
    clear h
    intro i45 s45 hi45 K45 e45
    refine G6 fun K46 hK46=>G3 ?_
    refine JLg (BL (decide ((i45:Int) < (p.States.length:Int)))) (Hy O O O) ?_
    refine G8 (hK46 _ _ ?_)
    refine G6 (fun K47 hK47=>?_)
    refine Gh O (fun hb=>?_) (fun hb=>?_)
    ·
     have hk45:=J9 hb
     obtain⟨y45,nx45,hy45,hn45,h⟩:=Hn hi45 hk45
     replace h:=app4 hb45 h
     refine Gj ?_
     refine hK47 _ _ ?_
     refine G6 (fun K48 hK48=>?_)
     refine Gg ?_
     refine G6 fun K49 hK49=>G3 ?_
     refine JLg (Em i45) (G7 O O) ?_
     refine JLg (.dptr [E0 y45]) (H0 (f:=(E0)) (xs:=p.States) (y:=y45) O O O Ja hy45 O) ?_
     refine JLg (E0 y45) (Gf Qc O O O) ?_
     refine JLg (Em i45) (G9 O O) ?_
     refine JLg (E0 y45) (G9 O O) ?_
     refine G8 (hK49 _ _ ?_)
     refine G6 (fun K50 hK50=>?_)
     refine G6 fun K51 hK51=>G3 ?_
     refine JLg (.agg (Gz.cs s)) (Gi J0 O O O) ?_
     refine JLg (E2 boxes) (G7 O O) ?_
     refine JLg (E0 y45) (G7 O O) ?_
     obtain⟨r52,hr52,h⟩:=Ge h
     refine JLg (BL r52) (H1 (args:=[.agg (Gz.cs s),E2 boxes,E0 y45]) O (M_stow_Right_w s boxes y45 r52 hr52) tf_call_18 ⟨O,O,O,O,O,O,G⟩) ?_
     refine JLg (BL (!r52)) (Rj (b:=r52) O O) ?_
     refine G8 (hK51 _ _ ?_)
     refine Gh O (fun hb=>?_) (fun hb=>?_)
     ·
      replace h:=Gv hb h
      refine G6 fun K53 hK53=>G3 ?_
      refine JLg (Em i45) (G7 O O) ?_
      refine JLg (Em i45) (G9 O O) ?_
      refine JLg (G0 232) (G9 O O) ?_
      refine G8 (hK53 _ _ ?_)
      refine Gu ?_
      exact⟨[Em i45,G0 232],[],G,O,⟨⟨_,O,.conv (.same O)⟩,⟨_,O,.conv (.same O)⟩,G⟩,O,congrArg (fun r:Int×Int=>(.tup [G0 r.1,G0 r.2]:AV)) (Option.some.inj h)⟩
     ·
      replace h:=Hp hb h
      refine Gj ?_
      refine hK50 _ _ ?_
      refine G6 fun K54 hK54=>G3 ?_
      refine JLg (E0 y45) (G7 O O) ?_
      refine JLg (E2 boxes) (G7 O O) ?_
      refine JLg (Em i45) (G7 O O) ?_
      obtain⟨r55,hr55,h⟩:=Ge h
      refine JLg (E1 r55) (H1 (args:=[E2 boxes,Em i45]) O (M_plan_Aboard_w boxes (i45:Int) r55 hr55) tf_call_32 ⟨O,O,O,O,G⟩) ?_
      obtain⟨r56,hr56,h⟩:=Ge h
      refine JLg (BL r56) (H1 (args:=[E0 y45,E1 r55,.fn 33 []]) O (M_slices_EqualFunc_int_w y45 r55 (fun z0 z1=>M_plan_Check_1 z0 z1) 33 [] tf_call_33 O (fun z0 z1 q hq=>M_plan_Check_1_w z0 z1 q hq) r56 hr56) tf_call_31 ⟨O,O,O,O,O,O,G⟩) ?_
      refine JLg (BL (!r56)) (Rj (b:=r56) O O) ?_
      refine G8 (hK54 _ _ ?_)
      refine Gh O (fun hb=>?_) (fun hb=>?_)
      ·
       replace h:=Gv hb h
       refine G6 fun K57 hK57=>G3 ?_
       refine JLg (Em i45) (G7 O O) ?_
       refine JLg (Em i45) (G9 O O) ?_
       refine JLg (G0 233) (G9 O O) ?_
       refine G8 (hK57 _ _ ?_)
       refine Gu ?_
       exact⟨[Em i45,G0 233],[],G,O,⟨⟨_,O,.conv (.same O)⟩,⟨_,O,.conv (.same O)⟩,G⟩,O,congrArg (fun r:Int×Int=>(.tup [G0 r.1,G0 r.2]:AV)) (Option.some.inj h)⟩
      ·
       replace h:=Hp hb h
       refine Gj ?_
       refine hK48 _ _ ?_
       refine G3 ?_
       refine JLg (G0 ((i45+1:Nat):Int)) (Ht (Hc hk45 hm29) O O O) ?_
       refine JLg (G0 ((i45+1:Nat):Int)) (G7 O O) ?_
       refine G8 ?_
       exact e45 _ _ (i45+1) () (app1 hn45 h) (by omega) ⟨(by repeat' constructor),G,rfl⟩
    ·
     have h:=app1 hkx45 (Ho hi45 (H3 hb))
     refine Hk ?_
     refine hK11 _ _ ?_
     refine G6 fun K58 hK58=>G3 ?_
     refine JLg (G0 0) (G9 O O) ?_
     refine JLg (G0 0) (G9 O O) ?_
     refine G8 (hK58 _ _ ?_)
     refine Gu ?_
     exact⟨[G0 0,G0 0],[],G,O,⟨⟨_,O,.conv (.same O)⟩,⟨_,O,.conv (.same O)⟩,G⟩,O,congrArg (fun r:Int×Int=>(.tup [G0 r.1,G0 r.2]:AV)) (Option.some.inj h)⟩

def M_plan_steps (p:Plan):Option Unit:=
 some ()
theorem M_plan_steps_w (p:Plan) (r:Unit) (h:M_plan_steps p=some r):Pure Tryz.prog 35 [.agg [LS 1 (E0) p.States,LS 1 (E1) p.Water]] (·=.fn 62 [.dptr [LS 1 (E0) p.States,LS 1 (E1) p.Water]]):=by
 unfold M_plan_steps at h
 refine H9 [.tmp 2] Tryz.func35 O O ?_
 refine G6 fun K1 hK1=>G3 ?_
 refine JLg (.ptr 1113 0) (Q1 (u:=.agg [LS 1 (E0) p.States,LS 1 (E1) p.Water]) (cs:=[LS 1 (E0) p.States,LS 1 (E1) p.Water]) 1113 O O O O O) ?_
 refine JLg (.sc .nilFunc) (G9 O O) ?_
 refine G8 (hK1 _ _ ?_)
 refine Gk [(1,.dptr [LS 1 (E0) p.States,LS 1 (E1) p.Water])] [] 1113 rfl rfl rfl G rfl (by exact⟨.ptr,G⟩) ?_
 refine G6 fun K2 hK2=>G3 ?_
 refine JLg (.fn 62 [.dptr [LS 1 (E0) p.States,LS 1 (E1) p.Water]]) (R4 (cs:=[.dptr [LS 1 (E0) p.States,LS 1 (E1) p.Water]]) O O) ?_
 refine JLg (.fn 62 [.dptr [LS 1 (E0) p.States,LS 1 (E1) p.Water]]) (G9 O O) ?_
 refine G8 (hK2 _ _ ?_)
 refine Gu ?_
 exact⟨[.fn 62 [.dptr [LS 1 (E0) p.States,LS 1 (E1) p.Water]]],[],G,O,⟨⟨_,O,.conv (.same O)⟩,G⟩,O,congrArg (fun _:Unit=>(.fn 62 [.dptr [LS 1 (E0) p.States,LS 1 (E1) p.Water]]:AV)) (Option.some.inj h)⟩

def M_plan_Restows_1 (id_:Int) (p1:List G2) (p2:List G2):Option Bool:=
 bnd (M_plan_find p1 id_) fun r3=>
 bnd (M_plan_find p2 id_) fun r5=>
 some ((!r3.2)||(!r5.2))
theorem M_plan_Restows_1_w (id_:Int) (p1:List G2) (p2:List G2) (r:Bool) (h:M_plan_Restows_1 id_ p1 p2=some r):Pure Tryz.prog 37 [G0 id_,.dptr [E0 p1],.dptr [E0 p2]] (·=BL r):=by
 unfold M_plan_Restows_1 at h
 refine H9 [.tmp 4] Tryz.func37 O O ?_
 refine G6 fun K1 hK1=>G3 ?_
 refine JLg (BL false) (G9 O O) ?_
 refine G8 (hK1 _ _ ?_)
 refine G6 fun K2 hK2=>G3 ?_
 refine JLg (E0 p1) (Gf Qc O O O) ?_
 refine JLg (G0 id_) (G7 O O) ?_
 obtain⟨r3,hr3,h⟩:=Ge h
 refine JLg (.tup [.agg (Slot.cs r3.1),BL r3.2]) (H1 (args:=[E0 p1,G0 id_]) O (M_plan_find_w p1 id_ r3 hr3) Yq ⟨O,O,O,O,G⟩) ?_
 refine JLg (.tup [.agg (Slot.cs r3.1),BL r3.2]) (G7 O O) ?_
 refine JLg (.agg (Slot.cs r3.1)) (Hq O O O) ?_
 refine JLg (BL r3.2) (Hq O O O) ?_
 refine JLg (.ptr 1115 0) (Hi 1115 3 Qz O O) ?_
 refine Hj (u:=.junk) (H2 (u:=.agg (Slot.cs r3.1)) (ds:=[G0 r3.1.G5,G0 r3.1.Tier,U8 r3.1.Half]) R8 O O O O O O O O) ?_
 refine JLg (BL r3.2) (G9 O O) ?_
 refine G8 (hK2 _ _ ?_)
 refine Gk [(0,G0 id_),(2,.dptr [E0 p2]),(6,BL r3.2)] [] 1115 rfl rfl rfl G rfl (by exact⟨.conv (.same rfl),.conv (.same rfl),.conv (.same rfl),G⟩) ?_
 refine G6 fun K4 hK4=>G3 ?_
 refine JLg (E0 p2) (Gf Qc O O O) ?_
 refine JLg (G0 id_) (G7 O O) ?_
 obtain⟨r5,hr5,h⟩:=Ge h
 refine JLg (.tup [.agg (Slot.cs r5.1),BL r5.2]) (H1 (args:=[E0 p2,G0 id_]) O (M_plan_find_w p2 id_ r5 hr5) Yq ⟨O,O,O,O,G⟩) ?_
 refine JLg (.tup [.agg (Slot.cs r5.1),BL r5.2]) (G7 O O) ?_
 refine JLg (.agg (Slot.cs r5.1)) (Hq O O O) ?_
 refine JLg (BL r5.2) (Hq O O O) ?_
 refine JLg (.ptr 1116 0) (Hi 1116 3 Qz O O) ?_
 refine Hj (u:=.junk) (H2 (u:=.agg (Slot.cs r5.1)) (ds:=[G0 r5.1.G5,G0 r5.1.Tier,U8 r5.1.Half]) R8 O O O O O O O O) ?_
 refine JLg (BL r5.2) (G9 O O) ?_
 refine G8 (hK4 _ _ ?_)
 refine Gk [(6,BL r3.2),(8,BL r5.2)] [] 1116 rfl rfl rfl G rfl (by exact⟨.conv (.same rfl),.conv (.same rfl),G⟩) ?_
 refine G6 fun K6 hK6=>G3 ?_
 refine JLg (BL r3.2) (G7 O O) ?_
 refine JLg (BL (!r3.2)) (Rj (b:=r3.2) O O) ?_
 refine JLg (BL (!r3.2)) (G7 O O) ?_
 refine Gd (u:=BL r5.2) [] O O O .scf G (fun hc=>G7 O O) ?_
 refine Gd (u:=BL (!r5.2)) [(24,BL r5.2)] O O O .scf ⟨.all id,G⟩ (fun hc=>Rj (b:=r5.2) O O) ?_
 refine JLg (BL ((!r3.2)||(!r5.2))) (Y4 O O O O) ?_
 refine JLg (BL ((!r3.2)||(!r5.2))) (G9 O O) ?_
 refine G8 (hK6 _ _ ?_)
 refine Gu ?_
 exact⟨[BL ((!r3.2)||(!r5.2))],[],G,O,⟨⟨_,O,.conv (.same O)⟩,G⟩,O,congrArg (fun r:Bool=>(BL r:AV)) (Option.some.inj h)⟩

def M_slices_IndexFunc_int (s:List Int) (f:Int→Option Bool):Option Int:=
 each (fun y20 i20 (s20:Unit) nx20=>
  bnd (f y20) fun r26=>
  bif r26 then
  (some (i20:Int))
  else
  (nx20 ()))
 (fun(s20:Unit)=>
  some (-1)) s 0 ()
theorem M_slices_IndexFunc_int_w (s:List Int) (f:Int→Option Bool) (f_f:FuncId) (f_c:List AV) (f_B:Hb Tryz.prog f_f=true) (f_d:Qm (fun _=>false) f_c=true) (f_w:∀ a0 q,f a0=some q→Pure Tryz.prog f_f ([G0 a0]++f_c) (·=BL q)) (r:Int) (h:M_slices_IndexFunc_int s f=some r):Pure Tryz.prog 63 [E1 s,.fn f_f f_c] (·=G0 r):=by
 unfold M_slices_IndexFunc_int at h
 refine H9 [.tmp 4] Tryz.func63 O O ?_
 refine G6 fun K1 hK1=>G3 ?_
 refine JLg (G0 0) (G9 O O) ?_
 refine G8 (hK1 _ _ ?_)
 refine G6 (fun K2 hK2=>?_)
 refine G6 fun K3 hK3=>G3 ?_
 refine JLg (E1 s) (G7 O O) ?_
 refine Hs (f:=G0) (xs:=s) Gy O O (fun hm7=>?_) O O O
 refine JLg (G0 0) (G7 O O) ?_
 refine G8 (hK3 _ _ ?_)
 refine Gg ?_
 obtain⟨b20,kx20,hb20,hkx20,h⟩:=Hu h
 refine H7 (fun i20 (s20:Unit)=>each b20 kx20 (List.drop i20 s) i20 s20=some r) (fun i20 s20=>[(0,E1 s),(1,.fn f_f f_c),(7,Em s.length),(8,Em i20)]) (fun i20 s20=>[]) (fun i20=>s.length - i20) 0 () h ⟨⟨.same O,.same (H8 _ _ f_d),.same O,.same O,G⟩,G,O⟩ ?_
 clear h
 intro i20 s20 hi20 K20 e20
 refine G6 fun K21 hK21=>G3 ?_
 refine JLg (BL (decide ((i20:Int) < (s.length:Int)))) (Hy O O O) ?_
 refine G8 (hK21 _ _ ?_)
 refine G6 (fun K22 hK22=>?_)
 refine Gh O (fun hb=>?_) (fun hb=>?_)
 ·
  have hk20:=J9 hb
  obtain⟨y20,nx20,hy20,hn20,h⟩:=Hn hi20 hk20
  replace h:=app4 hb20 h
  refine Gj ?_
  refine hK22 _ _ ?_
  refine G6 (fun K23 hK23=>?_)
  refine Gg ?_
  refine G6 fun K24 hK24=>G3 ?_
  refine JLg (Em i20) (G7 O O) ?_
  refine JLg (Em i20) (G9 O O) ?_
  refine G8 (hK24 _ _ ?_)
  refine G6 fun K25 hK25=>G3 ?_
  refine JLg (.fn f_f f_c) (G7 O O) ?_
  refine JLg (E1 s) (G7 O O) ?_
  refine JLg (Em i20) (G7 O O) ?_
  refine JLg (.dptr [G0 y20]) (H0 (f:=G0) (xs:=s) (y:=y20) O O O Gy hy20 O) ?_
  refine JLg (G0 y20) (Gf Gb O O O) ?_
  obtain⟨r26,hr26,h⟩:=Ge h
  refine JLg (BL r26) (Rk (args:=[G0 y20]) (caps:=f_c) O O (f_w y20 _ hr26) f_B ⟨O,O,G⟩ f_d) ?_
  refine G8 (hK25 _ _ ?_)
  refine Gh O (fun hb=>?_) (fun hb=>?_)
  ·
   replace h:=Gv hb h
   refine G6 fun K27 hK27=>G3 ?_
   refine JLg (Em i20) (G7 O O) ?_
   refine JLg (Em i20) (G9 O O) ?_
   refine G8 (hK27 _ _ ?_)
   refine Gu ?_
   exact⟨[Em i20],[],G,O,⟨⟨_,O,.conv (.same O)⟩,G⟩,O,congrArg (fun r:Int=>(G0 r:AV)) (Option.some.inj h)⟩
  ·
   replace h:=Hp hb h
   refine Gj ?_
   refine hK23 _ _ ?_
   refine G3 ?_
   refine JLg (G0 ((i20+1:Nat):Int)) (Ht (Hc hk20 hm7) O O O) ?_
   refine JLg (G0 ((i20+1:Nat):Int)) (G7 O O) ?_
   refine G8 ?_
   exact e20 _ _ (i20+1) () (app1 hn20 h) (by omega) ⟨⟨.same rfl,.same (H8 _ _ f_d),.same rfl,.same rfl,G⟩,G,rfl⟩
 ·
  have h:=app1 hkx20 (Ho hi20 (H3 hb))
  refine Hk ?_
  refine hK2 _ _ ?_
  refine G6 fun K28 hK28=>G3 ?_
  refine JLg (G0 (-1)) (G9 O O) ?_
  refine G8 (hK28 _ _ ?_)
  refine Gu ?_
  exact⟨[G0 (-1)],[],G,O,⟨⟨_,O,.conv (.same O)⟩,G⟩,O,congrArg (fun r:Int=>(G0 r:AV)) (Option.some.inj h)⟩


theorem M_plan_lifted_n (F:Nat) (s:Gz) (before:List G2) (after:List G2) (r:(List Int)) (h:Q3 F s before after=some r):Jr Tryz.prog 19 [.agg (Gz.cs s),E0 before,E0 after] [] (fun av L'=>∃ p:Nat,av=.vec 1077 p 1 r.length∧L'=[(1077,.vec 3 1 p (r.map G0))]):=by
 unfold Q3 at h
 refine Ju [] [.tmp 6] Tryz.func19 O O (inAll O) ?_
 refine G6 fun K1 hK1=>G3 ?_
 refine JLg (.ptr 1067 0) (Q1 (u:=.agg (Gz.cs s)) (cs:=(Gz.cs s)) 1067 O O O O O) ?_
 refine JLg (.vec 1068 (([]:List Int).length) 1 (([]:List Int).length)) (A_vnil 1068 3 1 O O O) ?_
 refine G8 (hK1 _ _ ?_)
 refine Gk [(1,E0 before),(2,E0 after),(3,Ee s)] [(1068,.vec 3 1 (([]:List Int).length) (([]:List Int).map G0))] 1067 rfl rfl rfl ⟨⟨_,rfl,.vec⟩,G⟩ rfl (by exact⟨.conv (.same rfl),.conv (.same rfl),.ptr,G⟩) ?_
 refine G6 fun K2 hK2=>G3 ?_
 refine JLg (E0 before) (G7 O O) ?_
 refine JLg (E0 after) (G7 O O) ?_
 refine JLg (LS 1 (E0) [before,after]) (Hd (xs:=[E0 before,E0 after]) O ⟨O,O,O,O,G⟩ Ja Ys O O O O) ?_
 refine JLg (.ptr 1069 0) (Hi 1069 1 tf_zsize_38 O O) ?_
 refine Hj (u:=.junk) (H2 (u:=LS 1 (E0) [before,after]) (ds:=[LS 1 (E0) [before,after]]) tf_size_38 O O O O O O O O) ?_
 refine G8 (hK2 _ _ ?_)
 refine Gk [(1,E0 before),(2,E0 after),(3,Ee s),(7,.dptr [LS 1 (E0) [before,after]])] [(1068,.vec 3 1 (([]:List Int).length) (([]:List Int).map G0))] 1069 rfl rfl rfl ⟨⟨_,rfl,.vec⟩,G⟩ rfl (by repeat' (first | exact .ptr | constructor)) ?_
 refine G6 fun K3 hK3=>G3 ?_
 refine JLg (.mp 1076) (Rt 1076 (fun n:Int=>Value.int .i64 n) (fun _:Unit=>.agg []) O O) ?_
 refine JLg (.ptr 1070 0) (Hi 1070 1 tf_zsize_123 O O) ?_
 refine Hj (u:=.junk) (H2 (u:=.mp 1076) (ds:=[.mp 1076]) tf_size_123 O O O O O O O O) ?_
 refine G8 (hK3 _ _ ?_)
 refine G6 fun K4 hK4=>G3 ?_
 refine JLg (.ptr 1071 0) (Y1 1071 [.sc (.slice none 0 0)] [.slice none 0 0] tf_zero_52 ⟨.inl O,G⟩ O O) ?_
 refine JL_vecCell 1071 0 1077 3 1 O O O (cs':=[.vec 1077 (([]:List Int).length) 1 (([]:List Int).length)]) O ?_
 refine G8 (hK4 _ _ ?_)
 refine G6 fun K5 hK5=>G3 ?_
 refine JLg (.ptr 1072 0) (Hi 1072 1 tf_zsize_124 O O) ?_
 refine G8 (hK5 _ _ ?_)
 refine G6 fun K6 hK6=>G3 ?_
 refine JLg (.fn 45 [.ptr 1070 0,.ptr 1071 0,.dptr [LS 1 (E0) [before,after]],Ee s,.ptr 1072 0]) (R4 (cs:=[.ptr 1070 0,.ptr 1071 0,.dptr [LS 1 (E0) [before,after]],Ee s,.ptr 1072 0]) O O) ?_
 refine Hj (u:=.junk) (H2 (u:=.fn 45 [.ptr 1070 0,.ptr 1071 0,.dptr [LS 1 (E0) [before,after]],Ee s,.ptr 1072 0]) (ds:=[.fn 45 [.ptr 1070 0,.ptr 1071 0,.dptr [LS 1 (E0) [before,after]],Ee s,.ptr 1072 0]]) tf_size_124 O O O O O O O O) ?_
 refine G8 (hK6 _ _ ?_)
 refine G6 (fun K7 hK7=>?_)
 refine G6 fun K8 hK8=>G3 ?_
 refine JLg (LS 1 (E0) [before,after]) (Gf Qk O O O) ?_
 refine Hs (f:=(E0)) (xs:=[before,after]) Ja O O (fun hm25=>?_) O O O
 refine JLg (G0 0) (G7 O O) ?_
 refine G8 (hK8 _ _ ?_)
 refine Gg ?_
 obtain⟨b9,kx9,hb9,hkx9,h⟩:=Hu h
 refine H7 (fun i9 (s9:(Gr Int Unit)×(List Int))=>each b9 kx9 (List.drop i9 [before,after]) i9 s9=some r) (fun i9 s9=>[(1,E0 before),(2,E0 after),(9,.ptr 1071 0),(10,.ptr 1072 0),(24,LS 1 (E0) [before,after]),(25,G0 ([before,after].length:Int)),(26,Em i9)]) (fun i9 s9=>[(1068,.vec 3 1 (([]:List Int).length) (([]:List Int).map G0)),(1076,MP 123 (fun n:Int=>Value.int .i64 n) (fun _:Unit=>.agg []) s9.1),(1077,.vec 3 1 s9.2.length (s9.2.map G0)),(1070,.box 123 [.mp 1076]),(1071,.box 52 [.vec 1077 s9.2.length 1 s9.2.length]),(1072,.box 124 [.fn 45 [.ptr 1070 0,.ptr 1071 0,.dptr [LS 1 (E0) [before,after]],Ee s,.ptr 1072 0]])]) (fun i9=>[before,after].length - i9) 0 ((Gr.empty:Gr Int Unit),[]) h ⟨(by repeat' constructor),⟨⟨_,rfl,.vec⟩,⟨_,rfl,.map⟩,⟨_,rfl,.vec⟩,⟨_,rfl,.boxL rfl ⟨.same rfl,G⟩⟩,⟨_,rfl,.boxL rfl ⟨.same rfl,G⟩⟩,⟨_,rfl,.boxL rfl ⟨.same rfl,G⟩⟩,G⟩,rfl⟩ ?_
 clear h
 intro i9 s9 hi9 K9 e9
 refine G6 fun K10 hK10=>G3 ?_
 refine JLg (BL (decide ((i9:Int) < ([before,after].length:Int)))) (Hy O O O) ?_
 refine G8 (hK10 _ _ ?_)
 refine G6 (fun K11 hK11=>?_)
 refine Gh O (fun hb=>?_) (fun hb=>?_)
 ·
  have hk9:=J9 hb
  obtain⟨y9,nx9,hy9,hn9,h⟩:=Hn hi9 hk9
  replace h:=app4 hb9 h
  refine Gj ?_
  refine hK11 _ _ ?_
  refine G6 (fun K12 hK12=>?_)
  refine Gg ?_
  refine G6 fun K13 hK13=>G3 ?_
  refine JLg (.dptr [E0 y9]) (H0 (f:=(E0)) (xs:=[before,after]) (y:=y9) O O O Ja hy9 O) ?_
  refine JLg (E0 y9) (Gf Qc O O O) ?_
  refine JLg (E0 y9) (G9 O O) ?_
  refine G8 (hK13 _ _ ?_)
  refine G6 fun K14 hK14=>G3 ?_
  refine JLg (E0 y9) (G7 O O) ?_
  refine Hs (f:=G2.av) (xs:=y9) Gx O O (fun hm31=>?_) O O O
  refine JLg (G0 0) (G7 O O) ?_
  refine G8 (hK14 _ _ ?_)
  refine Gg ?_
  obtain⟨b59,kx59,hb59,hkx59,h⟩:=Hu h
  refine H7 (fun i59 (s59:(Gr Int Unit)×(List Int))=>each b59 kx59 (List.drop i59 y9) i59 s59=some r) (fun i59 s59=>[(1,E0 before),(2,E0 after),(9,.ptr 1071 0),(10,.ptr 1072 0),(24,LS 1 (E0) [before,after]),(25,G0 ([before,after].length:Int)),(26,Em i9),(30,E0 y9),(31,Em y9.length),(32,Em i59)]) (fun i59 s59=>[(1068,.vec 3 1 (([]:List Int).length) (([]:List Int).map G0)),(1076,MP 123 (fun n:Int=>Value.int .i64 n) (fun _:Unit=>.agg []) s59.1),(1077,.vec 3 1 s59.2.length (s59.2.map G0)),(1070,.box 123 [.mp 1076]),(1071,.box 52 [.vec 1077 s59.2.length 1 s59.2.length]),(1072,.box 124 [.fn 45 [.ptr 1070 0,.ptr 1071 0,.dptr [LS 1 (E0) [before,after]],Ee s,.ptr 1072 0]])]) (fun i59=>y9.length - i59) 0 (s9.1,s9.2) h ⟨(by repeat' constructor),⟨⟨_,rfl,.vec⟩,⟨_,rfl,.map⟩,⟨_,rfl,.vec⟩,⟨_,rfl,.boxL rfl ⟨.same rfl,G⟩⟩,⟨_,rfl,.boxL rfl ⟨.same rfl,G⟩⟩,⟨_,rfl,.boxL rfl ⟨.same rfl,G⟩⟩,G⟩,rfl⟩ ?_
  clear h
  intro i59 s59 hi59 K59 e59
  refine G6 fun K60 hK60=>G3 ?_
  refine JLg (BL (decide ((i59:Int) < (y9.length:Int)))) (Hy O O O) ?_
  refine G8 (hK60 _ _ ?_)
  refine G6 (fun K61 hK61=>?_)
  refine Gh O (fun hb=>?_) (fun hb=>?_)
  ·
   have hk59:=J9 hb
   obtain⟨y59,nx59,hy59,hn59,h⟩:=Hn hi59 hk59
   replace h:=app4 hb59 h
   refine Gj ?_
   refine hK61 _ _ ?_
   obtain⟨kj62,hkj62,h⟩:=Qd h
   refine Jq (fun j62:(Gr Int Unit)×(List Int)=>kj62 j62=some r) (fun j62=>[(1,E0 before),(2,E0 after),(9,.ptr 1071 0),(10,.ptr 1072 0),(24,LS 1 (E0) [before,after]),(25,G0 ([before,after].length:Int)),(26,Em i9),(30,E0 y9),(31,Em y9.length),(32,Em i59)]) (fun j62=>[(1068,.vec 3 1 (([]:List Int).length) (([]:List Int).map G0)),(1076,MP 123 (fun n:Int=>Value.int .i64 n) (fun _:Unit=>.agg []) j62.1),(1077,.vec 3 1 j62.2.length (j62.2.map G0)),(1070,.box 123 [.mp 1076]),(1071,.box 52 [.vec 1077 j62.2.length 1 j62.2.length]),(1072,.box 124 [.fn 45 [.ptr 1070 0,.ptr 1071 0,.dptr [LS 1 (E0) [before,after]],Ee s,.ptr 1072 0]])]) (fun Kj62 ej62=>?_) ?_
   ·
    refine Gg ?_
    refine G6 fun K63 hK63=>G3 ?_
    refine JLg (Ef y59) (H0 (f:=G2.av) (xs:=y9) (y:=y59) O O O Gx hy59 O) ?_
    refine JLg (.agg (G2.cs y59)) (Gi Jf O O O) ?_
    refine JLg (.ptr 1073 0) (Hi 1073 4 Jb O O) ?_
    refine Hj (u:=.junk) (H2 (u:=.agg (G2.cs y59)) (ds:=[G0 y59.Gp,G0 y59.Slot.G5,G0 y59.Slot.Tier,U8 y59.Slot.Half]) Jz O O O O O O O O) ?_
    refine G8 (hK63 _ _ ?_)
    refine Gk [(1,E0 before),(2,E0 after),(9,.ptr 1071 0),(10,.ptr 1072 0),(14,Ef y59),(24,LS 1 (E0) [before,after]),(25,G0 ([before,after].length:Int)),(26,Em i9),(30,E0 y9),(31,Em y9.length),(32,Em i59)] [(1068,.vec 3 1 (([]:List Int).length) (([]:List Int).map G0)),(1076,MP 123 (fun n:Int=>Value.int .i64 n) (fun _:Unit=>.agg []) s59.1),(1077,.vec 3 1 s59.2.length (s59.2.map G0)),(1070,.box 123 [.mp 1076]),(1071,.box 52 [.vec 1077 s59.2.length 1 s59.2.length]),(1072,.box 124 [.fn 45 [.ptr 1070 0,.ptr 1071 0,.dptr [LS 1 (E0) [before,after]],Ee s,.ptr 1072 0]])] 1073 rfl rfl rfl ⟨⟨_,rfl,.vec⟩,⟨_,rfl,.map⟩,⟨_,rfl,.vec⟩,⟨_,rfl,.boxEq rfl rfl⟩,⟨_,rfl,.boxEq rfl rfl⟩,⟨_,rfl,.boxEq rfl rfl⟩,G⟩ rfl (by repeat' (first | exact .ptr | constructor)) ?_
    refine G6 fun K64 hK64=>G3 ?_
    refine JLg (E0 before) (G7 O O) ?_
    refine JLg (Ef y59) (Gc J5 O O O) ?_
    refine JLg (G0 y59.Gp) (Gf Gb O O O) ?_
    obtain⟨r65,hr65,h⟩:=Ge h
    refine JLg (.tup [.agg (Slot.cs r65.1),BL r65.2]) (H1 (args:=[E0 before,G0 y59.Gp]) O (M_plan_find_w before y59.Gp r65 hr65) Yq ⟨O,O,O,O,G⟩) ?_
    refine JLg (.tup [.agg (Slot.cs r65.1),BL r65.2]) (G7 O O) ?_
    refine JLg (.agg (Slot.cs r65.1)) (Hq O O O) ?_
    refine JLg (BL r65.2) (Hq O O O) ?_
    refine JLg (.ptr 1074 0) (Hi 1074 3 Qz O O) ?_
    refine Hj (u:=.junk) (H2 (u:=.agg (Slot.cs r65.1)) (ds:=[G0 r65.1.G5,G0 r65.1.Tier,U8 r65.1.Half]) R8 O O O O O O O O) ?_
    refine JLg (BL r65.2) (G9 O O) ?_
    refine G8 (hK64 _ _ ?_)
    refine Gk [(1,E0 before),(2,E0 after),(9,.ptr 1071 0),(10,.ptr 1072 0),(14,Ef y59),(15,Eg r65.1),(16,BL r65.2),(24,LS 1 (E0) [before,after]),(25,G0 ([before,after].length:Int)),(26,Em i9),(30,E0 y9),(31,Em y9.length),(32,Em i59)] [(1068,.vec 3 1 (([]:List Int).length) (([]:List Int).map G0)),(1076,MP 123 (fun n:Int=>Value.int .i64 n) (fun _:Unit=>.agg []) s59.1),(1077,.vec 3 1 s59.2.length (s59.2.map G0)),(1070,.box 123 [.mp 1076]),(1071,.box 52 [.vec 1077 s59.2.length 1 s59.2.length]),(1072,.box 124 [.fn 45 [.ptr 1070 0,.ptr 1071 0,.dptr [LS 1 (E0) [before,after]],Ee s,.ptr 1072 0]])] 1074 rfl rfl rfl ⟨⟨_,rfl,.vec⟩,⟨_,rfl,.map⟩,⟨_,rfl,.vec⟩,⟨_,rfl,.boxEq rfl rfl⟩,⟨_,rfl,.boxEq rfl rfl⟩,⟨_,rfl,.boxEq rfl rfl⟩,G⟩ rfl (by repeat' (first | exact .ptr | constructor)) ?_
    refine G6 fun K66 hK66=>G3 ?_
    refine JLg (E0 after) (G7 O O) ?_
    refine JLg (Ef y59) (Gc J5 O O O) ?_
    refine JLg (G0 y59.Gp) (Gf Gb O O O) ?_
    obtain⟨r67,hr67,h⟩:=Ge h
    refine JLg (.tup [.agg (Slot.cs r67.1),BL r67.2]) (H1 (args:=[E0 after,G0 y59.Gp]) O (M_plan_find_w after y59.Gp r67 hr67) Yq ⟨O,O,O,O,G⟩) ?_
    refine JLg (.tup [.agg (Slot.cs r67.1),BL r67.2]) (G7 O O) ?_
    refine JLg (.agg (Slot.cs r67.1)) (Hq O O O) ?_
    refine JLg (BL r67.2) (Hq O O O) ?_
    refine JLg (.ptr 1075 0) (Hi 1075 3 Qz O O) ?_
    refine Hj (u:=.junk) (H2 (u:=.agg (Slot.cs r67.1)) (ds:=[G0 r67.1.G5,G0 r67.1.Tier,U8 r67.1.Half]) R8 O O O O O O O O) ?_
    refine JLg (BL r67.2) (G9 O O) ?_
    refine G8 (hK66 _ _ ?_)
    refine Gk [(1,E0 before),(2,E0 after),(9,.ptr 1071 0),(10,.ptr 1072 0),(14,Ef y59),(15,Eg r65.1),(16,BL r65.2),(17,Eg r67.1),(18,BL r67.2),(24,LS 1 (E0) [before,after]),(25,G0 ([before,after].length:Int)),(26,Em i9),(30,E0 y9),(31,Em y9.length),(32,Em i59)] [(1068,.vec 3 1 (([]:List Int).length) (([]:List Int).map G0)),(1076,MP 123 (fun n:Int=>Value.int .i64 n) (fun _:Unit=>.agg []) s59.1),(1077,.vec 3 1 s59.2.length (s59.2.map G0)),(1070,.box 123 [.mp 1076]),(1071,.box 52 [.vec 1077 s59.2.length 1 s59.2.length]),(1072,.box 124 [.fn 45 [.ptr 1070 0,.ptr 1071 0,.dptr [LS 1 (E0) [before,after]],Ee s,.ptr 1072 0]])] 1075 rfl rfl rfl ⟨⟨_,rfl,.vec⟩,⟨_,rfl,.map⟩,⟨_,rfl,.vec⟩,⟨_,rfl,.boxEq rfl rfl⟩,⟨_,rfl,.boxEq rfl rfl⟩,⟨_,rfl,.boxEq rfl rfl⟩,G⟩ rfl (by repeat' (first | exact .ptr | constructor)) ?_
    refine G6 fun K68 hK68=>G3 ?_
    refine JLg (BL r65.2) (G7 O O) ?_
    refine JLg (BL r67.2) (G7 O O) ?_
    refine JLg (BL (!(r65.2==r67.2))) (A_neBool tf_bool_4 O O O) ?_
    refine JLg (BL (!(r65.2==r67.2))) (G7 O O) ?_
    refine Gd (u:=.agg (Slot.cs r65.1)) [] O O O .scf G (fun hc=>Gi Jp O O O) ?_
    refine Gd (u:=.agg (Slot.cs r67.1)) [] O O O .scf G (fun hc=>Gi Jp O O O) ?_
    refine Gd (u:=BL (!decide (r65.1=r67.1))) [(54,.agg (Slot.cs r65.1)),(55,.agg (Slot.cs r67.1))] O O O .scf ⟨.all id,.all id,G⟩ (fun hc=>A_neAgg (vs:=[.int .i64 r65.1.G5,.int .i64 r65.1.Tier,.int .u8 r65.1.Half]) (us:=[.int .i64 r67.1.G5,.int .i64 r67.1.Tier,.int .u8 r67.1.Half]) 4 O (tq_57 r65.1 r67.1) tf_aggof_57 tf_eqg_57 O O O) ?_
    refine JLg (BL ((!(r65.2==r67.2))||(!decide (r65.1=r67.1)))) (Y4 O O O O) ?_
    refine G8 (hK68 _ _ ?_)
    refine Gh O (fun hb=>?_) (fun hb=>?_)
    ·
     replace h:=Gv hb h
     refine G3 ?_
     refine JLg (.fn 45 [.ptr 1070 0,.ptr 1071 0,.dptr [LS 1 (E0) [before,after]],Ee s,.ptr 1072 0]) (Jx tf_scalar_124 O O O O) ?_
     refine JLg (Ef y59) (Gc J5 O O O) ?_
     refine JLg (G0 y59.Gp) (Gf Gb O O O) ?_
     obtain⟨r69,hr69,h⟩:=Ge h
     refine JLg (.tup []) (Yi (args:=[G0 y59.Gp]) (caps:=[.ptr 1070 0,.ptr 1071 0,.dptr [LS 1 (E0) [before,after]],Ee s,.ptr 1072 0]) (L0:=[(1070,.box 123 [.mp 1076]),(1076,MP 123 (fun n:Int=>Value.int .i64 n) (fun _:Unit=>.agg []) s59.1),(1071,.box 52 [.vec 1077 s59.2.length 1 s59.2.length]),(1077,.vec 3 1 s59.2.length (s59.2.map G0)),(1072,.box 124 [.fn 45 [.ptr 1070 0,.ptr 1071 0,.dptr [LS 1 (E0) [before,after]],Ee s,.ptr 1072 0]])]) (Lr:=[(1070,.box 123 [.mp 1076]),(1076,MP 123 (fun n:Int=>Value.int .i64 n) (fun _:Unit=>.agg []) r69.1),(1071,.box 52 [.vec 1077 r69.2.length 1 r69.2.length]),(1077,.vec 3 1 r69.2.length (r69.2.map G0)),(1072,.box 124 [.fn 45 [.ptr 1070 0,.ptr 1071 0,.dptr [LS 1 (E0) [before,after]],Ee s,.ptr 1072 0]])]) O O (M_plan_lifted_1_w F y59.Gp s59.1 s59.2 [before,after] s r69 hr69) tf_call_45 ⟨.inl O,O,G⟩ O ⟨O,O,O,O,O,G⟩ O O O) ?_
     refine G8 ?_
     exact ej62 _ _ (r69.1,r69.2) h ⟨(by repeat' constructor),⟨⟨_,rfl,.vec⟩,⟨_,rfl,.map⟩,⟨_,rfl,.vec⟩,⟨_,rfl,.boxL rfl ⟨.same rfl,G⟩⟩,⟨_,rfl,.boxL rfl ⟨.same rfl,G⟩⟩,⟨_,rfl,.boxL rfl ⟨.same rfl,G⟩⟩,G⟩,rfl⟩
    ·
     replace h:=Hp hb h
     refine Gj ?_
     exact ej62 _ _ (s59.1,s59.2) h ⟨(by repeat' constructor),⟨⟨_,rfl,.vec⟩,⟨_,rfl,.map⟩,⟨_,rfl,.vec⟩,⟨_,rfl,.boxL rfl ⟨.same rfl,G⟩⟩,⟨_,rfl,.boxL rfl ⟨.same rfl,G⟩⟩,⟨_,rfl,.boxL rfl ⟨.same rfl,G⟩⟩,G⟩,rfl⟩
   ·intro j62 h
    replace h:=app1 hkj62 h
    refine G3 ?_
    refine JLg (G0 ((i59+1:Nat):Int)) (Ht (Hc hk59 hm31) O O O) ?_
    refine JLg (G0 ((i59+1:Nat):Int)) (G7 O O) ?_
    refine G8 ?_
    exact e59 _ _ (i59+1) (j62.1,j62.2) (app1 hn59 h) (by omega) ⟨(by repeat' constructor),⟨⟨_,rfl,.vec⟩,⟨_,rfl,.map⟩,⟨_,rfl,.vec⟩,⟨_,rfl,.boxL rfl ⟨.same rfl,G⟩⟩,⟨_,rfl,.boxL rfl ⟨.same rfl,G⟩⟩,⟨_,rfl,.boxL rfl ⟨.same rfl,G⟩⟩,G⟩,rfl⟩
  ·
   have h:=app1 hkx59 (Ho hi59 (H3 hb))
   refine Hk ?_
   refine hK12 _ _ ?_
   refine G3 ?_
   refine JLg (G0 ((i9+1:Nat):Int)) (Ht (Hc hk9 hm25) O O O) ?_
   refine JLg (G0 ((i9+1:Nat):Int)) (G7 O O) ?_
   refine G8 ?_
   exact e9 _ _ (i9+1) (s59.1,s59.2) (app1 hn9 h) (by omega) ⟨(by repeat' constructor),⟨⟨_,rfl,.vec⟩,⟨_,rfl,.map⟩,⟨_,rfl,.vec⟩,⟨_,rfl,.boxL rfl ⟨.same rfl,G⟩⟩,⟨_,rfl,.boxL rfl ⟨.same rfl,G⟩⟩,⟨_,rfl,.boxL rfl ⟨.same rfl,G⟩⟩,G⟩,rfl⟩
 ·
  have h:=app1 hkx9 (Ho hi9 (H3 hb))
  refine Hk ?_
  refine hK7 _ _ ?_
  refine G6 fun K70 hK70=>G3 ?_
  refine JLg (.vec 1077 s9.2.length 1 s9.2.length) (Jx Qt O O O O) ?_
  obtain⟨r71,hr71,h⟩:=Ge h
  refine JLg (.tup []) (A_sortI (F:=49) (xs:=s9.2) (r:=r71) O sortILaw_49 sortINone_49 tf_call_49 O O O hr71 O) ?_
  refine G8 (hK70 _ _ ?_)
  refine G6 fun K72 hK72=>G3 ?_
  refine JLg (.vec 1077 s9.2.length 1 s9.2.length) (Jx Qt O O O O) ?_
  refine JLg (.vec 1077 s9.2.length 1 s9.2.length) (G9 O O) ?_
  refine G8 (hK72 _ _ ?_)
  refine JC_vlen 6 O O (fun hn_=>?_)
  refine Gu ?_
  obtain rfl:=Option.some.inj h
  exact⟨[.vec 1077 s9.2.length 1 s9.2.length],[(1077,.vec 3 1 s9.2.length (r71.map G0))],⟨⟨_,O,.vec⟩,G⟩,O,⟨⟨_,O,.conv (.same O)⟩,G⟩,s9.2.length,congrArg (fun n_:Nat=>(.vec 1077 s9.2.length 1 n_:AV)) (hn_.trans (List.length_map _)),O⟩

def M_slices_DeleteFunc_int (F:Nat) (s:List Int) (del:Int→Option Bool):Option (List Int):=
 bnd (M_slices_IndexFunc_int s del) fun r3=>
 bif decide (r3=(-1)) then
 (some s)
 else
 (chk (r3+1) fun v9=>
  loop (fun nx48 (s48:Int×Int×(List Int))=>
   bif decide (s48.2.1 < (s48.2.2.length:Int)) then
   (jp (fun kj51=>
     Jy s48.2.2 s48.2.1 fun y53=>
     bnd (del y53) fun r55=>
     bif (!r55) then
     (Jy s48.2.2 s48.1 fun y57=>
      chk (s48.1+1) fun v58=>
      kj51 (v58,(s48.2.2.set s48.1.toNat y53)))
     else
     (kj51 (s48.1,s48.2.2))) fun(j51:Int×(List Int))=>
    chk (s48.2.1+1) fun v59=>
    nx48 (j51.1,v59,j51.2))
   else
   (bnd (natIn s48.1 s48.2.2.length) fun m61=>
    bnd (natIn s48.1 (blank s48.2.2 m61 (s48.2.2.length - m61) 0).length) fun m63=>
    some ((blank s48.2.2 m61 (s48.2.2.length - m61) 0).take m63))) F (r3,v9,s))
theorem M_slices_DeleteFunc_int_p200010000 (F:Nat) (s:List Int) (s_q:Nat) (del:Int→Option Bool) (del_f:FuncId) (del_c:List AV) (del_B:Hb Tryz.prog del_f=true) (del_d:Qm (fun _=>false) del_c=true) (del_w:∀ a0 q,del a0=some q→Pure Tryz.prog del_f ([G0 a0]++del_c) (·=BL q)) (r:(List Int)) (h:M_slices_DeleteFunc_int F s del=some r):Jr Tryz.prog 36 [.vec 1077 s_q 1 s.length,.fn del_f del_c] [(1077,.vec 3 1 s_q (s.map G0))] (fun av L'=>∃ p:Nat,av=.vec 1077 p 1 r.length∧L'=[(1077,.vec 3 1 p (r.map G0))]):=by
 unfold M_slices_DeleteFunc_int at h
 refine Ju [1077] [.tmp 4] Tryz.func36 O O (inAll O) ?_
 refine G6 fun K1 hK1=>G3 ?_
 refine JLg (.vec 1114 (([]:List Int).length) 1 (([]:List Int).length)) (A_vnil 1114 3 1 O O O) ?_
 refine G8 (hK1 _ _ ?_)
 refine G6 fun K2 hK2=>G3 ?_
 refine JLg (.vec 1077 s_q 1 s.length) (G7 O O) ?_
 refine JLg (.fn del_f del_c) (G7 O O) ?_
 obtain⟨r3,hr3,h⟩:=Ge h
 refine JLg (G0 r3) (A_callLend (args:=[E1 s,.fn del_f del_c]) O (M_slices_IndexFunc_int_w s del del_f del_c del_B del_d del_w r3 hr3) tf_call_63 ⟨.vec O,.data O del_d,G⟩ O) ?_
 refine JLg (G0 r3) (G9 O O) ?_
 refine G8 (hK2 _ _ ?_)
 refine G6 (fun K4 hK4=>?_)
 refine G6 fun K5 hK5=>G3 ?_
 refine JLg (G0 r3) (G7 O O) ?_
 refine JLg (BL (decide (r3=(-1)))) (Qb O O O) ?_
 refine G8 (hK5 _ _ ?_)
 refine Gh O (fun hb=>?_) (fun hb=>?_)
 ·
  replace h:=Gv hb h
  refine G6 fun K6 hK6=>G3 ?_
  refine JLg (.vec 1077 s_q 1 s.length) (G7 O O) ?_
  refine JLg (.vec 1077 s_q 1 s.length) (G9 O O) ?_
  refine G8 (hK6 _ _ ?_)
  refine JC_vlen 4 O O (fun hn_=>?_)
  refine Gu ?_
  obtain rfl:=Option.some.inj h
  exact⟨[.vec 1077 s_q 1 s.length],[(1077,.vec 3 1 s_q (s.map G0))],⟨⟨_,O,.vec⟩,G⟩,O,⟨⟨_,O,.conv (.same O)⟩,G⟩,s_q,congrArg (fun n_:Nat=>(.vec 1077 s_q 1 n_:AV)) (hn_.trans (List.length_map _)),O⟩
 ·
  replace h:=Hp hb h
  refine Gj ?_
  refine hK4 _ _ ?_
  refine G6 (fun K7 hK7=>?_)
  refine G6 fun K8 hK8=>G3 ?_
  refine JLg (G0 r3) (G7 O O) ?_
  obtain⟨v9,hv9,h⟩:=Hm h
  refine JLg (G0 v9) (Ht hv9 O O O) ?_
  refine JLg (G0 v9) (G9 O O) ?_
  refine G8 (hK8 _ _ ?_)
  refine Gg ?_
  obtain⟨b48,hb48,h⟩:=loop_in h
  refine H7 (fun i48 (s48:Int×Int×(List Int))=>loop b48 i48 s48=some r) (fun i48 s48=>[(0,.vec 1077 s_q 1 s.length),(1,.fn del_f del_c),(5,G0 s48.1),(6,G0 s48.2.1)]) (fun i48 s48=>[(1077,.vec 3 1 s_q (s48.2.2.map G0)),(1114,.vec 3 1 (([]:List Int).length) (([]:List Int).map G0))]) (fun i48=>i48) F (r3,v9,s) h ⟨⟨.same O,.same (H8 _ _ del_d),.same O,.same O,G⟩,⟨⟨_,O,.vec⟩,⟨_,O,.vec⟩,G⟩,O⟩ ?_
  clear h
  intro i48 s48 hi48 K48 e48
  obtain⟨m48,nx48,hm_48,hn48,h⟩:=loop_out hi48
  replace h:=app2 hb48 h
  refine G6 (fun K49 hK49=>?_)
  refine G6 fun K50 hK50=>G3 ?_
  refine JLg (G0 s48.2.1) (G7 O O) ?_
  refine JLg (.vec 1077 s_q 1 s.length) (G7 O O) ?_
  refine JL_vlenM (f:=G0) (xs:=s48.2.2) Gy O O O (fun hm18=>?_) O O O
  refine JLg (BL (decide (s48.2.1 < (s48.2.2.length:Int)))) (Hy O O O) ?_
  refine G8 (hK50 _ _ ?_)
  refine Gh O (fun hb=>?_) (fun hb=>?_)
  ·
   replace h:=Gv hb h
   refine Gj ?_
   refine hK49 _ _ ?_
   obtain⟨kj51,hkj51,h⟩:=Qd h
   refine Jq (fun j51:Int×(List Int)=>kj51 j51=some r) (fun j51=>[(0,.vec 1077 s_q 1 s.length),(1,.fn del_f del_c),(5,G0 j51.1),(6,G0 s48.2.1)]) (fun j51=>[(1077,.vec 3 1 s_q (j51.2.map G0)),(1114,.vec 3 1 (([]:List Int).length) (([]:List Int).map G0))]) (fun Kj51 ej51=>?_) ?_
   ·
    refine Gg ?_
    refine G6 fun K52 hK52=>G3 ?_
    refine JLg (.vec 1077 s_q 1 s.length) (G7 O O) ?_
    refine JLg (G0 s48.2.1) (G7 O O) ?_
    obtain⟨y53,hmy53,hy53,h⟩:=Re h
    refine JLg (.vptr 1077 s_q s48.2.1.toNat 0) (Rg (f:=G0) (xs:=s48.2.2) (y:=y53) O O O O Gy hy53 hmy53) ?_
    refine JLg (G0 y53) (A_vloadM (f:=G0) (xs:=s48.2.2) (y:=y53) Gb O O O hy53 O O) ?_
    refine JLg (G0 y53) (G9 O O) ?_
    refine G8 (hK52 _ _ ?_)
    refine G6 fun K54 hK54=>G3 ?_
    refine JLg (.fn del_f del_c) (G7 O O) ?_
    refine JLg (G0 y53) (G7 O O) ?_
    obtain⟨r55,hr55,h⟩:=Ge h
    refine JLg (BL r55) (Rk (args:=[G0 y53]) (caps:=del_c) O O (del_w y53 _ hr55) del_B ⟨O,O,G⟩ del_d) ?_
    refine JLg (BL (!r55)) (Rj (b:=r55) O O) ?_
    refine G8 (hK54 _ _ ?_)
    refine Gh O (fun hb=>?_) (fun hb=>?_)
    ·
     replace h:=Gv hb h
     refine G6 fun K56 hK56=>G3 ?_
     refine JLg (.vec 1077 s_q 1 s.length) (G7 O O) ?_
     refine JLg (G0 s48.1) (G7 O O) ?_
     refine JLg (G0 y53) (G7 O O) ?_
     obtain⟨y57,hmy57,hy57,h⟩:=Re h
     refine JLg (.vptr 1077 s_q s48.1.toNat 0) (Rg (f:=G0) (xs:=s48.2.2) (y:=y57) O O O O Gy hy57 hmy57) ?_
     refine Hj (u:=.junk) (A_vstoreM (f:=G0) (xs:=s48.2.2) (z:=y53) R9 O O O O (List.getElem?_eq_some_iff.1 hy57).1 O O O O) ?_
     refine G8 (hK56 _ _ ?_)
     refine G3 ?_
     refine JLg (G0 s48.1) (G7 O O) ?_
     obtain⟨v58,hv58,h⟩:=Hm h
     refine JLg (G0 v58) (Ht hv58 O O O) ?_
     refine JLg (G0 v58) (G9 O O) ?_
     refine G8 ?_
     exact ej51 _ _ (v58,(s48.2.2.set s48.1.toNat y53)) h ⟨⟨.same O,.same (H8 _ _ del_d),.same O,.same O,G⟩,⟨⟨_,O,.vec⟩,⟨_,O,.vec⟩,G⟩,O⟩
    ·
     replace h:=Hp hb h
     refine Gj ?_
     exact ej51 _ _ (s48.1,s48.2.2) h ⟨⟨.same O,.same (H8 _ _ del_d),.same O,.same O,G⟩,⟨⟨_,O,.vec⟩,⟨_,O,.vec⟩,G⟩,O⟩
   ·intro j51 h
    replace h:=app1 hkj51 h
    refine G3 ?_
    refine JLg (G0 s48.2.1) (G7 O O) ?_
    obtain⟨v59,hv59,h⟩:=Hm h
    refine JLg (G0 v59) (Ht hv59 O O O) ?_
    refine JLg (G0 v59) (G9 O O) ?_
    refine G8 ?_
    exact e48 _ _ m48 (j51.1,v59,j51.2) (app1 hn48 h) (by omega) ⟨⟨.same rfl,.same (H8 _ _ del_d),.same rfl,.same rfl,G⟩,⟨⟨_,rfl,.vec⟩,⟨_,rfl,.vec⟩,G⟩,rfl⟩
  ·
   replace h:=Hp hb h
   refine Hk ?_
   refine hK7 _ _ ?_
   refine G6 fun K60 hK60=>G3 ?_
   refine JLg (.vec 1077 s_q 1 s.length) (G7 O O) ?_
   refine JLg (G0 s48.1) (G7 O O) ?_
   obtain⟨m61,hm61,h⟩:=Ge h
   refine JLg (.vsl 1077 s_q 1 m61 (s48.2.2.length - m61)) (A_vsubLoM (f:=G0) (xs:=s48.2.2) O O O O Gy (natIn_out hm61)) ?_
   refine Hj (u:=.tup []) (A_clearM (f:=G0) (xs:=s48.2.2) (off:=m61) (n:=(s48.2.2.length - m61)) 0 [.int .i64 0] O Gy (.inr O) O tf_zero_3 O O O ⟨.inl O,G⟩) ?_
   refine G8 (hK60 _ _ ?_)
   refine G6 fun K62 hK62=>G3 ?_
   refine JLg (.vec 1077 s_q 1 s.length) (G7 O O) ?_
   refine JLg (G0 s48.1) (G7 O O) ?_
   obtain⟨m63,hm63,h⟩:=Ge h
   refine JLg (.vec 1077 (s_q+1) 1 (((blank s48.2.2 m61 (s48.2.2.length - m61) 0).take m63).length)) (A_vtakeM (f:=G0) (xs:=(blank s48.2.2 m61 (s48.2.2.length - m61) 0)) O O O O Gy (natIn_out hm63)) ?_
   refine JLg (.vec 1077 (s_q+1) 1 (((blank s48.2.2 m61 (s48.2.2.length - m61) 0).take m63).length)) (G9 O O) ?_
   refine G8 (hK62 _ _ ?_)
   refine JC_vlen 4 O O (fun hn_=>?_)
   refine Gu ?_
   obtain rfl:=Option.some.inj h
   exact⟨[.vec 1077 (s_q+1) 1 (((blank s48.2.2 m61 (s48.2.2.length - m61) 0).take m63).length)],[(1077,.vec 3 1 (s_q+1) (((blank s48.2.2 m61 (s48.2.2.length - m61) 0).take m63).map G0))],⟨⟨_,O,.vec⟩,G⟩,O,⟨⟨_,O,.conv (.same O)⟩,G⟩,(s_q+1),congrArg (fun n_:Nat=>(.vec 1077 (s_q+1) 1 n_:AV)) (hn_.trans (List.length_map _)),O⟩

def M_plan_Restows (F:Nat) (s:Gz) (boxes:List Gp) (calls:Int) (p:Plan):Option ((List (List Int))×Int):=
 bnd (M_plan_Check s boxes calls p) fun r4=>
 bif decide (r4.2≠0) then
 (some ([],r4.2))
 else
 (bnd (M_plan_steps p) fun r10=>
  bnd (S_plan_steps_1 p) fun ys21=>
  each (fun y21 i21 (s21:(List (List Int))) nx21=>
   bnd (Q3 F s y21.1 y21.2) fun r23=>
   bnd (M_slices_DeleteFunc_int F r23 (fun z0=>M_plan_Restows_1 z0 y21.1 y21.2)) fun r25=>
   need (decide ((s21.length+[r25].length)*24≤140737488355328∧s21.length+[r25].length≤maxLen)) <|
   nx21 (s21++[r25]))
  (fun(s21:(List (List Int)))=>
   some (s21,0)) ys21 0 [])
theorem M_plan_Restows_w (F:Nat) (s:Gz) (boxes:List Gp) (calls:Int) (p:Plan) (r:(List (List Int))×Int) (h:M_plan_Restows F s boxes calls p=some r):Pure Tryz.prog 17 [.agg (Gz.cs s),E2 boxes,G0 calls,.agg [LS 1 (E0) p.States,LS 1 (E1) p.Water]] (·=.tup [LS 1 (E1) r.1,G0 r.2]):=by
 unfold M_plan_Restows at h
 refine H9 [.tmp 8,.tmp 9] Tryz.func17 O O ?_
 refine G6 fun K1 hK1=>G3 ?_
 refine JLg (.ptr 1057 0) (Q1 (u:=.agg (Gz.cs s)) (cs:=(Gz.cs s)) 1057 O O O O O) ?_
 refine JLg (.ptr 1058 0) (Q1 (u:=.agg [LS 1 (E0) p.States,LS 1 (E1) p.Water]) (cs:=[LS 1 (E0) p.States,LS 1 (E1) p.Water]) 1058 O O O O O) ?_
 refine JLg (LS 1 (E1) ([]:List (List Int))) (Jj 1 O O) ?_
 refine JLg (G0 0) (G9 O O) ?_
 refine G8 (hK1 _ _ ?_)
 refine Gk [(1,E2 boxes),(2,G0 calls),(4,Ee s),(7,.ptr 1058 0)] [(1058,.box 41 [LS 1 (E0) p.States,LS 1 (E1) p.Water])] 1057 rfl rfl rfl ⟨⟨_,rfl,.boxEq rfl rfl⟩,G⟩ rfl (by repeat' (first | exact .ptr | constructor)) ?_
 refine Gk [(1,E2 boxes),(2,G0 calls),(4,Ee s),(7,.dptr [LS 1 (E0) p.States,LS 1 (E1) p.Water])] [] 1058 rfl rfl rfl G rfl (by repeat' (first | exact .ptr | constructor)) ?_
 refine G6 (fun K2 hK2=>?_)
 refine G6 fun K3 hK3=>G3 ?_
 refine JLg (.agg (Gz.cs s)) (Gi J0 O O O) ?_
 refine JLg (E2 boxes) (G7 O O) ?_
 refine JLg (G0 calls) (G7 O O) ?_
 refine JLg (.agg [LS 1 (E0) p.States,LS 1 (E1) p.Water]) (Gi Ru O O O) ?_
 obtain⟨r4,hr4,h⟩:=Ge h
 refine JLg (.tup [G0 r4.1,G0 r4.2]) (H1 (args:=[.agg (Gz.cs s),E2 boxes,G0 calls,.agg [LS 1 (E0) p.States,LS 1 (E1) p.Water]]) O (M_plan_Check_w s boxes calls p r4 hr4) tf_call_15 ⟨O,O,O,O,O,O,O,O,G⟩) ?_
 refine JLg (.tup [G0 r4.1,G0 r4.2]) (G7 O O) ?_
 refine JLg (G0 r4.1) (Hq O O O) ?_
 refine JLg (G0 r4.2) (Hq O O O) ?_
 refine JLg (G0 r4.1) (G9 O O) ?_
 refine JLg (G0 r4.2) (G9 O O) ?_
 refine G8 (hK3 _ _ ?_)
 refine G6 fun K5 hK5=>G3 ?_
 refine JLg (G0 r4.2) (G7 O O) ?_
 refine JLg (BL (decide (r4.2≠0))) (Yy O O O) ?_
 refine G8 (hK5 _ _ ?_)
 refine Gh O (fun hb=>?_) (fun hb=>?_)
 ·
  replace h:=Gv hb h
  refine G6 fun K6 hK6=>G3 ?_
  refine JLg (G0 r4.2) (G7 O O) ?_
  refine JLg (LS 1 (E1) ([]:List (List Int))) (Jj 1 O O) ?_
  refine JLg (G0 r4.2) (G9 O O) ?_
  refine G8 (hK6 _ _ ?_)
  refine Gu ?_
  exact⟨[LS 1 (E1) ([]:List (List Int)),G0 r4.2],[],G,O,⟨⟨_,O,.conv (.same O)⟩,⟨_,O,.conv (.same O)⟩,G⟩,O,congrArg (fun r:(List (List Int))×Int=>(.tup [LS 1 (E1) r.1,G0 r.2]:AV)) (Option.some.inj h)⟩
 ·
  replace h:=Hp hb h
  refine Gj ?_
  refine hK2 _ _ ?_
  refine G6 fun K7 hK7=>G3 ?_
  refine JLg (.ptr 1059 0) (Y1 1059 [.sc (.slice none 0 0)] [.slice none 0 0] tf_zero_39 ⟨.inl O,G⟩ O O) ?_
  refine JL_ownCell 1059 0 1062 52 1 O O O (cs':=[OW 1062 1 (E1) ([]:List (List Int))]) O ?_
  refine G8 (hK7 _ _ ?_)
  refine G6 (fun K8 hK8=>?_)
  refine G6 fun K9 hK9=>G3 ?_
  refine JLg (.agg [LS 1 (E0) p.States,LS 1 (E1) p.Water]) (Gi Ru O O O) ?_
  obtain⟨r10,hr10,h⟩:=Ge h
  refine JLg (.fn 62 [.dptr [LS 1 (E0) p.States,LS 1 (E1) p.Water]]) (H1 (args:=[.agg [LS 1 (E0) p.States,LS 1 (E1) p.Water]]) O (M_plan_steps_w p r10 hr10) tf_call_35 ⟨O,O,G⟩) ?_
  refine G8 (hK9 _ _ ?_)
  refine Gg ?_
  obtain⟨ys21,hy_21,h⟩:=Ge h
  obtain⟨b21,kx21,hb21,hkx21,h⟩:=Hu h
  refine JC_rangeFunc (ps:=[28,29]) [(4,Ee s),(12,.ptr 1059 0),(27,.fn 62 [.dptr [LS 1 (E0) p.States,LS 1 (E1) p.Water]])] (ys21.map (fun y:(List G2)×(List G2)=>[E0 y.1,E0 y.2])) (fun i21 (s21:(List (List Int)))=>each b21 kx21 (List.drop i21 ys21) i21 s21=some r) (fun s21=>[(1062,.spare 52 1 s21.length s21.length),(1059,.box 39 [OW 1062 1 (E1) s21])]) [] rfl rfl rfl tf_call_62 (S_plan_steps_1_w.down p ys21 hy_21) h ⟨⟨.same rfl,.same rfl,.same rfl,trivial⟩,⟨⟨_,rfl,.same⟩,⟨_,rfl,.boxL rfl ⟨.same rfl,trivial⟩⟩,trivial⟩,rfl⟩ rfl (fun us_ hus_=>by obtain⟨_,_,rfl⟩:=List.mem_map.1 hus_; rfl) (fun p_ hp_=>Nat.blt_eq.mp (by revert p_; decide)) (fun _=>⟨.same rfl,.same rfl,.same rfl,trivial⟩) (fun _=>rfl) ?_ ?_
  ·
   intro i21 us_ s21 hu_ hi21 lr_ K21 e21
   obtain⟨hk21,rfl⟩:=mapf_at hu_
   obtain⟨y21,nx21,hy21,hn21,h⟩:=Hn hi21 hk21
   replace h:=app4 hb21 h
   obtain⟨_,rfl⟩:=List.getElem?_eq_some_iff.1 hy21
   generalize ys21[i21]=y21 at h ⊢
   change JC _ _ _ _ [(29,E0 y21.2),(28,E0 y21.1),(4,Ee s),(12,.ptr 1059 0),(27,.fn 62 [.dptr [LS 1 (E0) p.States,LS 1 (E1) p.Water]])] [(1062,.spare 52 1 s21.length s21.length),(1059,.box 39 [OW 1062 1 (E1) s21])]
   refine G6 fun K22 hK22=>G3 ?_
   refine JLg (.ptr 1060 0) (Hi 1060 1 Ys O O) ?_
   refine Hj (u:=.junk) (H2 (u:=E0 y21.1) (ds:=[E0 y21.1]) tf_size_50 O O O O O O O O) ?_
   refine G8 (hK22 _ _ ?_)
   refine Gk [(4,Ee s),(12,.ptr 1059 0),(13,.dptr [E0 y21.1]),(29,E0 y21.2)] [(1062,.spare 52 1 s21.length s21.length),(1059,.box 39 [OW 1062 1 (E1) s21])] 1060 rfl rfl rfl ⟨⟨_,rfl,.same⟩,⟨_,rfl,.boxEq rfl rfl⟩,G⟩ rfl (by repeat' (first | exact .ptr | constructor)) ?_
   refine G3 ?_
   refine JLg (.ptr 1061 0) (Hi 1061 1 Ys O O) ?_
   refine Hj (u:=.junk) (H2 (u:=E0 y21.2) (ds:=[E0 y21.2]) tf_size_50 O O O O O O O O) ?_
   refine G8 ?_
   refine Mid_freeze [(4,Ee s),(12,.ptr 1059 0),(13,.dptr [E0 y21.1]),(14,.dptr [E0 y21.2])] [(1062,.spare 52 1 s21.length s21.length),(1059,.box 39 [OW 1062 1 (E1) s21])] 1061 rfl rfl rfl ⟨⟨_,rfl,.same⟩,⟨_,rfl,.boxEq rfl rfl⟩,G⟩ rfl (by repeat' (first | exact .ptr | constructor)) ?_
   refine Mid_go ?_
   refine Gg ?_
   refine R0 (l':=[(4,Ee s),(12,.ptr 1059 0),(13,.dptr [E0 y21.1]),(14,.dptr [E0 y21.2])]) (L':=[(1062,.spare 52 1 s21.length s21.length),(1059,.box 39 [OW 1062 1 (E1) s21])]) ⟨(by repeat' constructor),⟨⟨_,rfl,.same⟩,⟨_,rfl,.boxL rfl ⟨.same rfl,G⟩⟩,G⟩,rfl⟩ ?_
   obtain⟨r23,hr23,h⟩:=Ge h
   obtain⟨r25,hr25,h⟩:=Ge h
   obtain⟨ha26,h⟩:=Je h
   refine Qp [4,6,8,9] [0,0,0,0,0,0,0,2,0,0] [2,0,0,0,0,1,0,2,0,0] [[(1062,.spare 52 1 s21.length s21.length),(1059,.box 39 [OW 1062 1 (E1) s21])],((1077,.vec 3 1 0 (r23.map G0))::[(1062,.spare 52 1 s21.length s21.length),(1059,.box 39 [OW 1062 1 (E1) s21])]),((1077,.vec 3 1 (0+1) (([]:List Int).map G0))::((1077,.vec 3 1 0 (r23.map G0))::[(1062,.spare 52 1 s21.length s21.length),(1059,.box 39 [OW 1062 1 (E1) s21])])),((1062,.spare 52 1 (s21++[r25]).length (s21++[r25]).length)::((1077,.vec 3 1 (0+1) (([]:List Int).map G0))::((1077,.vec 3 1 0 (r23.map G0))::[(1062,.spare 52 1 s21.length s21.length),(1059,.box 39 [OW 1062 1 (E1) s21])]))),((1059,.box 39 [OW 1062 1 (E1) (s21++[r25])])::((1062,.spare 52 1 (s21++[r25]).length (s21++[r25]).length)::((1077,.vec 3 1 (0+1) (([]:List Int).map G0))::((1077,.vec 3 1 0 (r23.map G0))::[(1062,.spare 52 1 s21.length s21.length),(1059,.box 39 [OW 1062 1 (E1) s21])]))))] Q5 (by kernel_rfl) rfl rfl ?_
   refine Gn (u:=OW 1062 1 (E1) s21) O O ⟨Gs (Jx tf_scalar_39 O O O O) O,Gs (Jx tf_scalar_39 O O O O) O,Gs (Jx tf_scalar_39 O O O O) O,G⟩ ?_
   refine Gn (u:=.agg (Gz.cs s)) O O ⟨Gs (Gi J0 O O O) O,G⟩ ?_
   refine Gn (u:=E0 y21.1) O O ⟨Gs (Gf Qc O O O) O,G⟩ ?_
   refine Gn (u:=E0 y21.2) O O ⟨Gs (Gf Qc O O O) O,G⟩ ?_
   refine D_w (u:=.vec 1077 0 1 r23.length) O O O O (Gs (Rm (args:=[.agg (Gz.cs s),E0 y21.1,E0 y21.2]) (L0:=[]) (Lr:=[(1077,.vec 3 1 0 (r23.map G0))]) O (Jr.fresh0 (M_plan_lifted_n F s y21.1 y21.2 r23 hr23)) tf_call_19 ⟨.inl O,O,.inl O,O,.inl O,O,G⟩ G O O O) O) ?_
   refine Gn (u:=.fn 37 [.dptr [E0 y21.1],.dptr [E0 y21.2]]) O O ⟨Gs (R4 (cs:=[.dptr [E0 y21.1],.dptr [E0 y21.2]]) O O) O,Gs (R4 (cs:=[.dptr [E0 y21.1],.dptr [E0 y21.2]]) O O) O,G⟩ ?_
   refine D_w (u:=E1 r25) O O O O (OStep.locEq (Gs (Rm (args:=[.vec 1077 0 1 r23.length,.fn 37 [.dptr [E0 y21.1],.dptr [E0 y21.2]]]) (L0:=[(1077,.vec 3 1 0 (r23.map G0))]) (Lr:=[(1077,.vec 3 1 (0+1) (([]:List Int).map G0))]) O (Jr.lentData (M_slices_DeleteFunc_int_p200010000 F r23 0 (fun z0=>M_plan_Restows_1 z0 y21.1 y21.2) 37 [.dptr [E0 y21.1],.dptr [E0 y21.2]] tf_call_37 O (fun z0 q hq=>M_plan_Restows_1_w z0 y21.1 y21.2 q hq) r25 hr25)) tf_call_36 ⟨.inl O,O,.inl O,O,G⟩ ⟨O,G⟩ O O O) O) (LocEq.of [1062,1059,1077] O O ⟨O,O,O,G⟩)) ?_
   refine Gn (u:=LS 1 (E1) [r25]) O O ⟨Gs (Hd (xs:=[E1 r25]) O ⟨O,O,G⟩ tf_slice_39 tf_zsize_52 O O O O) O,G⟩ ?_
   refine D_w (u:=OW 1062 1 (E1) (s21++[r25])) O O O O (Gs (Qu (f:=(E1)) (xs:=s21) (ys:=[r25]) O O O O tf_slice_39 tf_elem_52 ha26 (fun _=>O) (.inl O) O) O) ?_
   refine D_w0 (u:=.junk) O O O O (Gs (H2 (u:=OW 1062 1 (E1) (s21++[r25])) (ds:=[OW 1062 1 (E1) (s21++[r25])]) tf_size_39 O O O O O O O O) O) ?_
   refine Ry ?_
   exact e21 _ _ (s21++[r25]) (app1 hn21 h) ⟨G,⟨⟨_,O,.same⟩,⟨_,O,.boxL O ⟨.same O,G⟩⟩,G⟩,O⟩
  ·
   intro s21 h
   rw [List.length_map] at h
   replace h:=app1 hkx21 (Ho h (Nat.lt_irrefl _))
   refine hK8 _ _ ?_
   refine G6 fun K27 hK27=>G3 ?_
   refine JLg (OW 1062 1 (E1) s21) (Jx tf_scalar_39 O O O O) ?_
   refine JLg (OW 1062 1 (E1) s21) (G9 O O) ?_
   refine JLg (G0 0) (G9 O O) ?_
   refine G8 (hK27 _ _ ?_)
   refine R0 (l':=[(8,LS 1 (E1) s21),(9,G0 0)]) (L':=[(1059,.box 39 [LS 1 (E1) s21])]) ⟨⟨.list O,.same O,G⟩,⟨⟨_,O,.boxL O ⟨.list O,G⟩⟩,G⟩,O⟩ ?_
   refine Gk [(8,LS 1 (E1) s21),(9,G0 0)] [] 1059 rfl rfl rfl G rfl (by exact⟨.conv (.same rfl),.conv (.same rfl),G⟩) ?_
   refine Gu ?_
   exact⟨[LS 1 (E1) s21,G0 0],[],G,O,⟨⟨_,O,.conv (.same O)⟩,⟨_,O,.conv (.same O)⟩,G⟩,O,congrArg (fun r:(List (List Int))×Int=>(.tup [LS 1 (E1) r.1,G0 r.2]:AV)) (Option.some.inj h)⟩
end
end Go.Proofs.YtkfhfoljfbjknaaGreat
