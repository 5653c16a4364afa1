/-
 Models of functions of the program,and that they return what the models say.
-/
import Derived.Test.YtfkilljboodoaaaGreatXPc
set_option maxRecDepth 100000
set_option linter.unusedVariables false
set_option linter.unusedSimpArgs false
namespace Go.Proofs.YtfkilljboodoaaaGreat
open Go.RowKit
noncomputable section
open XAF
open XLF
open XPF

def Y0 (before:List G6) (after:List G6) (id_:Int):Option Bool:=
 bnd (Ja before id_) fun r3=>
 bnd (Ja after id_) fun r4=>
 bnd (bif (!((decide (r3 < 0))||(decide (r4 < 0)))) then Q3 before r3 some else some default) fun y6=>
 bnd (bif (!((decide (r3 < 0))||(decide (r4 < 0)))) then Q3 after r4 some else some default) fun y7=>
 some (((decide (r3 < 0))||(decide (r4 < 0)))||(!decide (y6.Slot=y7.Slot)))
theorem H25 (before:List G6) (after:List G6) (id_:Int) (r:Bool) (h:Y0 before after id_=some r):Pure Tryz.prog 95 [E0 before,E0 after,G0 id_] (·=BL r):=by
 unfold Y0 at h
 refine H1 [.tmp 6] Tryz.func95 O O (G7 fun K1 hK1=>G2 (JLh (BL false) (G9 O O) O (G8 (hK1 _ _ (G7 fun K2 hK2=>G2 (JLh (E0 before) (G5 O O) O (JLh (G0 id_) (G5 O O) O ?_)))))))
 obtain⟨r3,hr3,h⟩:=Gf h
 refine JLh (G0 r3) (Gq (args:=[E0 before,G0 id_]) O (Ri before id_ r3 hr3) G7f ⟨O,O,O,O,G⟩) O (JLh (E0 after) (G5 O O) O (JLh (G0 id_) (G5 O O) O ?_))
 obtain⟨r4,hr4,h⟩:=Gf h
 refine JLh (G0 r4) (Gq (args:=[E0 after,G0 id_]) O (Ri after id_ r4 hr4) G7f ⟨O,O,O,O,G⟩) O (JLh (G0 r3) (G9 O O) O (JLh (G0 r4) (G9 O O) O (G8 (hK2 _ _ (G7 (fun K5 hK5=>?_))))))
 obtain⟨y6,hy6,h⟩:=Gf h
 obtain⟨y7,hy7,h⟩:=Gf h
 refine Q6 [] [0,0,0,0,0,0,0,0,0,0,0,0,0,0,0,0,0,0,0,0] [0,0,0,0,0,0,0,0,0,0,0,0,0,0,0,0,0,0,0,0] [[]] Jk (by kernel_rfl) rfl rfl ?_
 refine Gc (u:=G0 r3) O O ⟨Gw (G5 O O) O,G⟩ (Gc (u:=BL (decide (r3 < 0))) O O ⟨Gw (J2 O O O) O,G⟩ (Gc (u:=BL (decide (r3 < 0))) O O ⟨Gw (G5 O O) O,G⟩ (Gc (u:=.opt (!(decide (r3 < 0))) (G0 r4)) O O ⟨Ge [] O O O .scf G (fun hc=>G5 O O) O,G⟩ (Gc (u:=.opt (!(decide (r3 < 0))) (BL (decide (r4 < 0)))) O O ⟨Ge [(18,G0 r4)] O O O .scf ⟨.all id,G⟩ (fun hc=>J2 O O O) O,G⟩ (Gc (u:=BL ((decide (r3 < 0))||(decide (r4 < 0)))) O O ⟨Gw (Rn O O O O) O,G⟩ (Gc (u:=BL ((decide (r3 < 0))||(decide (r4 < 0)))) O O ⟨Gw (G5 O O) O,G⟩ (Gc (u:=.opt (!((decide (r3 < 0))||(decide (r4 < 0)))) (E0 before)) O O ⟨Ge [] O O O .scf G (fun hc=>G5 O O) O,G⟩ (Gc (u:=.opt (!((decide (r3 < 0))||(decide (r4 < 0)))) (G0 r3)) O O ⟨Ge [] O O O .scf G (fun hc=>G5 O O) O,G⟩ (Gc (u:=.opt (!((decide (r3 < 0))||(decide (r4 < 0)))) (Ef y6)) O O ⟨Ge [(22,E0 before),(23,G0 r3)] O O O .scf ⟨.all id,.all id,G⟩ (fun hc=>(match Jf (Gz hc hy6) with | ⟨_,hm_,hy_⟩=>Gt (f:=G6.av) (xs:=before) (y:=y6) O O O H2 hy_ hm_)) O,G⟩ (Gc (u:=.opt (!((decide (r3 < 0))||(decide (r4 < 0)))) (Eg y6.Slot)) O O ⟨Ge [(24,Ef y6)] O O O .scf ⟨.all id,G⟩ (fun hc=>Gb Hz O O O) O,G⟩ (Gc (u:=.opt (!((decide (r3 < 0))||(decide (r4 < 0)))) (.agg (Slot.cs y6.Slot))) O O ⟨Ge [(25,Eg y6.Slot)] O O O .scf ⟨.all id,G⟩ (fun hc=>Gj Jh O O O) O,G⟩ (Gc (u:=.opt (!((decide (r3 < 0))||(decide (r4 < 0)))) (E0 after)) O O ⟨Ge [] O O O .scf G (fun hc=>G5 O O) O,G⟩ (Gc (u:=.opt (!((decide (r3 < 0))||(decide (r4 < 0)))) (G0 r4)) O O ⟨Ge [] O O O .scf G (fun hc=>G5 O O) O,G⟩ ?_)))))))))))))
 refine Gc (u:=.opt (!((decide (r3 < 0))||(decide (r4 < 0)))) (Ef y7)) O O ⟨Ge [(27,E0 after),(28,G0 r4)] O O O .scf ⟨.all id,.all id,G⟩ (fun hc=>(match Jf (Gz hc hy7) with | ⟨_,hm_,hy_⟩=>Gt (f:=G6.av) (xs:=after) (y:=y7) O O O H2 hy_ hm_)) O,G⟩ (Gc (u:=.opt (!((decide (r3 < 0))||(decide (r4 < 0)))) (Eg y7.Slot)) O O ⟨Ge [(29,Ef y7)] O O O .scf ⟨.all id,G⟩ (fun hc=>Gb Hz O O O) O,G⟩ (Gc (u:=.opt (!((decide (r3 < 0))||(decide (r4 < 0)))) (.agg (Slot.cs y7.Slot))) O O ⟨Ge [(30,Eg y7.Slot)] O O O .scf ⟨.all id,G⟩ (fun hc=>Gj Jh O O O) O,G⟩ (Gc (u:=.opt (!((decide (r3 < 0))||(decide (r4 < 0)))) (BL (!decide (y6.Slot=y7.Slot)))) O O ⟨Ge [(26,.agg (Slot.cs y6.Slot)),(31,.agg (Slot.cs y7.Slot))] O O O .scf ⟨.all id,.all id,G⟩ (fun hc=>Hf2 (vs:=[.int .i64 y6.Slot.G4,.int .i64 y6.Slot.Tier,.int .u8 y6.Slot.Half]) (us:=[.int .i64 y7.Slot.G4,.int .i64 y7.Slot.Tier,.int .u8 y7.Slot.Half]) 4 O (tq_119 y6.Slot y7.Slot) Gcf H48 O O O) O,G⟩ (Gc (u:=BL (((decide (r3 < 0))||(decide (r4 < 0)))||(!decide (y6.Slot=y7.Slot)))) O O ⟨Gw (Rn O O O O) O,G⟩ (Gc (u:=BL (((decide (r3 < 0))||(decide (r4 < 0)))||(!decide (y6.Slot=y7.Slot)))) O O ⟨Gw (G9 O O) O,G⟩ (Yz ?_))))))
 refine hK5 _ _ (Gu (⟨[BL (((decide (r3 < 0))||(decide (r4 < 0)))||(!decide (y6.Slot=y7.Slot)))],[],G,O,⟨⟨_,O,.conv (.same O)⟩,G⟩,O,congrArg (fun r:Bool=>(BL r:AV)) (Option.some.inj h)⟩))

def Zh (a:Slot) (b:Slot):Option Bool:=
 bnd (bif ((decide (a.G4=b.G4))&&(decide (b.Tier < a.Tier))) then Qy a.Half b.Half else some default) fun r3=>
 some (((decide (a.G4=b.G4))&&(decide (b.Tier < a.Tier)))&&r3)
theorem H37 (a:Slot) (b:Slot) (r:Bool) (h:Zh a b=some r):Pure Tryz.prog 211 [.agg [G0 a.G4,G0 a.Tier,U8 a.Half],.agg [G0 b.G4,G0 b.Tier,U8 b.Half]] (·=BL r):=by
 unfold Zh at h
 refine H1 [.tmp 4] Tryz.func211 O O (G7 fun K1 hK1=>G2 (JLh (.ptr 1132 0) (Jy (u:=.agg [G0 a.G4,G0 a.Tier,U8 a.Half]) (cs:=[G0 a.G4,G0 a.Tier,U8 a.Half]) 1132 O O O O O) O (JLh (.ptr 1133 0) (Jy (u:=.agg [G0 b.G4,G0 b.Tier,U8 b.Half]) (cs:=[G0 b.G4,G0 b.Tier,U8 b.Half]) 1133 O O O O O) O (JLh (BL false) (G9 O O) O (G8 (hK1 _ _ (Gx [(2,.dptr [G0 a.G4,G0 a.Tier,U8 a.Half]),(3,.ptr 1133 0)] [(1133,.box 119 [G0 b.G4,G0 b.Tier,U8 b.Half])] 1132 rfl rfl rfl ⟨⟨_,rfl,.boxEq rfl rfl⟩,G⟩ rfl (by exact⟨.ptr,.conv (.same rfl),G⟩) (Gx [(2,.dptr [G0 a.G4,G0 a.Tier,U8 a.Half]),(3,.dptr [G0 b.G4,G0 b.Tier,U8 b.Half])] [] 1133 rfl rfl rfl G rfl (by exact⟨.conv (.same rfl),.ptr,G⟩) ?_))))))))
 refine G7 fun K2 hK2=>G2 (JLh (.dptr [G0 a.G4,G0 a.Tier,U8 a.Half]) (Gb J0 O O O) O (JLh (G0 a.G4) (Gh Gd O O O) O (JLh (.dptr [G0 b.G4,G0 b.Tier,U8 b.Half]) (Gb J0 O O O) O (JLh (G0 b.G4) (Gh Gd O O O) O (JLh (BL (decide (a.G4=b.G4))) (Jx O O O) O (JLh (BL (decide (a.G4=b.G4))) (G5 O O) O (Ga (u:=.dptr [G0 a.Tier,U8 a.Half]) [] O O O .sct G (fun hc=>Gb Q2 O O O) ?_)))))))
 refine Ga (u:=G0 a.Tier) [(11,.dptr [G0 a.Tier,U8 a.Half])] O O O .sct ⟨.all id,G⟩ (fun hc=>Gh Gd O O O) ?_
 refine Ga (u:=.dptr [G0 b.Tier,U8 b.Half]) [] O O O .sct G (fun hc=>Gb Q2 O O O) ?_
 refine Ga (u:=G0 b.Tier) [(13,.dptr [G0 b.Tier,U8 b.Half])] O O O .sct ⟨.all id,G⟩ (fun hc=>Gh Gd O O O) ?_
 refine Ga (u:=BL (decide (b.Tier < a.Tier))) [(12,G0 a.Tier),(14,G0 b.Tier)] O O O .sct ⟨.all id,.all id,G⟩ (fun hc=>G31 O O O) ?_
 refine JLh (BL ((decide (a.G4=b.G4))&&(decide (b.Tier < a.Tier)))) (Hx O O O O) O (JLh (BL ((decide (a.G4=b.G4))&&(decide (b.Tier < a.Tier)))) (G5 O O) O (Ga (u:=.dptr [U8 a.Half]) [] O O O .sct G (fun hc=>Gb Jd O O O) ?_))
 refine Ga (u:=U8 a.Half) [(18,.dptr [U8 a.Half])] O O O .sct ⟨.all id,G⟩ (fun hc=>Gh Jn O O O) ?_
 refine Ga (u:=.dptr [U8 b.Half]) [] O O O .sct G (fun hc=>Gb Jd O O O) ?_
 refine Ga (u:=U8 b.Half) [(20,.dptr [U8 b.Half])] O O O .sct ⟨.all id,G⟩ (fun hc=>Gh Jn O O O) ?_
 obtain⟨r3,hr3,h⟩:=Gf h
 refine Ga (u:=BL r3) [(19,U8 a.Half),(21,U8 b.Half)] O O O .sct ⟨.all id,.all id,G⟩ (fun hc=>Gq (args:=[U8 a.Half,U8 b.Half]) O (G66 a.Half b.Half r3 (Gz hc hr3)) J1a ⟨O,O,O,O,G⟩) ?_
 refine JLh (BL (((decide (a.G4=b.G4))&&(decide (b.Tier < a.Tier)))&&r3)) (Hx O O O O) O (JLh (BL (((decide (a.G4=b.G4))&&(decide (b.Tier < a.Tier)))&&r3)) (G9 O O) O (G8 (hK2 _ _ (Gu (⟨[BL (((decide (a.G4=b.G4))&&(decide (b.Tier < a.Tier)))&&r3)],[],G,O,⟨⟨_,O,.conv (.same O)⟩,G⟩,O,congrArg (fun r:Bool=>(BL r:AV)) (Option.some.inj h)⟩)))))

def Qq (s:Hb) (column:Int):Option Int:=
 bif ((decide (column < 0))||(decide ((s.Columns.length:Int)≤column))) then
 (some (-1))
 else
 (each (fun y30 i30 (s30:Unit) nx30=>
   Q3 s.Columns column fun y35=>
   bnd (bif decide (y30.Bay=y35.Bay) then Q3 s.Columns column some else some default) fun y37=>
   bnd (bif decide (y30.Bay=y35.Bay) then Q5 y30.Rows y37.Row else some default) fun r38=>
   bif ((decide (y30.Bay=y35.Bay))&&r38) then
   (some (i30:Int))
   else
   (nx30 ()))
  (fun(s30:Unit)=>
   some (-1)) s.Covers 0 ())
theorem G58 (s:Hb) (column:Int) (r:Int) (h:Qq s column=some r):Pure Tryz.prog 265 [.agg (Hb.cs s),G0 column] (·=G0 r):=by
 unfold Qq at h
 refine H1 [.tmp 4] Tryz.func265 O O (G7 fun K1 hK1=>G2 (JLh (.ptr 1147 0) (Jy (u:=.agg (Hb.cs s)) (cs:=(Hb.cs s)) 1147 O O O O O) O (JLh (G0 0) (G9 O O) O (G8 (hK1 _ _ ?_)))))
 refine Gx [(1,G0 column),(2,Ee s)] [] 1147 rfl rfl rfl G rfl (by exact⟨.conv (.same rfl),.ptr,G⟩) (G7 (fun K2 hK2=>G7 fun K3 hK3=>G2 (JLh (G0 column) (G5 O O) O (JLh (BL (decide (column < 0))) (J2 O O O) O (JLh (BL (decide (column < 0))) (G5 O O) O (Ga (u:=G0 column) [] O O O .scf G (fun hc=>G5 O O) ?_))))))
 refine Ga (u:=Ee s) [] O O O .scf G (fun hc=>Gb Hi O O O) ?_
 refine Ga (u:=E3 s.Columns) [(10,Ee s)] O O O .scf ⟨.all id,G⟩ (fun hc=>Gh Hq O O O) ?_
 refine Ga (u:=En s.Columns.length) [(11,E3 s.Columns)] O O O .scf ⟨.all id,G⟩ (fun hc=>Qt (f:=G4.av) (xs:=s.Columns) H7 O O) ?_
 refine Ga (u:=BL (decide ((s.Columns.length:Int)≤column))) [(9,G0 column),(12,En s.Columns.length)] O O O .scf ⟨.all id,.all id,G⟩ (fun hc=>G29 O O O) ?_
 refine JLh (BL ((decide (column < 0))||(decide ((s.Columns.length:Int)≤column)))) (Rn O O O O) O (G8 (hK3 _ _ (Gn O (fun hb=>?_) (fun hb=>?_))))
 ·
  replace h:=Gz hb h
  refine G7 fun K4 hK4=>G2 (JLh (G0 (-1)) (G9 O O) O (G8 (hK4 _ _ (Gu (⟨[G0 (-1)],[],G,O,⟨⟨_,O,.conv (.same O)⟩,G⟩,O,congrArg (fun r:Int=>(G0 r:AV)) (Option.some.inj h)⟩)))))
 ·
  replace h:=Hv hb h
  refine Gp (hK2 _ _ (G7 (fun K5 hK5=>G7 fun K6 hK6=>G2 (JLh (G0 0) (G9 O O) O (G8 (hK6 _ _ (Gk ?_)))))))
  obtain⟨b30,kx30,hb30,hkx30,h⟩:=Hw h
  refine Hc (fun i30 (s30:Unit)=>each b30 kx30 (List.drop i30 s.Covers) i30 s30=some r) (fun i30 s30=>[(1,G0 column),(2,Ee s),(5,En i30)]) (fun i30 s30=>[]) (fun i30=>s.Covers.length - i30) 0 () h ⟨⟨.same O,.same O,.same O,G⟩,G,O⟩ ?_
  clear h
  intro i30 s30 hi30 K30 e30
  refine G7 (fun K31 hK31=>G7 fun K32 hK32=>G2 (JLh (En i30) (G5 O O) O (JLh (.dptr [E4 s.Covers,G0 s.Light.Kilos,G0 s.Light.X,G0 s.Light.Y,G0 s.Light.Z,E6 s.Rows,E5 s.Frames,E7 s.Tanks,G0 s.G3.Tolerance,G0 s.G3.Trim,G0 s.G3.List_,G0 s.G3.Stability]) (Gb Jz O O O) O (JLh (E4 s.Covers) (Gh Qh O O O) O (H3 (f:=Gg.av) (xs:=s.Covers) Hp O O (fun hm18=>?_) O O O)))))
  refine JLh (BL (decide ((i30:Int) < (s.Covers.length:Int)))) (J2 O O O) O (G8 (hK32 _ _ (Gn O (fun hb=>?_) (fun hb=>?_))))
  ·
   have hk30:=Jc hb
   obtain⟨y30,nx30,hy30,hn30,h⟩:=Hn hi30 hk30
   replace h:=Yb hb30 h
   refine Gp (hK31 _ _ (G7 (fun K33 hK33=>Gk (G7 (fun K34 hK34=>?_)))))
   obtain⟨m36,y35,hm36,hy35,h⟩:=Y3 h
   obtain⟨y37,hy37,h⟩:=Gf h
   obtain⟨r38,hr38,h⟩:=Gf h
   refine Q6 [] [0,0,0,0,0,0,0,0,0,0,0,0,0,0,0,0,0,0,0,0,0,0,0,0,0,0,0,0] [0,0,0,0,0,0,0,0,0,0,0,0,0,0,0,0,0,0,0,0,0,0,0,0,0,0,0,0] [[]] Jk (by kernel_rfl) rfl rfl ?_
   refine Gc (u:=.dptr [E4 s.Covers,G0 s.Light.Kilos,G0 s.Light.X,G0 s.Light.Y,G0 s.Light.Z,E6 s.Rows,E5 s.Frames,E7 s.Tanks,G0 s.G3.Tolerance,G0 s.G3.Trim,G0 s.G3.List_,G0 s.G3.Stability]) O O ⟨Gw (Gb Jz O O O) O,G⟩ (Gc (u:=E4 s.Covers) O O ⟨Gw (Gh Qh O O O) O,G⟩ (Gc (u:=En i30) O O ⟨Gw (G5 O O) O,G⟩ (Gc (u:=.dptr [G0 y30.Bay,E1 y30.Rows]) O O ⟨Gw (Gt (f:=Gg.av) (xs:=s.Covers) (y:=y30) O O O Hp hy30 O) O,G⟩ (Gc (u:=.dptr [G0 y30.Bay,E1 y30.Rows]) O O ⟨Gw (Gb Yf O O O) O,G⟩ (Gc (u:=G0 y30.Bay) O O ⟨Gw (Gh Gd O O O) O,G⟩ (Gc (u:=Ee s) O O ⟨Gw (Gb Hi O O O) O,G⟩ (Gc (u:=E3 s.Columns) O O ⟨Gw (Gh Hq O O O) O,G⟩ (Gc (u:=G0 column) O O ⟨Gw (G5 O O) O,G⟩ (Gc (u:=Eh y35) O O ⟨Gw (Gt (f:=G4.av) (xs:=s.Columns) (y:=y35) O O O H7 hy35 hm36) O,G⟩ (Gc (u:=Eh y35) O O ⟨Gw (Gb Z4 O O O) O,G⟩ (Gc (u:=G0 y35.Bay) O O ⟨Gw (Gh Gd O O O) O,G⟩ (Gc (u:=BL (decide (y30.Bay=y35.Bay))) O O ⟨Gw (Jx O O O) O,G⟩ (Gc (u:=BL (decide (y30.Bay=y35.Bay))) O O ⟨Gw (G5 O O) O,G⟩ ?_)))))))))))))
   refine Gc (u:=.opt (decide (y30.Bay=y35.Bay)) (.dptr [E4 s.Covers,G0 s.Light.Kilos,G0 s.Light.X,G0 s.Light.Y,G0 s.Light.Z,E6 s.Rows,E5 s.Frames,E7 s.Tanks,G0 s.G3.Tolerance,G0 s.G3.Trim,G0 s.G3.List_,G0 s.G3.Stability])) O O ⟨Ge [] O O O .sct G (fun hc=>Gb Jz O O O) O,G⟩ (Gc (u:=.opt (decide (y30.Bay=y35.Bay)) (E4 s.Covers)) O O ⟨Ge [(36,.dptr [E4 s.Covers,G0 s.Light.Kilos,G0 s.Light.X,G0 s.Light.Y,G0 s.Light.Z,E6 s.Rows,E5 s.Frames,E7 s.Tanks,G0 s.G3.Tolerance,G0 s.G3.Trim,G0 s.G3.List_,G0 s.G3.Stability])] O O O .sct ⟨.all id,G⟩ (fun hc=>Gh Qh O O O) O,G⟩ (Gc (u:=.opt (decide (y30.Bay=y35.Bay)) (En i30)) O O ⟨Ge [] O O O .sct G (fun hc=>G5 O O) O,G⟩ (Gc (u:=.opt (decide (y30.Bay=y35.Bay)) (.dptr [G0 y30.Bay,E1 y30.Rows])) O O ⟨Ge [(37,E4 s.Covers),(38,En i30)] O O O .sct ⟨.all id,.all id,G⟩ (fun hc=>Gt (f:=Gg.av) (xs:=s.Covers) (y:=y30) O O O Hp hy30 O) O,G⟩ (Gc (u:=.opt (decide (y30.Bay=y35.Bay)) (.dptr [E1 y30.Rows])) O O ⟨Ge [(39,.dptr [G0 y30.Bay,E1 y30.Rows])] O O O .sct ⟨.all id,G⟩ (fun hc=>Gb Jr O O O) O,G⟩ (Gc (u:=.opt (decide (y30.Bay=y35.Bay)) (E1 y30.Rows)) O O ⟨Ge [(40,.dptr [E1 y30.Rows])] O O O .sct ⟨.all id,G⟩ (fun hc=>Gh Hg O O O) O,G⟩ (Gc (u:=.opt (decide (y30.Bay=y35.Bay)) (Ee s)) O O ⟨Ge [] O O O .sct G (fun hc=>Gb Hi O O O) O,G⟩ (Gc (u:=.opt (decide (y30.Bay=y35.Bay)) (E3 s.Columns)) O O ⟨Ge [(42,Ee s)] O O O .sct ⟨.all id,G⟩ (fun hc=>Gh Hq O O O) O,G⟩ (Gc (u:=.opt (decide (y30.Bay=y35.Bay)) (G0 column)) O O ⟨Ge [] O O O .sct G (fun hc=>G5 O O) O,G⟩ (Gc (u:=.opt (decide (y30.Bay=y35.Bay)) (Eh y37)) O O ⟨Ge [(43,E3 s.Columns),(44,G0 column)] O O O .sct ⟨.all id,.all id,G⟩ (fun hc=>(match Jf (Gz hc hy37) with | ⟨_,hm_,hy_⟩=>Gt (f:=G4.av) (xs:=s.Columns) (y:=y37) O O O H7 hy_ hm_)) O,G⟩ (Gc (u:=.opt (decide (y30.Bay=y35.Bay)) (.dptr ((G4.cs y37).drop 1))) O O ⟨Ge [(45,Eh y37)] O O O .sct ⟨.all id,G⟩ (fun hc=>Gb Z3 O O O) O,G⟩ (Gc (u:=.opt (decide (y30.Bay=y35.Bay)) (G0 y37.Row)) O O ⟨Ge [(46,.dptr ((G4.cs y37).drop 1))] O O O .sct ⟨.all id,G⟩ (fun hc=>Gh Gd O O O) O,G⟩ (Gc (u:=.opt (decide (y30.Bay=y35.Bay)) (BL r38)) O O ⟨Ge [(41,E1 y30.Rows),(47,G0 y37.Row)] O O O .sct ⟨.all id,.all id,G⟩ (fun hc=>Gq (args:=[E1 y30.Rows,G0 y37.Row]) O (G67 y30.Rows y37.Row r38 (Gz hc hr38)) J22 ⟨O,O,O,O,G⟩) O,G⟩ (Gc (u:=BL ((decide (y30.Bay=y35.Bay))&&r38)) O O ⟨Gw (Hx O O O O) O,G⟩ (Yz ?_))))))))))))))
   refine hK34 _ _ (Gn O (fun hb=>?_) (fun hb=>?_))
   ·
    replace h:=Gz hb h
    refine G7 fun K39 hK39=>G2 (JLh (En i30) (G5 O O) O (JLh (En i30) (G9 O O) O (G8 (hK39 _ _ (Gu (⟨[En i30],[],G,O,⟨⟨_,O,.conv (.same O)⟩,G⟩,O,congrArg (fun r:Int=>(G0 r:AV)) (Option.some.inj h)⟩))))))
   ·
    replace h:=Hv hb h
    refine Gp (hK33 _ _ (G2 (JLh (En i30) (G5 O O) O (JLh (G0 ((i30+1:Nat):Int)) (Hy (He hk30 hm18) O O O) O (JLh (G0 ((i30+1:Nat):Int)) (G9 O O) O (G8 (e30 _ _ (i30+1) () (app1 hn30 h) (by omega) ⟨⟨.same rfl,.same rfl,.same rfl,G⟩,G,rfl⟩)))))))
  ·
   have h:=app1 hkx30 (Ho hi30 (H9 hb))
   refine Hk (hK5 _ _ (G7 fun K40 hK40=>G2 (JLh (G0 (-1)) (G9 O O) O (G8 (hK40 _ _ (Gu (⟨[G0 (-1)],[],G,O,⟨⟨_,O,.conv (.same O)⟩,G⟩,O,congrArg (fun r:Int=>(G0 r:AV)) (Option.some.inj h)⟩)))))))

def Qu (s:Hb) (l:List G6) (id_:Int) (column:Int):Option Bool:=
 bnd (Ja l id_) fun r3=>
 bnd (bif (!(decide (r3 < 0))) then Q3 s.Columns column some else some default) fun y6=>
 bnd (bif (!((decide (r3 < 0))||y6.Deck)) then Q3 l r3 some else some default) fun y7=>
 bnd (bif (!((decide (r3 < 0))||y6.Deck)) then Q3 s.Columns y7.Slot.G4 some else some default) fun y8=>
 bif (((decide (r3 < 0))||y6.Deck)||(!y8.Deck)) then
 (some false)
 else
 (bnd (Qq s column) fun r11=>
  bnd (bif decide (0≤r11) then Q3 l r3 some else some default) fun y13=>
  bnd (bif decide (0≤r11) then Qq s y13.Slot.G4 else some default) fun r14=>
  some ((decide (0≤r11))&&(decide (r14=r11))))
theorem G86 (s:Hb) (l:List G6) (id_:Int) (column:Int) (r:Bool) (h:Qu s l id_ column=some r):Pure Tryz.prog 212 [.agg (Hb.cs s),E0 l,G0 id_,G0 column] (·=BL r):=by
 unfold Qu at h
 refine H1 [.tmp 8] Tryz.func212 O O (G7 fun K1 hK1=>G2 (JLh (.ptr 1134 0) (Jy (u:=.agg (Hb.cs s)) (cs:=(Hb.cs s)) 1134 O O O O O) O (JLh (BL false) (G9 O O) O (G8 (hK1 _ _ ?_)))))
 refine Gx [(1,E0 l),(2,G0 id_),(3,G0 column),(4,Ee s)] [] 1134 rfl rfl rfl G rfl (by repeat' (first | exact .ptr | constructor)) (G7 fun K2 hK2=>G2 (JLh (E0 l) (G5 O O) O (JLh (G0 id_) (G5 O O) O ?_)))
 obtain⟨r3,hr3,h⟩:=Gf h
 refine JLh (G0 r3) (Gq (args:=[E0 l,G0 id_]) O (Ri l id_ r3 hr3) G7f ⟨O,O,O,O,G⟩) O (JLh (G0 r3) (G9 O O) O (G8 (hK2 _ _ (G7 (fun K4 hK4=>G7 (fun K5 hK5=>?_))))))
 obtain⟨y6,hy6,h⟩:=Gf h
 obtain⟨y7,hy7,h⟩:=Gf h
 obtain⟨y8,hy8,h⟩:=Gf h
 refine Q6 [] [0,0,0,0,0,0,0,0,0,0,0,0,0,0,0,0,0,0,0,0,0,0,0,0] [0,0,0,0,0,0,0,0,0,0,0,0,0,0,0,0,0,0,0,0,0,0,0,0] [[]] Jk (by kernel_rfl) rfl rfl ?_
 refine Gc (u:=G0 r3) O O ⟨Gw (G5 O O) O,G⟩ (Gc (u:=BL (decide (r3 < 0))) O O ⟨Gw (J2 O O O) O,G⟩ (Gc (u:=BL (decide (r3 < 0))) O O ⟨Gw (G5 O O) O,G⟩ (Gc (u:=.opt (!(decide (r3 < 0))) (Ee s)) O O ⟨Ge [] O O O .scf G (fun hc=>Gb Hi O O O) O,G⟩ (Gc (u:=.opt (!(decide (r3 < 0))) (E3 s.Columns)) O O ⟨Ge [(17,Ee s)] O O O .scf ⟨.all id,G⟩ (fun hc=>Gh Hq O O O) O,G⟩ (Gc (u:=.opt (!(decide (r3 < 0))) (G0 column)) O O ⟨Ge [] O O O .scf G (fun hc=>G5 O O) O,G⟩ (Gc (u:=.opt (!(decide (r3 < 0))) (Eh y6)) O O ⟨Ge [(18,E3 s.Columns),(19,G0 column)] O O O .scf ⟨.all id,.all id,G⟩ (fun hc=>(match Jf (Gz hc hy6) with | ⟨_,hm_,hy_⟩=>Gt (f:=G4.av) (xs:=s.Columns) (y:=y6) O O O H7 hy_ hm_)) O,G⟩ (Gc (u:=.opt (!(decide (r3 < 0))) (.dptr ((G4.cs y6).drop 2))) O O ⟨Ge [(20,Eh y6)] O O O .scf ⟨.all id,G⟩ (fun hc=>Gb Z2 O O O) O,G⟩ (Gc (u:=.opt (!(decide (r3 < 0))) (BL y6.Deck)) O O ⟨Ge [(21,.dptr ((G4.cs y6).drop 2))] O O O .scf ⟨.all id,G⟩ (fun hc=>Gh Rq O O O) O,G⟩ (Gc (u:=BL ((decide (r3 < 0))||y6.Deck)) O O ⟨Gw (Rn O O O O) O,G⟩ (Gc (u:=BL ((decide (r3 < 0))||y6.Deck)) O O ⟨Gw (G5 O O) O,G⟩ (Gc (u:=.opt (!((decide (r3 < 0))||y6.Deck)) (Ee s)) O O ⟨Ge [] O O O .scf G (fun hc=>Gb Hi O O O) O,G⟩ (Gc (u:=.opt (!((decide (r3 < 0))||y6.Deck)) (E3 s.Columns)) O O ⟨Ge [(25,Ee s)] O O O .scf ⟨.all id,G⟩ (fun hc=>Gh Hq O O O) O,G⟩ (Gc (u:=.opt (!((decide (r3 < 0))||y6.Deck)) (E0 l)) O O ⟨Ge [] O O O .scf G (fun hc=>G5 O O) O,G⟩ ?_)))))))))))))
 refine Gc (u:=.opt (!((decide (r3 < 0))||y6.Deck)) (G0 r3)) O O ⟨Ge [] O O O .scf G (fun hc=>G5 O O) O,G⟩ (Gc (u:=.opt (!((decide (r3 < 0))||y6.Deck)) (Ef y7)) O O ⟨Ge [(27,E0 l),(28,G0 r3)] O O O .scf ⟨.all id,.all id,G⟩ (fun hc=>(match Jf (Gz hc hy7) with | ⟨_,hm_,hy_⟩=>Gt (f:=G6.av) (xs:=l) (y:=y7) O O O H2 hy_ hm_)) O,G⟩ (Gc (u:=.opt (!((decide (r3 < 0))||y6.Deck)) (Eg y7.Slot)) O O ⟨Ge [(29,Ef y7)] O O O .scf ⟨.all id,G⟩ (fun hc=>Gb Hz O O O) O,G⟩ (Gc (u:=.opt (!((decide (r3 < 0))||y6.Deck)) (Eg y7.Slot)) O O ⟨Ge [(30,Eg y7.Slot)] O O O .scf ⟨.all id,G⟩ (fun hc=>Gb J0 O O O) O,G⟩ (Gc (u:=.opt (!((decide (r3 < 0))||y6.Deck)) (G0 y7.Slot.G4)) O O ⟨Ge [(31,Eg y7.Slot)] O O O .scf ⟨.all id,G⟩ (fun hc=>Gh Gd O O O) O,G⟩ (Gc (u:=.opt (!((decide (r3 < 0))||y6.Deck)) (Eh y8)) O O ⟨Ge [(26,E3 s.Columns),(32,G0 y7.Slot.G4)] O O O .scf ⟨.all id,.all id,G⟩ (fun hc=>(match Jf (Gz hc hy8) with | ⟨_,hm_,hy_⟩=>Gt (f:=G4.av) (xs:=s.Columns) (y:=y8) O O O H7 hy_ hm_)) O,G⟩ (Gc (u:=.opt (!((decide (r3 < 0))||y6.Deck)) (.dptr ((G4.cs y8).drop 2))) O O ⟨Ge [(33,Eh y8)] O O O .scf ⟨.all id,G⟩ (fun hc=>Gb Z2 O O O) O,G⟩ (Gc (u:=.opt (!((decide (r3 < 0))||y6.Deck)) (BL y8.Deck)) O O ⟨Ge [(34,.dptr ((G4.cs y8).drop 2))] O O O .scf ⟨.all id,G⟩ (fun hc=>Gh Rq O O O) O,G⟩ (Gc (u:=.opt (!((decide (r3 < 0))||y6.Deck)) (BL (!y8.Deck))) O O ⟨Ge [(35,BL y8.Deck)] O O O .scf ⟨.all id,G⟩ (fun hc=>Qv (b:=y8.Deck) O O) O,G⟩ (Gc (u:=BL (((decide (r3 < 0))||y6.Deck)||(!y8.Deck))) O O ⟨Gw (Rn O O O O) O,G⟩ (Yz ?_))))))))))
 refine hK5 _ _ (Gn O (fun hb=>?_) (fun hb=>?_))
 ·
  replace h:=Gz hb h
  refine G7 fun K9 hK9=>G2 (JLh (BL false) (G9 O O) O (G8 (hK9 _ _ (Gu (⟨[BL false],[],G,O,⟨⟨_,O,.conv (.same O)⟩,G⟩,O,congrArg (fun r:Bool=>(BL r:AV)) (Option.some.inj h)⟩)))))
 ·
  replace h:=Hv hb h
  refine Gp (hK4 _ _ (G7 fun K10 hK10=>G2 (JLh (.agg (Hb.cs s)) (Gj J8 O O O) O (JLh (G0 column) (G5 O O) O ?_))))
  obtain⟨r11,hr11,h⟩:=Gf h
  refine JLh (G0 r11) (Gq (args:=[.agg (Hb.cs s),G0 column]) O (G58 s column r11 hr11) J18 ⟨O,O,O,O,G⟩) O (JLh (G0 r11) (G9 O O) O (G8 (hK10 _ _ (G7 (fun K12 hK12=>?_)))))
  obtain⟨y13,hy13,h⟩:=Gf h
  obtain⟨r14,hr14,h⟩:=Gf h
  refine Q6 [] [0,0,0,0,0,0,0,0,0,0,0,0,0,0,0] [0,0,0,0,0,0,0,0,0,0,0,0,0,0,0] [[]] Jk (by kernel_rfl) rfl rfl ?_
  refine Gc (u:=G0 r11) O O ⟨Gw (G5 O O) O,G⟩ (Gc (u:=BL (decide (0≤r11))) O O ⟨Gw (G29 O O O) O,G⟩ (Gc (u:=BL (decide (0≤r11))) O O ⟨Gw (G5 O O) O,G⟩ (Gc (u:=.opt (decide (0≤r11)) (.agg (Hb.cs s))) O O ⟨Ge [] O O O .sct G (fun hc=>Gj J8 O O O) O,G⟩ (Gc (u:=.opt (decide (0≤r11)) (E0 l)) O O ⟨Ge [] O O O .sct G (fun hc=>G5 O O) O,G⟩ (Gc (u:=.opt (decide (0≤r11)) (G0 r3)) O O ⟨Ge [] O O O .sct G (fun hc=>G5 O O) O,G⟩ (Gc (u:=.opt (decide (0≤r11)) (Ef y13)) O O ⟨Ge [(45,E0 l),(46,G0 r3)] O O O .sct ⟨.all id,.all id,G⟩ (fun hc=>(match Jf (Gz hc hy13) with | ⟨_,hm_,hy_⟩=>Gt (f:=G6.av) (xs:=l) (y:=y13) O O O H2 hy_ hm_)) O,G⟩ (Gc (u:=.opt (decide (0≤r11)) (Eg y13.Slot)) O O ⟨Ge [(47,Ef y13)] O O O .sct ⟨.all id,G⟩ (fun hc=>Gb Hz O O O) O,G⟩ (Gc (u:=.opt (decide (0≤r11)) (Eg y13.Slot)) O O ⟨Ge [(48,Eg y13.Slot)] O O O .sct ⟨.all id,G⟩ (fun hc=>Gb J0 O O O) O,G⟩ (Gc (u:=.opt (decide (0≤r11)) (G0 y13.Slot.G4)) O O ⟨Ge [(49,Eg y13.Slot)] O O O .sct ⟨.all id,G⟩ (fun hc=>Gh Gd O O O) O,G⟩ (Gc (u:=.opt (decide (0≤r11)) (G0 r14)) O O ⟨Ge [(44,.agg (Hb.cs s)),(50,G0 y13.Slot.G4)] O O O .sct ⟨.all id,.all id,G⟩ (fun hc=>Gq (args:=[.agg (Hb.cs s),G0 y13.Slot.G4]) O (G58 s y13.Slot.G4 r14 (Gz hc hr14)) J18 ⟨O,O,O,O,G⟩) O,G⟩ (Gc (u:=.opt (decide (0≤r11)) (G0 r11)) O O ⟨Ge [] O O O .sct G (fun hc=>G5 O O) O,G⟩ (Gc (u:=.opt (decide (0≤r11)) (BL (decide (r14=r11)))) O O ⟨Ge [(51,G0 r14),(52,G0 r11)] O O O .sct ⟨.all id,.all id,G⟩ (fun hc=>Jx O O O) O,G⟩ (Gc (u:=BL ((decide (0≤r11))&&(decide (r14=r11)))) O O ⟨Gw (Hx O O O O) O,G⟩ ?_)))))))))))))
  refine Gc (u:=BL ((decide (0≤r11))&&(decide (r14=r11)))) O O ⟨Gw (G9 O O) O,G⟩ (Yz (hK12 _ _ (Gu (⟨[BL ((decide (0≤r11))&&(decide (r14=r11)))],[],G,O,⟨⟨_,O,.conv (.same O)⟩,G⟩,O,congrArg (fun r:Bool=>(BL r:AV)) (Option.some.inj h)⟩))))

def Qf (s:Hb) (l:List G6) (other:List G6) (id_:Int) (cause:Int):Option Bool:=
 bnd (Ja l cause) fun r3=>
 bif decide (r3 < 0) then
 (some false)
 else
 (bnd (Ja l id_) fun r8=>
  bnd (bif decide (0≤r8) then Q3 l r8 some else some default) fun y11=>
  bnd (bif decide (0≤r8) then Q3 l r3 some else some default) fun y12=>
  bnd (bif decide (0≤r8) then Zh y11.Slot y12.Slot else some default) fun r13=>
  bif ((decide (0≤r8))&&r13) then
  (some true)
  else
  (Q3 l r3 fun y16=>
   bnd (Qu s l id_ y16.Slot.G4) fun r18=>
   bnd (bif (!r18) then Q3 l r3 some else some default) fun y19=>
   bnd (bif (!r18) then Qu s other id_ y19.Slot.G4 else some default) fun r20=>
   some (r18||r20)))
theorem G57 (s:Hb) (l:List G6) (other:List G6) (id_:Int) (cause:Int) (r:Bool) (h:Qf s l other id_ cause=some r):Pure Tryz.prog 96 [.agg (Hb.cs s),E0 l,E0 other,G0 id_,G0 cause] (·=BL r):=by
 unfold Qf at h
 refine H1 [.tmp 10] Tryz.func96 O O (G7 fun K1 hK1=>G2 (JLh (.ptr 1077 0) (Jy (u:=.agg (Hb.cs s)) (cs:=(Hb.cs s)) 1077 O O O O O) O (JLh (BL false) (G9 O O) O (G8 (hK1 _ _ ?_)))))
 refine Gx [(1,E0 l),(2,E0 other),(3,G0 id_),(4,G0 cause),(5,Ee s)] [] 1077 rfl rfl rfl G rfl (by repeat' (first | exact .ptr | constructor)) (G7 fun K2 hK2=>G2 (JLh (E0 l) (G5 O O) O (JLh (G0 cause) (G5 O O) O ?_)))
 obtain⟨r3,hr3,h⟩:=Gf h
 refine JLh (G0 r3) (Gq (args:=[E0 l,G0 cause]) O (Ri l cause r3 hr3) G7f ⟨O,O,O,O,G⟩) O (JLh (G0 r3) (G9 O O) O (G8 (hK2 _ _ (G7 (fun K4 hK4=>G7 fun K5 hK5=>G2 (JLh (G0 r3) (G5 O O) O (JLh (BL (decide (r3 < 0))) (J2 O O O) O (G8 (hK5 _ _ (Gn O (fun hb=>?_) (fun hb=>?_)))))))))))
 ·
  replace h:=Gz hb h
  refine G7 fun K6 hK6=>G2 (JLh (BL false) (G9 O O) O (G8 (hK6 _ _ (Gu (⟨[BL false],[],G,O,⟨⟨_,O,.conv (.same O)⟩,G⟩,O,congrArg (fun r:Bool=>(BL r:AV)) (Option.some.inj h)⟩)))))
 ·
  replace h:=Hv hb h
  refine Gp (hK4 _ _ (G7 fun K7 hK7=>G2 (JLh (E0 l) (G5 O O) O (JLh (G0 id_) (G5 O O) O ?_))))
  obtain⟨r8,hr8,h⟩:=Gf h
  refine JLh (G0 r8) (Gq (args:=[E0 l,G0 id_]) O (Ri l id_ r8 hr8) G7f ⟨O,O,O,O,G⟩) O (JLh (G0 r8) (G9 O O) O (G8 (hK7 _ _ (G7 (fun K9 hK9=>G7 (fun K10 hK10=>?_))))))
  obtain⟨y11,hy11,h⟩:=Gf h
  obtain⟨y12,hy12,h⟩:=Gf h
  obtain⟨r13,hr13,h⟩:=Gf h
  refine Q6 [] [0,0,0,0,0,0,0,0,0,0,0,0,0,0,0] [0,0,0,0,0,0,0,0,0,0,0,0,0,0,0] [[]] Jk (by kernel_rfl) rfl rfl ?_
  refine Gc (u:=G0 r8) O O ⟨Gw (G5 O O) O,G⟩ (Gc (u:=BL (decide (0≤r8))) O O ⟨Gw (G29 O O O) O,G⟩ (Gc (u:=BL (decide (0≤r8))) O O ⟨Gw (G5 O O) O,G⟩ (Gc (u:=.opt (decide (0≤r8)) (E0 l)) O O ⟨Ge [] O O O .sct G (fun hc=>G5 O O) O,G⟩ (Gc (u:=.opt (decide (0≤r8)) (G0 r8)) O O ⟨Ge [] O O O .sct G (fun hc=>G5 O O) O,G⟩ (Gc (u:=.opt (decide (0≤r8)) (Ef y11)) O O ⟨Ge [(24,E0 l),(25,G0 r8)] O O O .sct ⟨.all id,.all id,G⟩ (fun hc=>(match Jf (Gz hc hy11) with | ⟨_,hm_,hy_⟩=>Gt (f:=G6.av) (xs:=l) (y:=y11) O O O H2 hy_ hm_)) O,G⟩ (Gc (u:=.opt (decide (0≤r8)) (Eg y11.Slot)) O O ⟨Ge [(26,Ef y11)] O O O .sct ⟨.all id,G⟩ (fun hc=>Gb Hz O O O) O,G⟩ (Gc (u:=.opt (decide (0≤r8)) (.agg (Slot.cs y11.Slot))) O O ⟨Ge [(27,Eg y11.Slot)] O O O .sct ⟨.all id,G⟩ (fun hc=>Gj Jh O O O) O,G⟩ (Gc (u:=.opt (decide (0≤r8)) (E0 l)) O O ⟨Ge [] O O O .sct G (fun hc=>G5 O O) O,G⟩ (Gc (u:=.opt (decide (0≤r8)) (G0 r3)) O O ⟨Ge [] O O O .sct G (fun hc=>G5 O O) O,G⟩ (Gc (u:=.opt (decide (0≤r8)) (Ef y12)) O O ⟨Ge [(29,E0 l),(30,G0 r3)] O O O .sct ⟨.all id,.all id,G⟩ (fun hc=>(match Jf (Gz hc hy12) with | ⟨_,hm_,hy_⟩=>Gt (f:=G6.av) (xs:=l) (y:=y12) O O O H2 hy_ hm_)) O,G⟩ (Gc (u:=.opt (decide (0≤r8)) (Eg y12.Slot)) O O ⟨Ge [(31,Ef y12)] O O O .sct ⟨.all id,G⟩ (fun hc=>Gb Hz O O O) O,G⟩ (Gc (u:=.opt (decide (0≤r8)) (.agg (Slot.cs y12.Slot))) O O ⟨Ge [(32,Eg y12.Slot)] O O O .sct ⟨.all id,G⟩ (fun hc=>Gj Jh O O O) O,G⟩ (Gc (u:=.opt (decide (0≤r8)) (BL r13)) O O ⟨Ge [(28,.agg (Slot.cs y11.Slot)),(33,.agg (Slot.cs y12.Slot))] O O O .sct ⟨.all id,.all id,G⟩ (fun hc=>Gq (args:=[.agg (Slot.cs y11.Slot),.agg (Slot.cs y12.Slot)]) O (H37 y11.Slot y12.Slot r13 (Gz hc hr13)) Jc7 ⟨O,O,O,O,G⟩) O,G⟩ ?_)))))))))))))
  refine Gc (u:=BL ((decide (0≤r8))&&r13)) O O ⟨Gw (Hx O O O O) O,G⟩ (Yz (hK10 _ _ (Gn O (fun hb=>?_) (fun hb=>?_))))
  ·
   replace h:=Gz hb h
   refine G7 fun K14 hK14=>G2 (JLh (BL true) (G9 O O) O (G8 (hK14 _ _ (Gu (⟨[BL true],[],G,O,⟨⟨_,O,.conv (.same O)⟩,G⟩,O,congrArg (fun r:Bool=>(BL r:AV)) (Option.some.inj h)⟩)))))
  ·
   replace h:=Hv hb h
   refine Gp (hK9 _ _ (G7 (fun K15 hK15=>?_)))
   obtain⟨m17,y16,hm17,hy16,h⟩:=Y3 h
   obtain⟨r18,hr18,h⟩:=Gf h
   obtain⟨y19,hy19,h⟩:=Gf h
   obtain⟨r20,hr20,h⟩:=Gf h
   refine Q6 [] [0,0,0,0,0,0,0,0,0,0,0,0,0,0,0,0,0,0,0,0,0,0,0] [0,0,0,0,0,0,0,0,0,0,0,0,0,0,0,0,0,0,0,0,0,0,0] [[]] Jk (by kernel_rfl) rfl rfl ?_
   refine Gc (u:=.agg (Hb.cs s)) O O ⟨Gw (Gj J8 O O O) O,G⟩ (Gc (u:=E0 l) O O ⟨Gw (G5 O O) O,G⟩ (Gc (u:=G0 id_) O O ⟨Gw (G5 O O) O,G⟩ (Gc (u:=E0 l) O O ⟨Gw (G5 O O) O,G⟩ (Gc (u:=G0 r3) O O ⟨Gw (G5 O O) O,G⟩ (Gc (u:=Ef y16) O O ⟨Gw (Gt (f:=G6.av) (xs:=l) (y:=y16) O O O H2 hy16 hm17) O,G⟩ (Gc (u:=Eg y16.Slot) O O ⟨Gw (Gb Hz O O O) O,G⟩ (Gc (u:=Eg y16.Slot) O O ⟨Gw (Gb J0 O O O) O,G⟩ (Gc (u:=G0 y16.Slot.G4) O O ⟨Gw (Gh Gd O O O) O,G⟩ (Gc (u:=BL r18) O O ⟨Gw (Gq (args:=[.agg (Hb.cs s),E0 l,G0 id_,G0 y16.Slot.G4]) O (G86 s l id_ y16.Slot.G4 r18 hr18) J1e ⟨O,O,O,O,O,O,O,O,G⟩) O,G⟩ (Gc (u:=BL r18) O O ⟨Gw (G5 O O) O,G⟩ (Gc (u:=.opt (!r18) (.agg (Hb.cs s))) O O ⟨Ge [] O O O .scf G (fun hc=>Gj J8 O O O) O,G⟩ (Gc (u:=.opt (!r18) (E0 other)) O O ⟨Ge [] O O O .scf G (fun hc=>G5 O O) O,G⟩ (Gc (u:=.opt (!r18) (G0 id_)) O O ⟨Ge [] O O O .scf G (fun hc=>G5 O O) O,G⟩ ?_)))))))))))))
   refine Gc (u:=.opt (!r18) (E0 l)) O O ⟨Ge [] O O O .scf G (fun hc=>G5 O O) O,G⟩ (Gc (u:=.opt (!r18) (G0 r3)) O O ⟨Ge [] O O O .scf G (fun hc=>G5 O O) O,G⟩ (Gc (u:=.opt (!r18) (Ef y19)) O O ⟨Ge [(50,E0 l),(51,G0 r3)] O O O .scf ⟨.all id,.all id,G⟩ (fun hc=>(match Jf (Gz hc hy19) with | ⟨_,hm_,hy_⟩=>Gt (f:=G6.av) (xs:=l) (y:=y19) O O O H2 hy_ hm_)) O,G⟩ (Gc (u:=.opt (!r18) (Eg y19.Slot)) O O ⟨Ge [(52,Ef y19)] O O O .scf ⟨.all id,G⟩ (fun hc=>Gb Hz O O O) O,G⟩ (Gc (u:=.opt (!r18) (Eg y19.Slot)) O O ⟨Ge [(53,Eg y19.Slot)] O O O .scf ⟨.all id,G⟩ (fun hc=>Gb J0 O O O) O,G⟩ (Gc (u:=.opt (!r18) (G0 y19.Slot.G4)) O O ⟨Ge [(54,Eg y19.Slot)] O O O .scf ⟨.all id,G⟩ (fun hc=>Gh Gd O O O) O,G⟩ (Gc (u:=.opt (!r18) (BL r20)) O O ⟨Ge [(47,.agg (Hb.cs s)),(48,E0 other),(49,G0 id_),(55,G0 y19.Slot.G4)] O O O .scf ⟨.all id,.all id,.all id,.all id,G⟩ (fun hc=>Gq (args:=[.agg (Hb.cs s),E0 other,G0 id_,G0 y19.Slot.G4]) O (G86 s other id_ y19.Slot.G4 r20 (Gz hc hr20)) J1e ⟨O,O,O,O,O,O,O,O,G⟩) O,G⟩ (Gc (u:=BL (r18||r20)) O O ⟨Gw (Rn O O O O) O,G⟩ (Gc (u:=BL (r18||r20)) O O ⟨Gw (G9 O O) O,G⟩ (Yz ?_)))))))))
   refine hK15 _ _ (Gu (⟨[BL (r18||r20)],[],G,O,⟨⟨_,O,.conv (.same O)⟩,G⟩,O,congrArg (fun r:Bool=>(BL r:AV)) (Option.some.inj h)⟩))

def Zd (l:List Gs) (id_:Int):Option Bool:=
 each (fun y19 i19 (s19:Unit) nx19=>
  bif ((decide (y19.id=id_))&&y19.in_) then
  (some true)
  else
  (nx19 ()))
 (fun(s19:Unit)=>
  some false) l 0 ()
theorem H66 (l:List Gs) (id_:Int) (r:Bool) (h:Zd l id_=some r):Pure Tryz.prog 97 [Ea l,G0 id_] (·=BL r):=by
 unfold Zd at h
 refine H1 [.tmp 4] Tryz.func97 O O (G7 fun K1 hK1=>G2 (JLh (BL false) (G9 O O) O (G8 (hK1 _ _ (G7 (fun K2 hK2=>G7 fun K3 hK3=>G2 (JLh (G0 0) (G9 O O) O (G8 (hK3 _ _ (Gk ?_))))))))))
 obtain⟨b19,kx19,hb19,hkx19,h⟩:=Hw h
 refine Hc (fun i19 (s19:Unit)=>each b19 kx19 (List.drop i19 l) i19 s19=some r) (fun i19 s19=>[(0,Ea l),(1,G0 id_),(5,En i19)]) (fun i19 s19=>[]) (fun i19=>l.length - i19) 0 () h ⟨⟨.same O,.same O,.same O,G⟩,G,O⟩ ?_
 clear h
 intro i19 s19 hi19 K19 e19
 refine G7 (fun K20 hK20=>G7 fun K21 hK21=>G2 (JLh (En i19) (G5 O O) O (JLh (Ea l) (G5 O O) O (H3 (f:=Gs.av) (xs:=l) Qc O O (fun hm8=>?_) O O O))))
 refine JLh (BL (decide ((i19:Int) < (l.length:Int)))) (J2 O O O) O (G8 (hK21 _ _ (Gn O (fun hb=>?_) (fun hb=>?_))))
 ·
  have hk19:=Jc hb
  obtain⟨y19,nx19,hy19,hn19,h⟩:=Hn hi19 hk19
  replace h:=Yb hb19 h
  refine Gp (hK20 _ _ (G7 (fun K22 hK22=>Gk (G7 fun K23 hK23=>G2 (JLh (Ea l) (G5 O O) O (JLh (En i19) (G5 O O) O (JLh (.dptr [G0 y19.id,BL y19.in_]) (Gt (f:=Gs.av) (xs:=l) (y:=y19) O O O Qc hy19 O) O (JLh (.dptr [G0 y19.id,BL y19.in_]) (Gb Z0 O O O) O (JLh (G0 y19.id) (Gh Gd O O O) O (JLh (G0 id_) (G5 O O) O (JLh (BL (decide (y19.id=id_))) (Jx O O O) O (JLh (BL (decide (y19.id=id_))) (G5 O O) O (Ga (u:=Ea l) [] O O O .sct G (fun hc=>G5 O O) ?_)))))))))))))
  refine Ga (u:=En i19) [] O O O .sct G (fun hc=>G5 O O) ?_
  refine Ga (u:=.dptr [G0 y19.id,BL y19.in_]) [(20,Ea l),(21,En i19)] O O O .sct ⟨.all id,.all id,G⟩ (fun hc=>Gt (f:=Gs.av) (xs:=l) (y:=y19) O O O Qc hy19 O) ?_
  refine Ga (u:=.dptr [BL y19.in_]) [(22,.dptr [G0 y19.id,BL y19.in_])] O O O .sct ⟨.all id,G⟩ (fun hc=>Gb G8e O O O) ?_
  refine Ga (u:=BL y19.in_) [(23,.dptr [BL y19.in_])] O O O .sct ⟨.all id,G⟩ (fun hc=>Gh Rq O O O) ?_
  refine JLh (BL ((decide (y19.id=id_))&&y19.in_)) (Hx O O O O) O (G8 (hK23 _ _ (Gn O (fun hb=>?_) (fun hb=>?_))))
  ·
   replace h:=Gz hb h
   refine G7 fun K24 hK24=>G2 (JLh (BL true) (G9 O O) O (G8 (hK24 _ _ (Gu (⟨[BL true],[],G,O,⟨⟨_,O,.conv (.same O)⟩,G⟩,O,congrArg (fun r:Bool=>(BL r:AV)) (Option.some.inj h)⟩)))))
  ·
   replace h:=Hv hb h
   refine Gp (hK22 _ _ (G2 (JLh (En i19) (G5 O O) O (JLh (G0 ((i19+1:Nat):Int)) (Hy (He hk19 hm8) O O O) O (JLh (G0 ((i19+1:Nat):Int)) (G9 O O) O (G8 (e19 _ _ (i19+1) () (app1 hn19 h) (by omega) ⟨⟨.same rfl,.same rfl,.same rfl,G⟩,G,rfl⟩)))))))
 ·
  have h:=app1 hkx19 (Ho hi19 (H9 hb))
  refine Hk (hK2 _ _ (G7 fun K25 hK25=>G2 (JLh (BL false) (G9 O O) O (G8 (hK25 _ _ (Gu (⟨[BL false],[],G,O,⟨⟨_,O,.conv (.same O)⟩,G⟩,O,congrArg (fun r:Bool=>(BL r:AV)) (Option.some.inj h)⟩)))))))

def Yq (F:Nat) (s:Hb) (boxes:List Gv) (before:List G6) (after:List G6):Option ((List Int)×Int):=
 bnd (Y1 F s boxes before) fun r4=>
 bnd (bif (!(!r4)) then Y1 F s boxes after else some default) fun r5=>
 bif ((!r4)||(!r5)) then
 (some ([],2))
 else
 (each (fun y52 i52 (s52:(List Gs)) nx52=>
   jp (fun kj55=>
    bnd (Ja before y52.ID) fun r58=>
    bnd (bif (!(decide (0≤r58))) then Ja after y52.ID else some default) fun r59=>
    bif ((decide (0≤r58))||(decide (0≤r59))) then
    (bnd (Y0 before after y52.ID) fun r60=>
     need (decide ((s52.length+[(Gs.mk y52.ID r60)].length)*16≤140737488355328∧s52.length+[(Gs.mk y52.ID r60)].length≤maxLen)) <|
     kj55 (s52++[(Gs.mk y52.ID r60)]))
    else
    (kj55 s52)) fun(j55:(List Gs))=>
   nx52 j55)
  (fun(s52:(List Gs))=>
   loop (fun nx64 (s64:Bool×(List Gs))=>
    bif s64.1 then
    (need (decide (((s52.length:Nat):Int)≤9223372036854775807)) <|
     upto (fun i69 (s69:Bool×(List Gs)) nx69=>
      need (decide (((s52.length:Nat):Int)≤9223372036854775807)) <|
      upto (fun i144 (s144:Bool×(List Gs)) nx144=>
       jp (fun kj147=>
        Q3 s144.2 (i69:Int) fun y150=>
        bnd (bif (!y150.in_) then Q3 s144.2 (i144:Int) some else some default) fun y151=>
        bif (y150.in_||(!y151.in_)) then
        (kj147 (s144.1,s144.2))
        else
        (Q3 s144.2 (i69:Int) fun y153=>
         Q3 s144.2 (i144:Int) fun y154=>
         bnd (Qf s before after y153.id y154.id) fun r155=>
         bnd (bif (!r155) then Q3 s144.2 (i69:Int) some else some default) fun y156=>
         bnd (bif (!r155) then Q3 s144.2 (i144:Int) some else some default) fun y157=>
         bnd (bif (!r155) then Qf s after before y156.id y157.id else some default) fun r158=>
         bif (r155||r158) then
         (Q3 s144.2 (i69:Int) fun y159=>
          kj147 (true,(s144.2.set (i69:Int).toNat (Gs.mk y159.id true))))
         else
         (kj147 (s144.1,s144.2)))) fun(j147:Bool×(List Gs))=>
       nx144 (j147.1,j147.2))
      (fun(s144:Bool×(List Gs))=>
       nx69 (s144.1,s144.2)) ((s52.length:Nat):Int).toNat 0 (s69.1,s69.2))
     (fun(s69:Bool×(List Gs))=>
      nx64 (s69.1,s69.2)) ((s52.length:Nat):Int).toNat 0 (false,s64.2))
    else
    (loop (fun nx162 (s162:(List Int)×Int)=>
      each (fun y188 i188 (s188:Int×Bool) nx188=>
       jp (fun kj191=>
        bnd (Zd s64.2 y188.id) fun r193=>
        bif ((r193&&((decide ((s162.1.length:Int)=0))||(decide (s162.2 < y188.id))))&&((!s188.2)||(decide (y188.id < s188.1)))) then
        (kj191 (y188.id,true))
        else
        (kj191 (s188.1,s188.2))) fun(j191:Int×Bool)=>
       nx188 (j191.1,j191.2))
      (fun(s188:Int×Bool)=>
       bif (!s188.2) then
       (some (s162.1,0))
       else
       (need (decide ((s162.1.length+[s188.1].length)*8≤140737488355328∧s162.1.length+[s188.1].length≤maxLen)) <|
        nx162 ((s162.1++[s188.1]),s188.1))) s64.2 0 (0,false)) F ([],0))) F (true,s52)) boxes 0 [])
theorem H03 (F:Nat) (s:Hb) (boxes:List Gv) (before:List G6) (after:List G6) (r:(List Int)×Int) (h:Yq F s boxes before after=some r):Pure Tryz.prog 32 [.agg (Hb.cs s),E2 boxes,E0 before,E0 after] (·=.tup [E1 r.1,G0 r.2]):=by
 unfold Yq at h
 refine H1 [.tmp 8,.tmp 9] Tryz.func32 O O (G7 fun K1 hK1=>G2 (JLh (.ptr 1028 0) (Jy (u:=.agg (Hb.cs s)) (cs:=(Hb.cs s)) 1028 O O O O O) O (JLh (E1 ([]:List Int)) (R4 1 O O) O (JLh (G0 0) (G9 O O) O (G8 (hK1 _ _ ?_))))))
 refine Gx [(1,E2 boxes),(2,E0 before),(3,E0 after),(4,Ee s)] [] 1028 rfl rfl rfl G rfl (by repeat' (first | exact .ptr | constructor)) (G7 (fun K2 hK2=>?_))
 refine G7 fun K3 hK3=>G2 (JLh (.agg (Hb.cs s)) (Gj J8 O O O) O (JLh (E2 boxes) (G5 O O) O (JLh (E0 before) (G5 O O) O ?_)))
 obtain⟨r4,hr4,h⟩:=Gf h
 refine JLh (BL r4) (Gq (args:=[.agg (Hb.cs s),E2 boxes,E0 before]) O (G70 F s boxes before r4 hr4) J61 ⟨O,O,O,O,O,O,G⟩) O (JLh (BL (!r4)) (Qv (b:=r4) O O) O (JLh (BL (!r4)) (G5 O O) O (Ga (u:=.agg (Hb.cs s)) [] O O O .scf G (fun hc=>Gj J8 O O O) ?_)))
 refine Ga (u:=E2 boxes) [] O O O .scf G (fun hc=>G5 O O) ?_
 refine Ga (u:=E0 after) [] O O O .scf G (fun hc=>G5 O O) ?_
 obtain⟨r5,hr5,h⟩:=Gf h
 refine Ga (u:=BL r5) [(27,.agg (Hb.cs s)),(28,E2 boxes),(29,E0 after)] O O O .scf ⟨.all id,.all id,.all id,G⟩ (fun hc=>Gq (args:=[.agg (Hb.cs s),E2 boxes,E0 after]) O (G70 F s boxes after r5 (Gz hc hr5)) J61 ⟨O,O,O,O,O,O,G⟩) ?_
 refine Ga (u:=BL (!r5)) [(30,BL r5)] O O O .scf ⟨.all id,G⟩ (fun hc=>Qv (b:=r5) O O) ?_
 refine JLh (BL ((!r4)||(!r5))) (Rn O O O O) O (G8 (hK3 _ _ (Gn O (fun hb=>?_) (fun hb=>?_))))
 ·
  replace h:=Gz hb h
  refine G7 fun K6 hK6=>G2 (JLh (E1 ([]:List Int)) (R4 1 O O) O (JLh (G0 2) (G9 O O) O (G8 (hK6 _ _ (Gu (⟨[E1 ([]:List Int),G0 2],[],G,O,⟨⟨_,O,.conv (.same O)⟩,⟨_,O,.conv (.same O)⟩,G⟩,O,congrArg (fun r:(List Int)×Int=>(.tup [E1 r.1,G0 r.2]:AV)) (Option.some.inj h)⟩))))))
 ·
  replace h:=Hv hb h
  refine Gp (hK2 _ _ (G7 fun K7 hK7=>G2 (JLh (.vec 1029 (([]:List Gs).length) 2 (([]:List Gs).length)) (Q14 1029 176 2 O O O) O (G8 (hK7 _ _ (G7 (fun K8 hK8=>G7 fun K9 hK9=>G2 (JLh (G0 0) (G9 O O) O (G8 (hK9 _ _ (Gk ?_)))))))))))
  obtain⟨b52,kx52,hb52,hkx52,h⟩:=Hw h
  refine Hc (fun i52 (s52:(List Gs))=>each b52 kx52 (List.drop i52 boxes) i52 s52=some r) (fun i52 s52=>[(1,E2 boxes),(2,E0 before),(3,E0 after),(4,Ee s),(10,.vec 1029 s52.length 2 s52.length),(11,En i52)]) (fun i52 s52=>[(1029,.vec 176 2 s52.length (s52.map Gs.av))]) (fun i52=>boxes.length - i52) 0 [] h ⟨(by repeat' constructor),⟨⟨_,rfl,.vec⟩,G⟩,rfl⟩ ?_
  clear h
  intro i52 s52 hi52 K52 e52
  refine G7 (fun K53 hK53=>G7 fun K54 hK54=>G2 (JLh (En i52) (G5 O O) O (JLh (E2 boxes) (G5 O O) O (H3 (f:=Gv.av) (xs:=boxes) J5 O O (fun hm35=>?_) O O O))))
  refine JLh (BL (decide ((i52:Int) < (boxes.length:Int)))) (J2 O O O) O (G8 (hK54 _ _ (Gn O (fun hb=>?_) (fun hb=>?_))))
  ·
   have hk52:=Jc hb
   obtain⟨y52,nx52,hy52,hn52,h⟩:=Hn hi52 hk52
   replace h:=Yb hb52 h
   refine Gp (hK53 _ _ ?_)
   obtain⟨kj55,hkj55,h⟩:=G69 h
   refine G33 (fun j55:(List Gs)=>kj55 j55=some r) (fun j55=>[(1,E2 boxes),(2,E0 before),(3,E0 after),(4,Ee s),(10,.vec 1029 j55.length 2 j55.length),(11,En i52)]) (fun j55=>[(1029,.vec 176 2 j55.length (j55.map Gs.av))]) (fun Kj55 ej55=>?_) ?_
   ·
    refine Gk (G7 fun K56 hK56=>G2 (JLh (E2 boxes) (G5 O O) O (JLh (En i52) (G5 O O) O (JLh (Ei y52) (Gt (f:=Gv.av) (xs:=boxes) (y:=y52) O O O J5 hy52 O) O (JLh (Ei y52) (Gb G14 O O O) O (JLh (G0 y52.ID) (Gh Gd O O O) O (JLh (G0 y52.ID) (G9 O O) O (G8 (hK56 _ _ (G7 fun K57 hK57=>G2 (JLh (E0 before) (G5 O O) O (JLh (G0 y52.ID) (G5 O O) O ?_))))))))))))
    obtain⟨r58,hr58,h⟩:=Gf h
    refine JLh (G0 r58) (Gq (args:=[E0 before,G0 y52.ID]) O (Ri before y52.ID r58 hr58) G7f ⟨O,O,O,O,G⟩) O (JLh (BL (decide (0≤r58))) (G29 O O O) O (JLh (BL (decide (0≤r58))) (G5 O O) O (Ga (u:=E0 after) [] O O O .scf G (fun hc=>G5 O O) ?_)))
    refine Ga (u:=G0 y52.ID) [] O O O .scf G (fun hc=>G5 O O) ?_
    obtain⟨r59,hr59,h⟩:=Gf h
    refine Ga (u:=G0 r59) [(49,E0 after),(50,G0 y52.ID)] O O O .scf ⟨.all id,.all id,G⟩ (fun hc=>Gq (args:=[E0 after,G0 y52.ID]) O (Ri after y52.ID r59 (Gz hc hr59)) G7f ⟨O,O,O,O,G⟩) ?_
    refine Ga (u:=BL (decide (0≤r59))) [(51,G0 r59)] O O O .scf ⟨.all id,G⟩ (fun hc=>G29 O O O) ?_
    refine JLh (BL ((decide (0≤r58))||(decide (0≤r59)))) (Rn O O O O) O (G8 (hK57 _ _ (Gn O (fun hb=>?_) (fun hb=>?_))))
    ·
     replace h:=Gz hb h
     refine G2 (JLh (.vec 1029 s52.length 2 s52.length) (G5 O O) O (JLh (G0 y52.ID) (G5 O O) O (JLh (E0 before) (G5 O O) O (JLh (E0 after) (G5 O O) O (JLh (G0 y52.ID) (G5 O O) O ?_)))))
     obtain⟨r60,hr60,h⟩:=Gf h
     refine JLh (BL r60) (Gq (args:=[E0 before,E0 after,G0 y52.ID]) O (H25 before after y52.ID r60 hr60) Jf7 ⟨O,O,O,O,O,O,G⟩) O (JLh (.agg [G0 y52.ID,BL r60]) (Jv (cs:=[G0 y52.ID,BL r60]) [(0,1),(1,1)] [G0 0,BL false] [.int .i64 0,.bool false] Ja1 Jb4 ⟨.inl O,.inl O,G⟩ O O) O (JLh (Ea [(Gs.mk y52.ID r60)]) (Hm (xs:=[.agg [G0 y52.ID,BL r60]]) O ⟨O,O,G⟩ Qc Jaa O O O O) O ?_))
     obtain⟨ha61,h⟩:=J6 h
     refine JLh (.vec 1029 ((s52++[(Gs.mk y52.ID r60)]).length) 2 ((s52++[(Gs.mk y52.ID r60)]).length)) (J96 (f:=Gs.av) (xs:=s52) (ys:=[(Gs.mk y52.ID r60)]) (ver:=s52.length) (ver1:=(s52++[(Gs.mk y52.ID r60)]).length) rfl rfl rfl rfl Qc Jb9 ha61 (fun _=>rfl) (.inl rfl) (by simp)) O (JLh (.vec 1029 ((s52++[(Gs.mk y52.ID r60)]).length) 2 ((s52++[(Gs.mk y52.ID r60)]).length)) (G9 O O) O (G8 (ej55 _ _ (s52++[(Gs.mk y52.ID r60)]) h ⟨(by repeat' constructor),⟨⟨_,rfl,.vec⟩,G⟩,rfl⟩)))
    ·
     replace h:=Hv hb h
     refine Gp (ej55 _ _ s52 h ⟨(by repeat' constructor),⟨⟨_,rfl,.vec⟩,G⟩,rfl⟩)
   ·intro j55 h
    replace h:=app1 hkj55 h
    refine G2 (JLh (En i52) (G5 O O) O (JLh (G0 ((i52+1:Nat):Int)) (Hy (He hk52 hm35) O O O) O (JLh (G0 ((i52+1:Nat):Int)) (G9 O O) O (G8 (e52 _ _ (i52+1) j55 (app1 hn52 h) (by omega) ⟨(by repeat' constructor),⟨⟨_,rfl,.vec⟩,G⟩,rfl⟩)))))
  ·
   have h:=app1 hkx52 (Ho hi52 (H9 hb))
   refine Hk (hK8 _ _ (G7 (fun K62 hK62=>G7 fun K63 hK63=>G2 (JLh (BL true) (G9 O O) O (G8 (hK63 _ _ (Gk ?_)))))))
   obtain⟨b64,hb64,h⟩:=loop_in h
   refine Hc (fun i64 (s64:Bool×(List Gs))=>loop b64 i64 s64=some r) (fun i64 s64=>[(2,E0 before),(3,E0 after),(4,Ee s),(10,.vec 1029 s52.length 2 s52.length),(13,BL s64.1)]) (fun i64 s64=>[(1029,.vec 176 2 s52.length (s64.2.map Gs.av))]) (fun i64=>i64) F (true,s52) h ⟨(by repeat' constructor),⟨⟨_,rfl,.vec⟩,G⟩,rfl⟩ ?_
   clear h
   intro i64 s64 hi64 K64 e64
   obtain⟨m64,nx64,hm_64,hn64,h⟩:=J77 hi64
   replace h:=app2 hb64 h
   refine G7 (fun K65 hK65=>G7 fun K66 hK66=>G2 (JLh (BL s64.1) (G5 O O) O (G8 (hK66 _ _ (Gn O (fun hb=>?_) (fun hb=>?_))))))
   ·
    replace h:=Gz hb h
    refine Gp (hK65 _ _ (Gk (G7 fun K67 hK67=>G2 (JLh (BL false) (G9 O O) O (G8 (hK67 _ _ (G7 fun K68 hK68=>G2 (JLh (G0 0) (G9 O O) O (G8 (hK68 _ _ (Gk ?_)))))))))))
    obtain⟨hx69,h⟩:=J6 h
    obtain⟨b69,kx69,hb69,hkx69,h⟩:=G5d h
    refine Hc (fun i69 (s69:Bool×(List Gs))=>upto b69 kx69 (((s52.length:Nat):Int).toNat - i69) i69 s69=some r) (fun i69 s69=>[(2,E0 before),(3,E0 after),(4,Ee s),(10,.vec 1029 s52.length 2 s52.length),(13,BL s69.1),(14,En i69)]) (fun i69 s69=>[(1029,.vec 176 2 s52.length (s69.2.map Gs.av))]) (fun i69=>((s52.length:Nat):Int).toNat - i69) 0 (false,s64.2) h ⟨(by repeat' constructor),⟨⟨_,rfl,.vec⟩,G⟩,rfl⟩ ?_
    clear h
    intro i69 s69 hi69 K69 e69
    refine G7 (fun K70 hK70=>G7 fun K71 hK71=>G2 (JLh (En i69) (G5 O O) O (JLh (.vec 1029 s52.length 2 s52.length) (G5 O O) O (JLh (G0 ((s52.length:Nat):Int)) (Q16 Qc O O O) O (JLh (BL (decide ((i69:Int) < ((s52.length:Nat):Int)))) (J2 O O O) O (G8 (hK71 _ _ (Gn O (fun hb=>?_) (fun hb=>?_)))))))))
    ·
     have hk69:=G37 hb
     obtain⟨nx69,hn69,h⟩:=G34 hi69 hk69
     replace h:=Heb hb69 h
     refine Gp (hK70 _ _ (G7 (fun K72 hK72=>Gk (G7 fun K73 hK73=>G2 (JLh (G0 0) (G9 O O) O (G8 (hK73 _ _ (Gk ?_))))))))
     obtain⟨hx144,h⟩:=J6 h
     obtain⟨b144,kx144,hb144,hkx144,h⟩:=G5d h
     refine Hc (fun i144 (s144:Bool×(List Gs))=>upto b144 kx144 (((s52.length:Nat):Int).toNat - i144) i144 s144=some r) (fun i144 s144=>[(2,E0 before),(3,E0 after),(4,Ee s),(10,.vec 1029 s52.length 2 s52.length),(13,BL s144.1),(14,En i69),(15,En i144)]) (fun i144 s144=>[(1029,.vec 176 2 s52.length (s144.2.map Gs.av))]) (fun i144=>((s52.length:Nat):Int).toNat - i144) 0 (s69.1,s69.2) h ⟨(by repeat' constructor),⟨⟨_,rfl,.vec⟩,G⟩,rfl⟩ ?_
     clear h
     intro i144 s144 hi144 K144 e144
     refine G7 (fun K145 hK145=>G7 fun K146 hK146=>G2 (JLh (En i144) (G5 O O) O (JLh (.vec 1029 s52.length 2 s52.length) (G5 O O) O (JLh (G0 ((s52.length:Nat):Int)) (Q16 Qc O O O) O (JLh (BL (decide ((i144:Int) < ((s52.length:Nat):Int)))) (J2 O O O) O (G8 (hK146 _ _ (Gn O (fun hb=>?_) (fun hb=>?_)))))))))
     ·
      have hk144:=G37 hb
      obtain⟨nx144,hn144,h⟩:=G34 hi144 hk144
      replace h:=Heb hb144 h
      refine Gp (hK145 _ _ ?_)
      obtain⟨kj147,hkj147,h⟩:=G69 h
      refine G33 (fun j147:Bool×(List Gs)=>kj147 j147=some r) (fun j147=>[(2,E0 before),(3,E0 after),(4,Ee s),(10,.vec 1029 s52.length 2 s52.length),(13,BL j147.1),(14,En i69),(15,En i144)]) (fun j147=>[(1029,.vec 176 2 s52.length (j147.2.map Gs.av))]) (fun Kj147 ej147=>?_) ?_
      ·
       refine Gk (G7 (fun K148 hK148=>G7 fun K149 hK149=>G2 (JLh (.vec 1029 s52.length 2 s52.length) (G5 O O) O (JLh (En i69) (G5 O O) O ?_))))
       obtain⟨y150,hmy150,hy150,h⟩:=Ge0 h
       refine JLh (.vptr 1029 s52.length ((i69:Int).toNat) 0) (Gdd (f:=Gs.av) (xs:=s144.2) (y:=y150) O O O O Qc hy150 hmy150) O (JLh (.vptr 1029 s52.length ((i69:Int).toNat) 1) (Gfe G8e O O O) O (JLh (BL y150.in_) (Gfd (f:=Gs.av) (xs:=s144.2) (y:=y150) Rq O O O hy150 O O) O (JLh (BL y150.in_) (G5 O O) O (Ga (u:=.vec 1029 s52.length 2 s52.length) [] O O O .scf G (fun hc=>G5 O O) ?_))))
       refine Ga (u:=En i144) [] O O O .scf G (fun hc=>G5 O O) ?_
       obtain⟨y151,hy151,h⟩:=Gf h
       refine Ga (u:=.vptr 1029 s52.length ((i144:Int).toNat) 0) [(82,.vec 1029 s52.length 2 s52.length),(83,En i144)] O O O .scf ⟨.all id,.all id,G⟩ (fun hc=>Gdd (f:=Gs.av) (xs:=s144.2) (y:=y151) O O O O Qc (Ga8 (Gz hc hy151)) (Hc7 (Gz hc hy151))) ?_
       refine Ga (u:=.vptr 1029 s52.length ((i144:Int).toNat) 1) [(84,.vptr 1029 s52.length ((i144:Int).toNat) 0)] O O O .scf ⟨.all id,G⟩ (fun hc=>Gfe G8e O O O) ?_
       refine Ga (u:=BL y151.in_) [(85,.vptr 1029 s52.length ((i144:Int).toNat) 1)] O O O .scf ⟨.all id,G⟩ (fun hc=>Gfd (f:=Gs.av) (xs:=s144.2) (y:=y151) Rq O O O (Ga8 (Gz hc hy151)) O O) ?_
       refine Ga (u:=BL (!y151.in_)) [(86,BL y151.in_)] O O O .scf ⟨.all id,G⟩ (fun hc=>Qv (b:=y151.in_) O O) ?_
       refine JLh (BL (y150.in_||(!y151.in_))) (Rn O O O O) O (G8 (hK149 _ _ (Gn O (fun hb=>?_) (fun hb=>?_))))
       ·
        replace h:=Gz hb h
        refine Hk (ej147 _ _ (s144.1,s144.2) h ⟨(by repeat' constructor),⟨⟨_,rfl,.vec⟩,G⟩,rfl⟩)
       ·
        replace h:=Hv hb h
        refine Gp (hK148 _ _ (G7 (fun K152 hK152=>Hab (l':=[(2,E0 before),(3,E0 after),(4,Ee s),(10,.vec 1029 s52.length 2 s52.length),(13,BL s144.1),(14,En i69),(15,En i144)]) (L':=[(1029,.vec 176 2 s52.length (s144.2.map Gs.av))]) ⟨(by repeat' constructor),⟨⟨_,rfl,.vec⟩,G⟩,rfl⟩ ?_)))
        obtain⟨y153,hmy153,hy153,h⟩:=Ge0 h
        obtain⟨y154,hmy154,hy154,h⟩:=Ge0 h
        obtain⟨r155,hr155,h⟩:=Gf h
        obtain⟨y156,hy156,h⟩:=Gf h
        obtain⟨y157,hy157,h⟩:=Gf h
        obtain⟨r158,hr158,h⟩:=Gf h
        refine Q6 [] [0,0,0,0,0,0,0,0,0,0,0,0,0,0,0,0,0,0,0,0,0,0,0,0,0,0,0,0,0,0] [0,0,0,0,0,0,0,0,0,0,0,0,0,0,0,0,0,0,0,0,0,0,0,0,0,0,0,0,0,0] [[(1029,.vec 176 2 s52.length (s144.2.map Gs.av))]] Jk (by kernel_rfl) rfl rfl ?_
        refine Gc (u:=.agg (Hb.cs s)) O O ⟨Gw (Gj J8 O O O) O,G⟩ (Gc (u:=E0 before) O O ⟨Gw (G5 O O) O,G⟩ (Gc (u:=E0 after) O O ⟨Gw (G5 O O) O,G⟩ (Gc (u:=.vec 1029 s52.length 2 s52.length) O O ⟨Gw (G5 O O) O,G⟩ (Gc (u:=En i69) O O ⟨Gw (G5 O O) O,G⟩ (Gc (u:=.vptr 1029 s52.length ((i69:Int).toNat) 0) O O ⟨Gw (Gdd (f:=Gs.av) (xs:=s144.2) (y:=y153) O O O O Qc hy153 hmy153) O,G⟩ (Gc (u:=.vptr 1029 s52.length ((i69:Int).toNat) 0) O O ⟨Gw (Gfe Z0 O O O) O,G⟩ (Gc (u:=G0 y153.id) O O ⟨Gw (Gfd (f:=Gs.av) (xs:=s144.2) (y:=y153) Gd O O O hy153 O O) O,G⟩ (Gc (u:=.vec 1029 s52.length 2 s52.length) O O ⟨Gw (G5 O O) O,G⟩ (Gc (u:=En i144) O O ⟨Gw (G5 O O) O,G⟩ (Gc (u:=.vptr 1029 s52.length ((i144:Int).toNat) 0) O O ⟨Gw (Gdd (f:=Gs.av) (xs:=s144.2) (y:=y154) O O O O Qc hy154 hmy154) O,G⟩ (Gc (u:=.vptr 1029 s52.length ((i144:Int).toNat) 0) O O ⟨Gw (Gfe Z0 O O O) O,G⟩ (Gc (u:=G0 y154.id) O O ⟨Gw (Gfd (f:=Gs.av) (xs:=s144.2) (y:=y154) Gd O O O hy154 O O) O,G⟩ (Gc (u:=BL r155) O O ⟨Gw (Gq (args:=[.agg (Hb.cs s),E0 before,E0 after,G0 y153.id,G0 y154.id]) O (G57 s before after y153.id y154.id r155 hr155) J5e ⟨O,O,O,O,O,O,O,O,O,O,G⟩) O,G⟩ ?_)))))))))))))
        refine Gc (u:=BL r155) O O ⟨Gw (G5 O O) O,G⟩ (Gc (u:=.opt (!r155) (.agg (Hb.cs s))) O O ⟨Ge [] O O O .scf G (fun hc=>Gj J8 O O O) O,G⟩ (Gc (u:=.opt (!r155) (E0 after)) O O ⟨Ge [] O O O .scf G (fun hc=>G5 O O) O,G⟩ (Gc (u:=.opt (!r155) (E0 before)) O O ⟨Ge [] O O O .scf G (fun hc=>G5 O O) O,G⟩ (Gc (u:=.opt (!r155) (.vec 1029 s52.length 2 s52.length)) O O ⟨Ge [] O O O .scf G (fun hc=>G5 O O) O,G⟩ (Gc (u:=.opt (!r155) (En i69)) O O ⟨Ge [] O O O .scf G (fun hc=>G5 O O) O,G⟩ (Gc (u:=.opt (!r155) (.vptr 1029 s52.length ((i69:Int).toNat) 0)) O O ⟨Ge [(107,.vec 1029 s52.length 2 s52.length),(108,En i69)] O O O .scf ⟨.all id,.all id,G⟩ (fun hc=>Gdd (f:=Gs.av) (xs:=s144.2) (y:=y156) O O O O Qc (Ga8 (Gz hc hy156)) (Hc7 (Gz hc hy156))) O,G⟩ (Gc (u:=.opt (!r155) (.vptr 1029 s52.length ((i69:Int).toNat) 0)) O O ⟨Ge [(109,.vptr 1029 s52.length ((i69:Int).toNat) 0)] O O O .scf ⟨.all id,G⟩ (fun hc=>Gfe Z0 O O O) O,G⟩ (Gc (u:=.opt (!r155) (G0 y156.id)) O O ⟨Ge [(110,.vptr 1029 s52.length ((i69:Int).toNat) 0)] O O O .scf ⟨.all id,G⟩ (fun hc=>Gfd (f:=Gs.av) (xs:=s144.2) (y:=y156) Gd O O O (Ga8 (Gz hc hy156)) O O) O,G⟩ (Gc (u:=.opt (!r155) (.vec 1029 s52.length 2 s52.length)) O O ⟨Ge [] O O O .scf G (fun hc=>G5 O O) O,G⟩ (Gc (u:=.opt (!r155) (En i144)) O O ⟨Ge [] O O O .scf G (fun hc=>G5 O O) O,G⟩ (Gc (u:=.opt (!r155) (.vptr 1029 s52.length ((i144:Int).toNat) 0)) O O ⟨Ge [(112,.vec 1029 s52.length 2 s52.length),(113,En i144)] O O O .scf ⟨.all id,.all id,G⟩ (fun hc=>Gdd (f:=Gs.av) (xs:=s144.2) (y:=y157) O O O O Qc (Ga8 (Gz hc hy157)) (Hc7 (Gz hc hy157))) O,G⟩ (Gc (u:=.opt (!r155) (.vptr 1029 s52.length ((i144:Int).toNat) 0)) O O ⟨Ge [(114,.vptr 1029 s52.length ((i144:Int).toNat) 0)] O O O .scf ⟨.all id,G⟩ (fun hc=>Gfe Z0 O O O) O,G⟩ (Gc (u:=.opt (!r155) (G0 y157.id)) O O ⟨Ge [(115,.vptr 1029 s52.length ((i144:Int).toNat) 0)] O O O .scf ⟨.all id,G⟩ (fun hc=>Gfd (f:=Gs.av) (xs:=s144.2) (y:=y157) Gd O O O (Ga8 (Gz hc hy157)) O O) O,G⟩ ?_)))))))))))))
        refine Gc (u:=.opt (!r155) (BL r158)) O O ⟨Ge [(104,.agg (Hb.cs s)),(105,E0 after),(106,E0 before),(111,G0 y156.id),(116,G0 y157.id)] O O O .scf ⟨.all id,.all id,.all id,.all id,.all id,G⟩ (fun hc=>Gq (args:=[.agg (Hb.cs s),E0 after,E0 before,G0 y156.id,G0 y157.id]) O (G57 s after before y156.id y157.id r158 (Gz hc hr158)) J5e ⟨O,O,O,O,O,O,O,O,O,O,G⟩) O,G⟩ (Gc (u:=BL (r155||r158)) O O ⟨Gw (Rn O O O O) O,G⟩ (Yz ?_))
        refine hK152 _ _ (Gn O (fun hb=>?_) (fun hb=>?_))
        ·
         replace h:=Gz hb h
         refine G2 (JLh (.vec 1029 s52.length 2 s52.length) (G5 O O) O (JLh (En i69) (G5 O O) O ?_))
         obtain⟨y159,hmy159,hy159,h⟩:=Ge0 h
         refine JLh (.vptr 1029 s52.length ((i69:Int).toNat) 0) (Gdd (f:=Gs.av) (xs:=s144.2) (y:=y159) O O O O Qc hy159 hmy159) O (JLh (.vptr 1029 s52.length ((i69:Int).toNat) 1) (Gfe G8e O O O) O (J4 (u:=.junk) (A_vstoreF (f:=Gs.av) (xs:=s144.2) (e:=y159) (z:=(Gs.mk y159.id true)) (u:=BL true) tf_size_4 O O O O hy159 O O O O O) (JLh (BL true) (G9 O O) O (G8 (ej147 _ _ (true,(s144.2.set (i69:Int).toNat (Gs.mk y159.id true))) h ⟨(by repeat' constructor),⟨⟨_,rfl,.vec⟩,G⟩,rfl⟩)))))
        ·
         replace h:=Hv hb h
         refine Gp (ej147 _ _ (s144.1,s144.2) h ⟨(by repeat' constructor),⟨⟨_,rfl,.vec⟩,G⟩,rfl⟩)
      ·intro j147 h
       replace h:=app1 hkj147 h
       refine G2 (JLh (En i144) (G5 O O) O (JLh (G0 ((i144+1:Nat):Int)) (Hy (He hk144 (G11 hx144)) O O O) O (JLh (G0 ((i144+1:Nat):Int)) (G9 O O) O (G8 (e144 _ _ (i144+1) (j147.1,j147.2) (app1 hn144 h) (by omega) ⟨(by repeat' constructor),⟨⟨_,rfl,.vec⟩,G⟩,rfl⟩)))))
     ·
      have h:=app1 hkx144 (G35 hi144 (Ry hb))
      refine Hk (hK72 _ _ (G2 (JLh (En i69) (G5 O O) O (JLh (G0 ((i69+1:Nat):Int)) (Hy (He hk69 (G11 hx69)) O O O) O (JLh (G0 ((i69+1:Nat):Int)) (G9 O O) O (G8 (e69 _ _ (i69+1) (s144.1,s144.2) (app1 hn69 h) (by omega) ⟨(by repeat' constructor),⟨⟨_,rfl,.vec⟩,G⟩,rfl⟩)))))))
    ·
     have h:=app1 hkx69 (G35 hi69 (Ry hb))
     refine Hk (e64 _ _ m64 (s69.1,s69.2) (app1 hn64 h) (by omega) ⟨(by repeat' constructor),⟨⟨_,rfl,.vec⟩,G⟩,rfl⟩)
   ·
    replace h:=Hv hb h
    refine Hk (hK62 _ _ (J93 [(10,Ea s64.2)] [] 1029 rfl rfl G rfl (by exact⟨.vec,G⟩) (G7 fun K160 hK160=>G2 (JLh (OW 1030 1 G0 ([]:List Int)) (H3f 1030 3 1 O O O) O (G8 (hK160 _ _ (G7 fun K161 hK161=>G2 (JLh (G0 0) (G9 O O) O (G8 (hK161 _ _ (Gk ?_)))))))))))
    obtain⟨b162,hb162,h⟩:=loop_in h
    refine Hc (fun i162 (s162:(List Int)×Int)=>loop b162 i162 s162=some r) (fun i162 s162=>[(10,Ea s64.2),(16,OW 1030 1 G0 s162.1),(17,G0 s162.2)]) (fun i162 s162=>[(1030,.spare 3 1 s162.1.length s162.1.length)]) (fun i162=>i162) F ([],0) h ⟨⟨.same O,.same O,.same O,G⟩,⟨⟨_,O,.same⟩,G⟩,O⟩ ?_
    clear h
    intro i162 s162 hi162 K162 e162
    obtain⟨m162,nx162,hm_162,hn162,h⟩:=J77 hi162
    replace h:=app2 hb162 h
    refine Gk (G7 fun K163 hK163=>G2 (JLh (G0 0) (G9 O O) O (G8 (hK163 _ _ (G7 fun K164 hK164=>G2 (JLh (BL false) (G9 O O) O (G8 (hK164 _ _ (G7 (fun K165 hK165=>G7 fun K166 hK166=>G2 (JLh (G0 0) (G9 O O) O (G8 (hK166 _ _ (Gk ?_))))))))))))))
    obtain⟨b188,kx188,hb188,hkx188,h⟩:=Hw h
    refine Hc (fun i188 (s188:Int×Bool)=>each b188 kx188 (List.drop i188 s64.2) i188 s188=some r) (fun i188 s188=>[(10,Ea s64.2),(16,OW 1030 1 G0 s162.1),(17,G0 s162.2),(18,G0 s188.1),(19,BL s188.2),(20,En i188)]) (fun i188 s188=>[(1030,.spare 3 1 s162.1.length s162.1.length)]) (fun i188=>s64.2.length - i188) 0 (0,false) h ⟨(by repeat' constructor),⟨⟨_,rfl,.same⟩,G⟩,rfl⟩ ?_
    clear h
    intro i188 s188 hi188 K188 e188
    refine G7 (fun K189 hK189=>G7 fun K190 hK190=>G2 (JLh (En i188) (G5 O O) O (JLh (Ea s64.2) (G5 O O) O (H3 (f:=Gs.av) (xs:=s64.2) Qc O O (fun hm125=>?_) O O O))))
    refine JLh (BL (decide ((i188:Int) < (s64.2.length:Int)))) (J2 O O O) O (G8 (hK190 _ _ (Gn O (fun hb=>?_) (fun hb=>?_))))
    ·
     have hk188:=Jc hb
     obtain⟨y188,nx188,hy188,hn188,h⟩:=Hn hi188 hk188
     replace h:=Yb hb188 h
     refine Gp (hK189 _ _ ?_)
     obtain⟨kj191,hkj191,h⟩:=G69 h
     refine G33 (fun j191:Int×Bool=>kj191 j191=some r) (fun j191=>[(10,Ea s64.2),(16,OW 1030 1 G0 s162.1),(17,G0 s162.2),(18,G0 j191.1),(19,BL j191.2),(20,En i188)]) (fun j191=>[(1030,.spare 3 1 s162.1.length s162.1.length)]) (fun Kj191 ej191=>?_) ?_
     ·
      refine Gk (G7 fun K192 hK192=>G2 (JLh (Ea s64.2) (G5 O O) O (JLh (Ea s64.2) (G5 O O) O (JLh (En i188) (G5 O O) O (JLh (.dptr [G0 y188.id,BL y188.in_]) (Gt (f:=Gs.av) (xs:=s64.2) (y:=y188) O O O Qc hy188 O) O (JLh (.dptr [G0 y188.id,BL y188.in_]) (Gb Z0 O O O) O (JLh (G0 y188.id) (Gh Gd O O O) O ?_)))))))
      obtain⟨r193,hr193,h⟩:=Gf h
      refine JLh (BL r193) (Gq (args:=[Ea s64.2,G0 y188.id]) O (H66 s64.2 y188.id r193 hr193) Jf6 ⟨O,O,O,O,G⟩) O (JLh (BL r193) (G5 O O) O (Ga (u:=OW 1030 1 G0 s162.1) [] O O O .sct G (fun hc=>G5 O O) ?_))
      refine Ga (u:=En s162.1.length) [(137,OW 1030 1 G0 s162.1)] O O O .sct ⟨.all id,G⟩ (fun hc=>Qt (f:=G0) (xs:=s162.1) H0 O O) ?_
      refine Ga (u:=BL (decide ((s162.1.length:Int)=0))) [(138,En s162.1.length)] O O O .sct ⟨.all id,G⟩ (fun hc=>Jx O O O) ?_
      refine Ga (u:=BL (decide ((s162.1.length:Int)=0))) [(139,BL (decide ((s162.1.length:Int)=0)))] O O O .sct ⟨.all id,G⟩ (fun hc=>G5 O O) ?_
      refine Ga (u:=Ea s64.2) [] O O O .optf G (fun hc=>G5 O O) ?_
      refine Ga (u:=En i188) [] O O O .optf G (fun hc=>G5 O O) ?_
      refine Ga (u:=.dptr [G0 y188.id,BL y188.in_]) [(141,Ea s64.2),(142,En i188)] O O O .optf ⟨.all id,.all id,G⟩ (fun hc=>Gt (f:=Gs.av) (xs:=s64.2) (y:=y188) O O O Qc hy188 O) ?_
      refine Ga (u:=.dptr [G0 y188.id,BL y188.in_]) [(143,.dptr [G0 y188.id,BL y188.in_])] O O O .optf ⟨.all id,G⟩ (fun hc=>Gb Z0 O O O) ?_
      refine Ga (u:=G0 y188.id) [(144,.dptr [G0 y188.id,BL y188.in_])] O O O .optf ⟨.all id,G⟩ (fun hc=>Gh Gd O O O) ?_
      refine Ga (u:=G0 s162.2) [] O O O .optf G (fun hc=>G5 O O) ?_
      refine Ga (u:=BL (decide (s162.2 < y188.id))) [(145,G0 y188.id),(146,G0 s162.2)] O O O .optf ⟨.all id,.all id,G⟩ (fun hc=>G31 O O O) ?_
      refine Ga (u:=BL ((decide ((s162.1.length:Int)=0))||(decide (s162.2 < y188.id)))) [(140,BL (decide ((s162.1.length:Int)=0))),(147,_)] O O O .sct ⟨.all id,.part,G⟩ (fun hc=>Rn O O O O) ?_
      refine JLh (BL (r193&&((decide ((s162.1.length:Int)=0))||(decide (s162.2 < y188.id))))) (Hx O O O O) O (JLh (BL (r193&&((decide ((s162.1.length:Int)=0))||(decide (s162.2 < y188.id))))) (G5 O O) O (Ga (u:=BL s188.2) [] O O O .sct G (fun hc=>G5 O O) ?_))
      refine Ga (u:=BL (!s188.2)) [(151,BL s188.2)] O O O .sct ⟨.all id,G⟩ (fun hc=>Qv (b:=s188.2) O O) ?_
      refine Ga (u:=BL (!s188.2)) [(152,BL (!s188.2))] O O O .sct ⟨.all id,G⟩ (fun hc=>G5 O O) ?_
      refine Ga (u:=Ea s64.2) [] O O O .optf G (fun hc=>G5 O O) ?_
      refine Ga (u:=En i188) [] O O O .optf G (fun hc=>G5 O O) ?_
      refine Ga (u:=.dptr [G0 y188.id,BL y188.in_]) [(154,Ea s64.2),(155,En i188)] O O O .optf ⟨.all id,.all id,G⟩ (fun hc=>Gt (f:=Gs.av) (xs:=s64.2) (y:=y188) O O O Qc hy188 O) ?_
      refine Ga (u:=.dptr [G0 y188.id,BL y188.in_]) [(156,.dptr [G0 y188.id,BL y188.in_])] O O O .optf ⟨.all id,G⟩ (fun hc=>Gb Z0 O O O) ?_
      refine Ga (u:=G0 y188.id) [(157,.dptr [G0 y188.id,BL y188.in_])] O O O .optf ⟨.all id,G⟩ (fun hc=>Gh Gd O O O) ?_
      refine Ga (u:=G0 s188.1) [] O O O .optf G (fun hc=>G5 O O) ?_
      refine Ga (u:=BL (decide (y188.id < s188.1))) [(158,G0 y188.id),(159,G0 s188.1)] O O O .optf ⟨.all id,.all id,G⟩ (fun hc=>J2 O O O) ?_
      refine Ga (u:=BL ((!s188.2)||(decide (y188.id < s188.1)))) [(153,BL (!s188.2)),(160,_)] O O O .sct ⟨.all id,.part,G⟩ (fun hc=>Rn O O O O) ?_
      refine JLh (BL ((r193&&((decide ((s162.1.length:Int)=0))||(decide (s162.2 < y188.id))))&&((!s188.2)||(decide (y188.id < s188.1))))) (Hx O O O O) O (G8 (hK192 _ _ (Gn O (fun hb=>?_) (fun hb=>?_))))
      ·
       replace h:=Gz hb h
       refine G2 (JLh (Ea s64.2) (G5 O O) O (JLh (En i188) (G5 O O) O (JLh (.dptr [G0 y188.id,BL y188.in_]) (Gt (f:=Gs.av) (xs:=s64.2) (y:=y188) O O O Qc hy188 O) O (JLh (.dptr [G0 y188.id,BL y188.in_]) (Gb Z0 O O O) O (JLh (G0 y188.id) (Gh Gd O O O) O (JLh (G0 y188.id) (G9 O O) O (JLh (BL true) (G9 O O) O (G8 (ej191 _ _ (y188.id,true) h ⟨(by repeat' constructor),⟨⟨_,rfl,.same⟩,G⟩,rfl⟩)))))))))
      ·
       replace h:=Hv hb h
       refine Gp (ej191 _ _ (s188.1,s188.2) h ⟨(by repeat' constructor),⟨⟨_,rfl,.same⟩,G⟩,rfl⟩)
     ·intro j191 h
      replace h:=app1 hkj191 h
      refine G2 (JLh (En i188) (G5 O O) O (JLh (G0 ((i188+1:Nat):Int)) (Hy (He hk188 hm125) O O O) O (JLh (G0 ((i188+1:Nat):Int)) (G9 O O) O (G8 (e188 _ _ (i188+1) (j191.1,j191.2) (app1 hn188 h) (by omega) ⟨(by repeat' constructor),⟨⟨_,rfl,.same⟩,G⟩,rfl⟩)))))
    ·
     have h:=app1 hkx188 (Ho hi188 (H9 hb))
     refine Hk (hK165 _ _ (G7 (fun K194 hK194=>G7 fun K195 hK195=>G2 (JLh (BL s188.2) (G5 O O) O (JLh (BL (!s188.2)) (Qv (b:=s188.2) O O) O (G8 (hK195 _ _ (Gn O (fun hb=>?_) (fun hb=>?_)))))))))
     ·
      replace h:=Gz hb h
      refine G7 fun K196 hK196=>G2 (JLh (OW 1030 1 G0 s162.1) (G5 O O) O (JLh (OW 1030 1 G0 s162.1) (G9 O O) O (JLh (G0 0) (G9 O O) O (G8 (hK196 _ _ (Gu (⟨[E1 s162.1,G0 0],[],G,O,⟨⟨_,O,.conv (.list O)⟩,⟨_,O,.conv (.same O)⟩,G⟩,O,congrArg (fun r:(List Int)×Int=>(.tup [E1 r.1,G0 r.2]:AV)) (Option.some.inj h)⟩)))))))
     ·
      replace h:=Hv hb h
      refine Gp (hK194 _ _ (G7 fun K197 hK197=>G2 (JLh (OW 1030 1 G0 s162.1) (G5 O O) O (JLh (G0 s188.1) (G5 O O) O (JLh (E1 [s188.1]) (Hm (xs:=[G0 s188.1]) O ⟨O,O,G⟩ H0 G13 O O O O) O ?_)))))
      obtain⟨ha198,h⟩:=J6 h
      refine JLh (OW 1030 1 G0 (s162.1++[s188.1])) (Yd (f:=G0) (xs:=s162.1) (ys:=[s188.1]) O O O O H0 G81 ha198 (fun _=>O) (.inl O) O) O (JLh (OW 1030 1 G0 (s162.1++[s188.1])) (G9 O O) O (G8 (hK197 _ _ (G2 (JLh (G0 s188.1) (G5 O O) O (JLh (G0 s188.1) (G9 O O) O (G8 (e162 _ _ m162 ((s162.1++[s188.1]),s188.1) (app1 hn162 h) (by omega) ⟨⟨.same rfl,.same rfl,.same rfl,G⟩,⟨⟨_,rfl,.same⟩,G⟩,rfl⟩))))))))

def Rs (F:Nat) (s:Hb) (boxes:List Gv) (before:List G6) (after:List G6):Option Bool:=
 bnd (Zv s boxes) fun r4=>
 bif (((!r4)||(decide (14 < (before.length:Int))))||(decide (14 < (after.length:Int)))) then
 (bnd (Y2 F) fun r6=>
  some r6)
 else
 (bnd (Yv s) fun r8=>
  bnd (Yj boxes) fun r9=>
  bnd (R0 before) fun r10=>
  bnd (R0 after) fun r11=>
  bnd (G2f F (Hb.mk (r8.Columns.1.map Gy.pl) (r8.Covers.1.map Ha.pl) r8.Light r8.Rows.1 r8.Frames.1 (r8.Tanks.1.map Hh.pl) r8.G3) r9.1 r10.1 r11.1) fun r13=>
  bnd (Yq F s boxes before after) fun r15=>
  bnd (J9 r13.1 r15.1) fun r17=>
  bnd (bif (r17&&(decide (r13.2=r15.2))) then Yx r8 s else some default) fun r18=>
  bnd (bif ((r17&&(decide (r13.2=r15.2)))&&r18) then Yk r9 boxes else some default) fun r19=>
  bnd (bif (((r17&&(decide (r13.2=r15.2)))&&r18)&&r19) then R2 r10 before else some default) fun r20=>
  bnd (bif ((((r17&&(decide (r13.2=r15.2)))&&r18)&&r19)&&r20) then R2 r11 after else some default) fun r21=>
  bnd (bif (((((r17&&(decide (r13.2=r15.2)))&&r18)&&r19)&&r20)&&r21) then Y2 F else some default) fun r22=>
  some ((((((r17&&(decide (r13.2=r15.2)))&&r18)&&r19)&&r20)&&r21)&&r22))
theorem Gc5 (F:Nat) (s:Hb) (boxes:List Gv) (before:List G6) (after:List G6) (r:Bool) (h:Rs F s boxes before after=some r):Pure Tryz.prog 4 [.agg (Hb.cs s),E2 boxes,E0 before,E0 after] (·=BL r):=by
 unfold Rs at h
 refine H1 [.tmp 8] Tryz.func4 O O (G7 fun K1 hK1=>G2 (JLh (.ptr 1001 0) (Jy (u:=.agg (Hb.cs s)) (cs:=(Hb.cs s)) 1001 O O O O O) O (JLh (BL false) (G9 O O) O (G8 (hK1 _ _ ?_)))))
 refine Gx [(1,E2 boxes),(2,E0 before),(3,E0 after),(4,Ee s)] [] 1001 rfl rfl rfl G rfl (by repeat' (first | exact .ptr | constructor)) (G7 (fun K2 hK2=>G7 fun K3 hK3=>G2 (JLh (.agg (Hb.cs s)) (Gj J8 O O O) O (JLh (E2 boxes) (G5 O O) O ?_))))
 obtain⟨r4,hr4,h⟩:=Gf h
 refine JLh (BL r4) (Gq (args:=[.agg (Hb.cs s),E2 boxes]) O (H5a s boxes r4 hr4) tf_call_9 ⟨O,O,O,O,G⟩) O (JLh (BL (!r4)) (Qv (b:=r4) O O) O (JLh (BL (!r4)) (G5 O O) O (Ga (u:=E0 before) [] O O O .scf G (fun hc=>G5 O O) ?_)))
 refine Ga (u:=En before.length) [(22,E0 before)] O O O .scf ⟨.all id,G⟩ (fun hc=>Qt (f:=G6.av) (xs:=before) H2 O O) ?_
 refine Ga (u:=BL (decide (14 < (before.length:Int)))) [(23,En before.length)] O O O .scf ⟨.all id,G⟩ (fun hc=>G31 O O O) ?_
 refine JLh (BL ((!r4)||(decide (14 < (before.length:Int))))) (Rn O O O O) O (JLh (BL ((!r4)||(decide (14 < (before.length:Int))))) (G5 O O) O (Ga (u:=E0 after) [] O O O .scf G (fun hc=>G5 O O) ?_))
 refine Ga (u:=En after.length) [(27,E0 after)] O O O .scf ⟨.all id,G⟩ (fun hc=>Qt (f:=G6.av) (xs:=after) H2 O O) ?_
 refine Ga (u:=BL (decide (14 < (after.length:Int)))) [(28,En after.length)] O O O .scf ⟨.all id,G⟩ (fun hc=>G31 O O O) ?_
 refine JLh (BL (((!r4)||(decide (14 < (before.length:Int))))||(decide (14 < (after.length:Int))))) (Rn O O O O) O (G8 (hK3 _ _ (Gn O (fun hb=>?_) (fun hb=>?_))))
 ·
  replace h:=Gz hb h
  refine G7 fun K5 hK5=>G2 ?_
  obtain⟨r6,hr6,h⟩:=Gf h
  refine JLh (BL r6) (Gq (args:=[]) O (G71 F r6 hr6) J69 G) O (JLh (BL r6) (G9 O O) O (G8 (hK5 _ _ (Gu (⟨[BL r6],[],G,O,⟨⟨_,O,.conv (.same O)⟩,G⟩,O,congrArg (fun r:Bool=>(BL r:AV)) (Option.some.inj h)⟩)))))
 ·
  replace h:=Hv hb h
  refine Gp (hK2 _ _ (G7 fun K7 hK7=>G2 (JLh (.agg (Hb.cs s)) (Gj J8 O O O) O ?_)))
  obtain⟨r8,hr8,h⟩:=Gf h
  refine JLh (.agg (Y4.cs r8)) (Gq (args:=[.agg (Hb.cs s)]) O (H08 s r8 hr8) Q10 ⟨O,O,G⟩) O (JLh (E2 boxes) (G5 O O) O ?_)
  obtain⟨r9,hr9,h⟩:=Gf h
  refine JLh (LT 9 Gv.av r9) (Gq (args:=[E2 boxes]) O (Gf7 boxes r9 hr9) Q0f ⟨O,O,G⟩) O (JLh (E0 before) (G5 O O) O ?_)
  obtain⟨r10,hr10,h⟩:=Gf h
  refine JLh (LT 4 G6.av r10) (Gq (args:=[E0 before]) O (G43 before r10 hr10) J65 ⟨O,O,G⟩) O (JLh (E0 after) (G5 O O) O ?_)
  obtain⟨r11,hr11,h⟩:=Gf h
  refine JLh (LT 4 G6.av r11) (Gq (args:=[E0 after]) O (G43 after r11 hr11) J65 ⟨O,O,G⟩) O (JLh (.ptr 1002 0) (Jb 1002 13 J11 O O) O (J4 (u:=.junk) (Ht (u:=.agg (Y4.cs r8)) (ds:=(Y4.cs r8)) H47 O O O O O O O O) (JLh (LT 9 Gv.av r9) (G9 O O) O (JLh (LT 4 G6.av r10) (G9 O O) O (JLh (LT 4 G6.av r11) (G9 O O) O (G8 (hK7 _ _ ?_)))))))
  refine Gx [(1,E2 boxes),(2,E0 before),(3,E0 after),(4,Ee s),(9,.dptr (Y4.cs r8)),(10,LT 9 Gv.av r9),(11,LT 4 G6.av r10),(12,LT 4 G6.av r11)] [] 1002 rfl rfl rfl G rfl (by repeat' (first | exact .ptr | constructor)) ?_
  refine G7 fun K12 hK12=>G2 (JLh (.agg [E3 (r8.Columns.1.map Gy.pl),E4 (r8.Covers.1.map Ha.pl),G0 r8.Light.Kilos,G0 r8.Light.X,G0 r8.Light.Y,G0 r8.Light.Z,E6 r8.Rows.1,E5 r8.Frames.1,E7 (r8.Tanks.1.map Hh.pl),G0 r8.G3.Tolerance,G0 r8.G3.Trim,G0 r8.G3.List_,G0 r8.G3.Stability]) (H4.cv (Cv.aggL (cs:=(Y4.cs r8)) ⟨Cv.lstM (f:=Gy.av) (g:=G4.av) Gy.pl Gy.cvl r8.Columns,Cv.lstM (f:=Ha.av) (g:=Gg.av) Ha.pl Ha.cvl r8.Covers,.same,.same,.same,.same,Cv.lst0 r8.Rows,Cv.lst0 r8.Frames,Cv.lstM (f:=Hh.av) (g:=Gr.av) Hh.pl Hh.cvl r8.Tanks,.same,.same,.same,.same,G⟩) (Gj J8 O O O)) O (JLh (E2 r9.1) (H4.cv (Cv.lst0 r9) (G5 O O)) O (JLh (E0 r10.1) (H4.cv (Cv.lst0 r10) (G5 O O)) O (JLh (E0 r11.1) (H4.cv (Cv.lst0 r11) (G5 O O)) O ?_))))
  obtain⟨r13,hr13,h⟩:=Gf h
  refine JLh (.tup [E1 r13.1,G0 r13.2]) (Gq (args:=[.agg [E3 (r8.Columns.1.map Gy.pl),E4 (r8.Covers.1.map Ha.pl),G0 r8.Light.Kilos,G0 r8.Light.X,G0 r8.Light.Y,G0 r8.Light.Z,E6 r8.Rows.1,E5 r8.Frames.1,E7 (r8.Tanks.1.map Hh.pl),G0 r8.G3.Tolerance,G0 r8.G3.Trim,G0 r8.G3.List_,G0 r8.G3.Stability],E2 r9.1,E0 r10.1,E0 r11.1]) O (Gca F (Hb.mk (r8.Columns.1.map Gy.pl) (r8.Covers.1.map Ha.pl) r8.Light r8.Rows.1 r8.Frames.1 (r8.Tanks.1.map Hh.pl) r8.G3) r9.1 r10.1 r11.1 r13 hr13) Hbc ⟨O,O,O,O,O,O,O,O,G⟩) O (JLh (.tup [E1 r13.1,G0 r13.2]) (G5 O O) O (JLh (E1 r13.1) (J1 O O O) O (JLh (G0 r13.2) (J1 O O O) O (JLh (E1 r13.1) (G9 O O) O (JLh (G0 r13.2) (G9 O O) O (G8 (hK12 _ _ ?_)))))))
  refine G7 fun K14 hK14=>G2 (JLh (.agg (Hb.cs s)) (Gj J8 O O O) O (JLh (E2 boxes) (G5 O O) O (JLh (E0 before) (G5 O O) O (JLh (E0 after) (G5 O O) O ?_))))
  obtain⟨r15,hr15,h⟩:=Gf h
  refine JLh (.tup [E1 r15.1,G0 r15.2]) (Gq (args:=[.agg (Hb.cs s),E2 boxes,E0 before,E0 after]) O (H03 F s boxes before after r15 hr15) Q0a ⟨O,O,O,O,O,O,O,O,G⟩) O (JLh (.tup [E1 r15.1,G0 r15.2]) (G5 O O) O (JLh (E1 r15.1) (J1 O O O) O (JLh (G0 r15.2) (J1 O O O) O (JLh (E1 r15.1) (G9 O O) O (JLh (G0 r15.2) (G9 O O) O (G8 (hK14 _ _ (G7 fun K16 hK16=>G2 (JLh (E1 r13.1) (G5 O O) O (JLh (E1 r15.1) (G5 O O) O ?_))))))))))
  obtain⟨r17,hr17,h⟩:=Gf h
  refine JLh (BL r17) (Gq (args:=[E1 r13.1,E1 r15.1]) O (Q9 r13.1 r15.1 r17 hr17) G55 ⟨O,O,O,O,G⟩) O (JLh (BL r17) (G5 O O) O (Ga (u:=G0 r13.2) [] O O O .sct G (fun hc=>G5 O O) ?_))
  refine Ga (u:=G0 r15.2) [] O O O .sct G (fun hc=>G5 O O) ?_
  refine Ga (u:=BL (decide (r13.2=r15.2))) [(60,G0 r13.2),(61,G0 r15.2)] O O O .sct ⟨.all id,.all id,G⟩ (fun hc=>Jx O O O) ?_
  refine JLh (BL (r17&&(decide (r13.2=r15.2)))) (Hx O O O O) O (JLh (BL (r17&&(decide (r13.2=r15.2)))) (G5 O O) O (Ga (u:=.agg (Y4.cs r8)) [] O O O .sct G (fun hc=>Gj J8 O O O) ?_))
  refine Ga (u:=.agg (Hb.cs s)) [] O O O .sct G (fun hc=>Gj J8 O O O) ?_
  obtain⟨r18,hr18,h⟩:=Gf h
  refine Ga (u:=BL r18) [(65,.agg (Y4.cs r8)),(66,.agg (Hb.cs s))] O O O .sct ⟨.all id,.all id,G⟩ (fun hc=>Gq (args:=[.agg (Y4.cs r8),.agg (Hb.cs s)]) O (H0b r8 s r18 (Gz hc hr18)) Q0c ⟨O,O,O,O,G⟩) ?_
  refine JLh (BL ((r17&&(decide (r13.2=r15.2)))&&r18)) (Hx O O O O) O (JLh (BL ((r17&&(decide (r13.2=r15.2)))&&r18)) (G5 O O) O (Ga (u:=LT 9 Gv.av r9) [] O O O .sct G (fun hc=>G5 O O) ?_))
  refine Ga (u:=E2 boxes) [] O O O .sct G (fun hc=>G5 O O) ?_
  obtain⟨r19,hr19,h⟩:=Gf h
  refine Ga (u:=BL r19) [(70,LT 9 Gv.av r9),(71,E2 boxes)] O O O .sct ⟨.all id,.all id,G⟩ (fun hc=>Gq (args:=[LT 9 Gv.av r9,E2 boxes]) O (Gfa r9 boxes r19 (Gz hc hr19)) Q0b ⟨O,O,O,O,G⟩) ?_
  refine JLh (BL (((r17&&(decide (r13.2=r15.2)))&&r18)&&r19)) (Hx O O O O) O (JLh (BL (((r17&&(decide (r13.2=r15.2)))&&r18)&&r19)) (G5 O O) O (Ga (u:=LT 4 G6.av r10) [] O O O .sct G (fun hc=>G5 O O) ?_))
  refine Ga (u:=E0 before) [] O O O .sct G (fun hc=>G5 O O) ?_
  obtain⟨r20,hr20,h⟩:=Gf h
  refine Ga (u:=BL r20) [(75,LT 4 G6.av r10),(76,E0 before)] O O O .sct ⟨.all id,.all id,G⟩ (fun hc=>Gq (args:=[LT 4 G6.av r10,E0 before]) O (G44 r10 before r20 (Gz hc hr20)) J64 ⟨O,O,O,O,G⟩) ?_
  refine JLh (BL ((((r17&&(decide (r13.2=r15.2)))&&r18)&&r19)&&r20)) (Hx O O O O) O (JLh (BL ((((r17&&(decide (r13.2=r15.2)))&&r18)&&r19)&&r20)) (G5 O O) O (Ga (u:=LT 4 G6.av r11) [] O O O .sct G (fun hc=>G5 O O) ?_))
  refine Ga (u:=E0 after) [] O O O .sct G (fun hc=>G5 O O) ?_
  obtain⟨r21,hr21,h⟩:=Gf h
  refine Ga (u:=BL r21) [(80,LT 4 G6.av r11),(81,E0 after)] O O O .sct ⟨.all id,.all id,G⟩ (fun hc=>Gq (args:=[LT 4 G6.av r11,E0 after]) O (G44 r11 after r21 (Gz hc hr21)) J64 ⟨O,O,O,O,G⟩) ?_
  refine JLh (BL (((((r17&&(decide (r13.2=r15.2)))&&r18)&&r19)&&r20)&&r21)) (Hx O O O O) O (JLh (BL (((((r17&&(decide (r13.2=r15.2)))&&r18)&&r19)&&r20)&&r21)) (G5 O O) O ?_)
  obtain⟨r22,hr22,h⟩:=Gf h
  refine Ga (u:=BL r22) [] O O O .sct G (fun hc=>Gq (args:=[]) O (G71 F r22 (Gz hc hr22)) J69 G) ?_
  refine JLh (BL ((((((r17&&(decide (r13.2=r15.2)))&&r18)&&r19)&&r20)&&r21)&&r22)) (Hx O O O O) O (JLh (BL ((((((r17&&(decide (r13.2=r15.2)))&&r18)&&r19)&&r20)&&r21)&&r22)) (G9 O O) O (G8 (hK16 _ _ (Gu (⟨[BL ((((((r17&&(decide (r13.2=r15.2)))&&r18)&&r19)&&r20)&&r21)&&r22)],[],G,O,⟨⟨_,O,.conv (.same O)⟩,G⟩,O,congrArg (fun r:Bool=>(BL r:AV)) (Option.some.inj h)⟩)))))
end
end Go.Proofs.YtfkilljboodoaaaGreat
