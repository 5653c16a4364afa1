/-
 Models of functions of the program,and that they return what the models say.
-/
import Derived.Test.YtfkilljboodoaaaGreatXLa
set_option maxRecDepth 100000
set_option linter.unusedVariables false
set_option linter.unusedSimpArgs false
namespace Go.Proofs.YtfkilljboodoaaaGreat
open Go.RowKit
noncomputable section
open XAF
open XLF

def R7 (out:Ln Ha) (l:List Gg):Option Bool:=
 bif decide ((out.1.length:Int)≠(l.length:Int)) then
 (some false)
 else
 (G32 ((l.length:Int)+12) fun v6=>
  bnd (G24 v6 (out.1++out.2).length) fun m7=>
  each (fun y33 i33 (s33:Unit) nx33=>
   bnd (bif decide ((i33:Int) < (l.length:Int)) then Q3 l (i33:Int) some else some default) fun y38=>
   bnd (bif decide ((i33:Int) < (l.length:Int)) then Rf y33 y38 else some default) fun r39=>
   bnd (bif ((!((decide ((i33:Int) < (l.length:Int)))&&(!r39)))&&(decide ((l.length:Int)≤(i33:Int)))) then G32 ((i33:Int) - (l.length:Int)) some else some 0) fun v40=>
   bnd (bif ((!((decide ((i33:Int) < (l.length:Int)))&&(!r39)))&&(decide ((l.length:Int)≤(i33:Int)))) then Qs 1 v40 else some default) fun r41=>
   bnd (bif ((!((decide ((i33:Int) < (l.length:Int)))&&(!r39)))&&(decide ((l.length:Int)≤(i33:Int)))) then Jp (Gg.mk y33.Bay y33.Rows.1) r41 else some default) fun r42=>
   bif (((decide ((i33:Int) < (l.length:Int)))&&(!r39))||((decide ((l.length:Int)≤(i33:Int)))&&(!r42))) then
   (some false)
   else
   (nx33 ()))
  (fun(s33:Unit)=>
   some true) ((out.1++out.2).take m7) 0 ())
theorem Gd7 (out:Ln Ha) (l:List Gg) (r:Bool) (h:R7 out l=some r):Pure Tryz.prog 85 [LT 2 Ha.av out,E4 l] (·=BL r):=by
 unfold R7 at h
 refine H1 [.tmp 4] Tryz.func85 O O (G7 fun K1 hK1=>G2 (JLh (BL false) (G9 O O) O (G8 (hK1 _ _ (G7 (fun K2 hK2=>G7 fun K3 hK3=>G2 (JLh (LT 2 Ha.av out) (G5 O O) O (H3 (f:=Ha.av) (xs:=out.1) Hp O O (fun hm8=>?_) O O O))))))))
 refine JLh (E4 l) (G5 O O) O (H3 (f:=Gg.av) (xs:=l) Hp O O (fun hm10=>?_) O O O)
 refine JLh (BL (decide ((out.1.length:Int)≠(l.length:Int)))) (G5c O O O) O (G8 (hK3 _ _ (Gn O (fun hb=>?_) (fun hb=>?_))))
 ·
  replace h:=Gz hb h
  refine G7 fun K4 hK4=>G2 (JLh (BL false) (G9 O O) O (G8 (hK4 _ _ (Gu (⟨[BL false],[],G,O,⟨⟨_,O,.conv (.same O)⟩,G⟩,O,congrArg (fun r:Bool=>(BL r:AV)) (Option.some.inj h)⟩)))))
 ·
  replace h:=Hv hb h
  refine Gp (hK2 _ _ (G7 fun K5 hK5=>G2 (JLh (LT 2 Ha.av out) (G5 O O) O (JLh (E4 l) (G5 O O) O (H3 (f:=Gg.av) (xs:=l) Hp O O (fun hm14=>?_) O O O)))))
  obtain⟨v6,hv6,h⟩:=Qw h
  refine JLh (G0 v6) (Hy hv6 O O O) O ?_
  obtain⟨m7,hm7,h⟩:=Gf h
  refine JLh (Ec ((out.1++out.2).take m7)) (H20 (f:=Ha.av) (e:=out) O O O Hp (Rz hm7)) O (JLh (Ec ((out.1++out.2).take m7)) (G9 O O) O (G8 (hK5 _ _ (G7 (fun K8 hK8=>G7 fun K9 hK9=>G2 (JLh (G0 0) (G9 O O) O (G8 (hK9 _ _ (Gk ?_)))))))))
  obtain⟨b33,kx33,hb33,hkx33,h⟩:=Hw h
  refine Hc (fun i33 (s33:Unit)=>each b33 kx33 (List.drop i33 ((out.1++out.2).take m7)) i33 s33=some r) (fun i33 s33=>[(1,E4 l),(5,Ec ((out.1++out.2).take m7)),(6,En i33)]) (fun i33 s33=>[]) (fun i33=>((out.1++out.2).take m7).length - i33) 0 () h ⟨⟨.same O,.same O,.same O,G⟩,G,O⟩ ?_
  clear h
  intro i33 s33 hi33 K33 e33
  refine G7 (fun K34 hK34=>G7 fun K35 hK35=>G2 (JLh (En i33) (G5 O O) O (JLh (Ec ((out.1++out.2).take m7)) (G5 O O) O (H3 (f:=Ha.av) (xs:=((out.1++out.2).take m7)) Hp O O (fun hm19=>?_) O O O))))
  refine JLh (BL (decide ((i33:Int) < (((out.1++out.2).take m7).length:Int)))) (J2 O O O) O (G8 (hK35 _ _ (Gn O (fun hb=>?_) (fun hb=>?_))))
  ·
   have hk33:=Jc hb
   obtain⟨y33,nx33,hy33,hn33,h⟩:=Hn hi33 hk33
   replace h:=Yb hb33 h
   refine Gp (hK34 _ _ (G7 (fun K36 hK36=>Gk (G7 (fun K37 hK37=>?_)))))
   obtain⟨y38,hy38,h⟩:=Gf h
   obtain⟨r39,hr39,h⟩:=Gf h
   obtain⟨v40,hv40,h⟩:=Gf h
   obtain⟨r41,hr41,h⟩:=Gf h
   obtain⟨r42,hr42,h⟩:=Gf h
   refine Q6 [] [0,0,0,0,0,0,0,0,0,0,0,0,0,0,0,0,0,0,0,0,0,0,0,0,0,0,0,0,0,0,0,0,0,0,0] [0,0,0,0,0,0,0,0,0,0,0,0,0,0,0,0,0,0,0,0,0,0,0,0,0,0,0,0,0,0,0,0,0,0,0] [[]] Jk (by kernel_rfl) rfl rfl ?_
   refine Gc (u:=En i33) O O ⟨Gw (G5 O O) O,G⟩ (Gc (u:=E4 l) O O ⟨Gw (G5 O O) O,G⟩ (Gc (u:=En l.length) O O ⟨Gw (Qt (f:=Gg.av) (xs:=l) Hp O O) O,G⟩ (Gc (u:=BL (decide ((i33:Int) < (l.length:Int)))) O O ⟨Gw (J2 O O O) O,G⟩ (Gc (u:=BL (decide ((i33:Int) < (l.length:Int)))) O O ⟨Gw (G5 O O) O,G⟩ (Gc (u:=.opt (decide ((i33:Int) < (l.length:Int))) (Ec ((out.1++out.2).take m7))) O O ⟨Ge [] O O O .sct G (fun hc=>G5 O O) O,G⟩ (Gc (u:=.opt (decide ((i33:Int) < (l.length:Int))) (En i33)) O O ⟨Ge [] O O O .sct G (fun hc=>G5 O O) O,G⟩ (Gc (u:=.opt (decide ((i33:Int) < (l.length:Int))) (.dptr [G0 y33.Bay,LT 1 G0 y33.Rows])) O O ⟨Ge [(28,Ec ((out.1++out.2).take m7)),(29,En i33)] O O O .sct ⟨.all id,.all id,G⟩ (fun hc=>Gt (f:=Ha.av) (xs:=((out.1++out.2).take m7)) (y:=y33) O O O Hp hy33 O) O,G⟩ (Gc (u:=.opt (decide ((i33:Int) < (l.length:Int))) (.agg [G0 y33.Bay,LT 1 G0 y33.Rows])) O O ⟨Ge [(30,.dptr [G0 y33.Bay,LT 1 G0 y33.Rows])] O O O .sct ⟨.all id,G⟩ (fun hc=>Gj Rh O O O) O,G⟩ (Gc (u:=.opt (decide ((i33:Int) < (l.length:Int))) (E4 l)) O O ⟨Ge [] O O O .sct G (fun hc=>G5 O O) O,G⟩ (Gc (u:=.opt (decide ((i33:Int) < (l.length:Int))) (En i33)) O O ⟨Ge [] O O O .sct G (fun hc=>G5 O O) O,G⟩ (Gc (u:=.opt (decide ((i33:Int) < (l.length:Int))) (.dptr [G0 y38.Bay,E1 y38.Rows])) O O ⟨Ge [(32,E4 l),(33,En i33)] O O O .sct ⟨.all id,.all id,G⟩ (fun hc=>(match Jf (Gz hc hy38) with | ⟨_,hm_,hy_⟩=>Gt (f:=Gg.av) (xs:=l) (y:=y38) O O O Hp hy_ hm_)) O,G⟩ (Gc (u:=.opt (decide ((i33:Int) < (l.length:Int))) (.agg [G0 y38.Bay,E1 y38.Rows])) O O ⟨Ge [(34,.dptr [G0 y38.Bay,E1 y38.Rows])] O O O .sct ⟨.all id,G⟩ (fun hc=>Gj Rh O O O) O,G⟩ (Gc (u:=.opt (decide ((i33:Int) < (l.length:Int))) (BL r39)) O O ⟨Ge [(31,.agg [G0 y33.Bay,LT 1 G0 y33.Rows]),(35,.agg [G0 y38.Bay,E1 y38.Rows])] O O O .sct ⟨.all id,.all id,G⟩ (fun hc=>Gq (args:=[.agg [G0 y33.Bay,LT 1 G0 y33.Rows],.agg [G0 y38.Bay,E1 y38.Rows]]) O (Gf9 y33 y38 r39 (Gz hc hr39)) Jc9 ⟨O,O,O,O,G⟩) O,G⟩ ?_)))))))))))))
   refine Gc (u:=.opt (decide ((i33:Int) < (l.length:Int))) (BL (!r39))) O O ⟨Ge [(36,BL r39)] O O O .sct ⟨.all id,G⟩ (fun hc=>Qv (b:=r39) O O) O,G⟩ (Gc (u:=BL ((decide ((i33:Int) < (l.length:Int)))&&(!r39))) O O ⟨Gw (Hx O O O O) O,G⟩ (Gc (u:=BL ((decide ((i33:Int) < (l.length:Int)))&&(!r39))) O O ⟨Gw (G5 O O) O,G⟩ (Gc (u:=.opt (!((decide ((i33:Int) < (l.length:Int)))&&(!r39))) (En i33)) O O ⟨Ge [] O O O .scf G (fun hc=>G5 O O) O,G⟩ (Gc (u:=.opt (!((decide ((i33:Int) < (l.length:Int)))&&(!r39))) (E4 l)) O O ⟨Ge [] O O O .scf G (fun hc=>G5 O O) O,G⟩ (Gc (u:=.opt (!((decide ((i33:Int) < (l.length:Int)))&&(!r39))) (En l.length)) O O ⟨Ge [(41,E4 l)] O O O .scf ⟨.all id,G⟩ (fun hc=>Qt (f:=Gg.av) (xs:=l) Hp O O) O,G⟩ (Gc (u:=.opt (!((decide ((i33:Int) < (l.length:Int)))&&(!r39))) (BL (decide ((l.length:Int)≤(i33:Int))))) O O ⟨Ge [(40,En i33),(42,En l.length)] O O O .scf ⟨.all id,.all id,G⟩ (fun hc=>G29 O O O) O,G⟩ (Gc (u:=.opt (!((decide ((i33:Int) < (l.length:Int)))&&(!r39))) (BL (decide ((l.length:Int)≤(i33:Int))))) O O ⟨Ge [(43,BL (decide ((l.length:Int)≤(i33:Int))))] O O O .scf ⟨.all id,G⟩ (fun hc=>G5 O O) O,G⟩ (Gc (u:=.opt ((!((decide ((i33:Int) < (l.length:Int)))&&(!r39)))&&(decide ((l.length:Int)≤(i33:Int)))) (Ec ((out.1++out.2).take m7))) O O ⟨Ge [] O O O .optt G (fun hc=>G5 O O) O,G⟩ (Gc (u:=.opt ((!((decide ((i33:Int) < (l.length:Int)))&&(!r39)))&&(decide ((l.length:Int)≤(i33:Int)))) (En i33)) O O ⟨Ge [] O O O .optt G (fun hc=>G5 O O) O,G⟩ (Gc (u:=.opt ((!((decide ((i33:Int) < (l.length:Int)))&&(!r39)))&&(decide ((l.length:Int)≤(i33:Int)))) (.dptr [G0 y33.Bay,LT 1 G0 y33.Rows])) O O ⟨Ge [(45,Ec ((out.1++out.2).take m7)),(46,En i33)] O O O .optt ⟨.all id,.all id,G⟩ (fun hc=>Gt (f:=Ha.av) (xs:=((out.1++out.2).take m7)) (y:=y33) O O O Hp hy33 O) O,G⟩ (Gc (u:=.opt ((!((decide ((i33:Int) < (l.length:Int)))&&(!r39)))&&(decide ((l.length:Int)≤(i33:Int)))) (.agg [G0 y33.Bay,E1 y33.Rows.1])) O O ⟨Ge [(47,.dptr [G0 y33.Bay,LT 1 G0 y33.Rows])] O O O .optt ⟨.all id,G⟩ (fun hc=>H4.cv (Cv.aggL (cs:=[G0 y33.Bay,LT 1 G0 y33.Rows]) ⟨.same,Cv.lst0 y33.Rows,G⟩) (Gj Rh O O O)) O,G⟩ (Gc (u:=.opt ((!((decide ((i33:Int) < (l.length:Int)))&&(!r39)))&&(decide ((l.length:Int)≤(i33:Int)))) (En i33)) O O ⟨Ge [] O O O .optt G (fun hc=>G5 O O) O,G⟩ (Gc (u:=.opt ((!((decide ((i33:Int) < (l.length:Int)))&&(!r39)))&&(decide ((l.length:Int)≤(i33:Int)))) (E4 l)) O O ⟨Ge [] O O O .optt G (fun hc=>G5 O O) O,G⟩ ?_)))))))))))))
   refine Gc (u:=.opt ((!((decide ((i33:Int) < (l.length:Int)))&&(!r39)))&&(decide ((l.length:Int)≤(i33:Int)))) (En l.length)) O O ⟨Ge [(50,E4 l)] O O O .optt ⟨.all id,G⟩ (fun hc=>Qt (f:=Gg.av) (xs:=l) Hp O O) O,G⟩ (Gc (u:=.opt ((!((decide ((i33:Int) < (l.length:Int)))&&(!r39)))&&(decide ((l.length:Int)≤(i33:Int)))) (G0 v40)) O O ⟨Ge [(49,En i33),(51,En l.length)] O O O .optt ⟨.all id,.all id,G⟩ (fun hc=>Gcb (G04 (Gz hc hv40)) O O O) O,G⟩ (Gc (u:=.opt ((!((decide ((i33:Int) < (l.length:Int)))&&(!r39)))&&(decide ((l.length:Int)≤(i33:Int)))) (.agg [G0 r41.Bay,E1 r41.Rows])) O O ⟨Ge [(52,G0 v40)] O O O .optt ⟨.all id,G⟩ (fun hc=>Gq (args:=[G0 1,G0 v40]) O (G5a 1 v40 r41 (Gz hc hr41)) J27 ⟨O,O,O,O,G⟩) O,G⟩ (Gc (u:=.opt ((!((decide ((i33:Int) < (l.length:Int)))&&(!r39)))&&(decide ((l.length:Int)≤(i33:Int)))) (BL r42)) O O ⟨Ge [(48,.agg [G0 y33.Bay,E1 y33.Rows.1]),(53,.agg [G0 r41.Bay,E1 r41.Rows])] O O O .optt ⟨.all id,.all id,G⟩ (fun hc=>Gq (args:=[.agg [G0 y33.Bay,E1 y33.Rows.1],.agg [G0 r41.Bay,E1 r41.Rows]]) O (G17 (Gg.mk y33.Bay y33.Rows.1) r41 r42 (Gz hc hr42)) H79 ⟨O,O,O,O,G⟩) O,G⟩ (Gc (u:=.opt ((!((decide ((i33:Int) < (l.length:Int)))&&(!r39)))&&(decide ((l.length:Int)≤(i33:Int)))) (BL (!r42))) O O ⟨Ge [(54,BL r42)] O O O .optt ⟨.all id,G⟩ (fun hc=>Qv (b:=r42) O O) O,G⟩ (Gc (u:=.opt (!((decide ((i33:Int) < (l.length:Int)))&&(!r39))) (BL ((decide ((l.length:Int)≤(i33:Int)))&&(!r42)))) O O ⟨Ge [(44,BL (decide ((l.length:Int)≤(i33:Int)))),(55,_)] O O O .scf ⟨.all id,.part,G⟩ (fun hc=>Hx O O O O) O,G⟩ (Gc (u:=BL (((decide ((i33:Int) < (l.length:Int)))&&(!r39))||((decide ((l.length:Int)≤(i33:Int)))&&(!r42)))) O O ⟨Gw (Rn O O O O) O,G⟩ (Yz ?_)))))))
   refine hK37 _ _ (Gn O (fun hb=>?_) (fun hb=>?_))
   ·
    replace h:=Gz hb h
    refine G7 fun K43 hK43=>G2 (JLh (BL false) (G9 O O) O (G8 (hK43 _ _ (Gu (⟨[BL false],[],G,O,⟨⟨_,O,.conv (.same O)⟩,G⟩,O,congrArg (fun r:Bool=>(BL r:AV)) (Option.some.inj h)⟩)))))
   ·
    replace h:=Hv hb h
    refine Gp (hK36 _ _ (G2 (JLh (En i33) (G5 O O) O (JLh (G0 ((i33+1:Nat):Int)) (Hy (He hk33 hm19) O O O) O (JLh (G0 ((i33+1:Nat):Int)) (G9 O O) O (G8 (e33 _ _ (i33+1) () (app1 hn33 h) (by omega) ⟨⟨.same rfl,.same rfl,.same rfl,G⟩,G,rfl⟩)))))))
  ·
   have h:=app1 hkx33 (Ho hi33 (H9 hb))
   refine Hk (hK8 _ _ (G7 fun K44 hK44=>G2 (JLh (BL true) (G9 O O) O (G8 (hK44 _ _ (Gu (⟨[BL true],[],G,O,⟨⟨_,O,.conv (.same O)⟩,G⟩,O,congrArg (fun r:Bool=>(BL r:AV)) (Option.some.inj h)⟩)))))))

def Rm (out:Ln Row) (l:List Row):Option Bool:=
 bif decide ((out.1.length:Int)≠(l.length:Int)) then
 (some false)
 else
 (G32 ((l.length:Int)+12) fun v6=>
  bnd (G24 v6 (out.1++out.2).length) fun m7=>
  each (fun y29 i29 (s29:Unit) nx29=>
   bnd (bif decide ((i29:Int) < (l.length:Int)) then Q3 l (i29:Int) some else some default) fun y34=>
   bnd (bif ((!((decide ((i29:Int) < (l.length:Int)))&&(!(decide (y29=y34)))))&&(decide ((l.length:Int)≤(i29:Int)))) then G32 ((i29:Int) - (l.length:Int)) some else some 0) fun v35=>
   bnd (bif ((!((decide ((i29:Int) < (l.length:Int)))&&(!(decide (y29=y34)))))&&(decide ((l.length:Int)≤(i29:Int)))) then Ra 1 v35 else some default) fun r36=>
   bif (((decide ((i29:Int) < (l.length:Int)))&&(!(decide (y29=y34))))||((decide ((l.length:Int)≤(i29:Int)))&&(!(decide (y29=r36))))) then
   (some false)
   else
   (nx29 ()))
  (fun(s29:Unit)=>
   some true) ((out.1++out.2).take m7) 0 ())
theorem H0c (out:Ln Row) (l:List Row) (r:Bool) (h:Rm out l=some r):Pure Tryz.prog 86 [LT 5 Row.av out,E6 l] (·=BL r):=by
 unfold Rm at h
 refine H1 [.tmp 4] Tryz.func86 O O (G7 fun K1 hK1=>G2 (JLh (BL false) (G9 O O) O (G8 (hK1 _ _ (G7 (fun K2 hK2=>G7 fun K3 hK3=>G2 (JLh (LT 5 Row.av out) (G5 O O) O (H3 (f:=Row.av) (xs:=out.1) Q1 O O (fun hm8=>?_) O O O))))))))
 refine JLh (E6 l) (G5 O O) O (H3 (f:=Row.av) (xs:=l) Q1 O O (fun hm10=>?_) O O O)
 refine JLh (BL (decide ((out.1.length:Int)≠(l.length:Int)))) (G5c O O O) O (G8 (hK3 _ _ (Gn O (fun hb=>?_) (fun hb=>?_))))
 ·
  replace h:=Gz hb h
  refine G7 fun K4 hK4=>G2 (JLh (BL false) (G9 O O) O (G8 (hK4 _ _ (Gu (⟨[BL false],[],G,O,⟨⟨_,O,.conv (.same O)⟩,G⟩,O,congrArg (fun r:Bool=>(BL r:AV)) (Option.some.inj h)⟩)))))
 ·
  replace h:=Hv hb h
  refine Gp (hK2 _ _ (G7 fun K5 hK5=>G2 (JLh (LT 5 Row.av out) (G5 O O) O (JLh (E6 l) (G5 O O) O (H3 (f:=Row.av) (xs:=l) Q1 O O (fun hm14=>?_) O O O)))))
  obtain⟨v6,hv6,h⟩:=Qw h
  refine JLh (G0 v6) (Hy hv6 O O O) O ?_
  obtain⟨m7,hm7,h⟩:=Gf h
  refine JLh (E6 ((out.1++out.2).take m7)) (H20 (f:=Row.av) (e:=out) O O O Q1 (Rz hm7)) O (JLh (E6 ((out.1++out.2).take m7)) (G9 O O) O (G8 (hK5 _ _ (G7 (fun K8 hK8=>G7 fun K9 hK9=>G2 (JLh (G0 0) (G9 O O) O (G8 (hK9 _ _ (Gk ?_)))))))))
  obtain⟨b29,kx29,hb29,hkx29,h⟩:=Hw h
  refine Hc (fun i29 (s29:Unit)=>each b29 kx29 (List.drop i29 ((out.1++out.2).take m7)) i29 s29=some r) (fun i29 s29=>[(1,E6 l),(5,E6 ((out.1++out.2).take m7)),(6,En i29)]) (fun i29 s29=>[]) (fun i29=>((out.1++out.2).take m7).length - i29) 0 () h ⟨⟨.same O,.same O,.same O,G⟩,G,O⟩ ?_
  clear h
  intro i29 s29 hi29 K29 e29
  refine G7 (fun K30 hK30=>G7 fun K31 hK31=>G2 (JLh (En i29) (G5 O O) O (JLh (E6 ((out.1++out.2).take m7)) (G5 O O) O (H3 (f:=Row.av) (xs:=((out.1++out.2).take m7)) Q1 O O (fun hm19=>?_) O O O))))
  refine JLh (BL (decide ((i29:Int) < (((out.1++out.2).take m7).length:Int)))) (J2 O O O) O (G8 (hK31 _ _ (Gn O (fun hb=>?_) (fun hb=>?_))))
  ·
   have hk29:=Jc hb
   obtain⟨y29,nx29,hy29,hn29,h⟩:=Hn hi29 hk29
   replace h:=Yb hb29 h
   refine Gp (hK30 _ _ (G7 (fun K32 hK32=>Gk (G7 (fun K33 hK33=>?_)))))
   obtain⟨y34,hy34,h⟩:=Gf h
   obtain⟨v35,hv35,h⟩:=Gf h
   obtain⟨r36,hr36,h⟩:=Gf h
   refine Q6 [] [0,0,0,0,0,0,0,0,0,0,0,0,0,0,0,0,0,0,0,0,0,0,0,0,0,0,0,0,0,0,0,0,0,0,0] [0,0,0,0,0,0,0,0,0,0,0,0,0,0,0,0,0,0,0,0,0,0,0,0,0,0,0,0,0,0,0,0,0,0,0] [[]] Jk (by kernel_rfl) rfl rfl ?_
   refine Gc (u:=En i29) O O ⟨Gw (G5 O O) O,G⟩ (Gc (u:=E6 l) O O ⟨Gw (G5 O O) O,G⟩ (Gc (u:=En l.length) O O ⟨Gw (Qt (f:=Row.av) (xs:=l) Q1 O O) O,G⟩ (Gc (u:=BL (decide ((i29:Int) < (l.length:Int)))) O O ⟨Gw (J2 O O O) O,G⟩ (Gc (u:=BL (decide ((i29:Int) < (l.length:Int)))) O O ⟨Gw (G5 O O) O,G⟩ (Gc (u:=.opt (decide ((i29:Int) < (l.length:Int))) (E6 ((out.1++out.2).take m7))) O O ⟨Ge [] O O O .sct G (fun hc=>G5 O O) O,G⟩ (Gc (u:=.opt (decide ((i29:Int) < (l.length:Int))) (En i29)) O O ⟨Ge [] O O O .sct G (fun hc=>G5 O O) O,G⟩ (Gc (u:=.opt (decide ((i29:Int) < (l.length:Int))) (Ek y29)) O O ⟨Ge [(28,E6 ((out.1++out.2).take m7)),(29,En i29)] O O O .sct ⟨.all id,.all id,G⟩ (fun hc=>Gt (f:=Row.av) (xs:=((out.1++out.2).take m7)) (y:=y29) O O O Q1 hy29 O) O,G⟩ (Gc (u:=.opt (decide ((i29:Int) < (l.length:Int))) (.agg (Row.cs y29))) O O ⟨Ge [(30,Ek y29)] O O O .sct ⟨.all id,G⟩ (fun hc=>Gj Ga5 O O O) O,G⟩ (Gc (u:=.opt (decide ((i29:Int) < (l.length:Int))) (E6 l)) O O ⟨Ge [] O O O .sct G (fun hc=>G5 O O) O,G⟩ (Gc (u:=.opt (decide ((i29:Int) < (l.length:Int))) (En i29)) O O ⟨Ge [] O O O .sct G (fun hc=>G5 O O) O,G⟩ (Gc (u:=.opt (decide ((i29:Int) < (l.length:Int))) (Ek y34)) O O ⟨Ge [(32,E6 l),(33,En i29)] O O O .sct ⟨.all id,.all id,G⟩ (fun hc=>(match Jf (Gz hc hy34) with | ⟨_,hm_,hy_⟩=>Gt (f:=Row.av) (xs:=l) (y:=y34) O O O Q1 hy_ hm_)) O,G⟩ (Gc (u:=.opt (decide ((i29:Int) < (l.length:Int))) (.agg (Row.cs y34))) O O ⟨Ge [(34,Ek y34)] O O O .sct ⟨.all id,G⟩ (fun hc=>Gj Ga5 O O O) O,G⟩ (Gc (u:=.opt (decide ((i29:Int) < (l.length:Int))) (BL (decide (y29=y34)))) O O ⟨Ge [(31,.agg (Row.cs y29)),(35,.agg (Row.cs y34))] O O O .sct ⟨.all id,.all id,G⟩ (fun hc=>Ga0 (vs:=[.int .i64 y29.Draught,.int .i64 y29.Kilos,.int .i64 y29.Buoy,.int .i64 y29.Metacentre,.int .i64 y29.H8d]) (us:=[.int .i64 y34.Draught,.int .i64 y34.Kilos,.int .i64 y34.Buoy,.int .i64 y34.Metacentre,.int .i64 y34.H8d]) 4 O (tq_228 y29 y34) H4a Hba O O O) O,G⟩ ?_)))))))))))))
   refine Gc (u:=.opt (decide ((i29:Int) < (l.length:Int))) (BL (!(decide (y29=y34))))) O O ⟨Ge [(36,BL (decide (y29=y34)))] O O O .sct ⟨.all id,G⟩ (fun hc=>Qv (b:=decide (y29=y34)) O O) O,G⟩ (Gc (u:=BL ((decide ((i29:Int) < (l.length:Int)))&&(!(decide (y29=y34))))) O O ⟨Gw (Hx O O O O) O,G⟩ (Gc (u:=BL ((decide ((i29:Int) < (l.length:Int)))&&(!(decide (y29=y34))))) O O ⟨Gw (G5 O O) O,G⟩ (Gc (u:=.opt (!((decide ((i29:Int) < (l.length:Int)))&&(!(decide (y29=y34))))) (En i29)) O O ⟨Ge [] O O O .scf G (fun hc=>G5 O O) O,G⟩ (Gc (u:=.opt (!((decide ((i29:Int) < (l.length:Int)))&&(!(decide (y29=y34))))) (E6 l)) O O ⟨Ge [] O O O .scf G (fun hc=>G5 O O) O,G⟩ (Gc (u:=.opt (!((decide ((i29:Int) < (l.length:Int)))&&(!(decide (y29=y34))))) (En l.length)) O O ⟨Ge [(41,E6 l)] O O O .scf ⟨.all id,G⟩ (fun hc=>Qt (f:=Row.av) (xs:=l) Q1 O O) O,G⟩ (Gc (u:=.opt (!((decide ((i29:Int) < (l.length:Int)))&&(!(decide (y29=y34))))) (BL (decide ((l.length:Int)≤(i29:Int))))) O O ⟨Ge [(40,En i29),(42,En l.length)] O O O .scf ⟨.all id,.all id,G⟩ (fun hc=>G29 O O O) O,G⟩ (Gc (u:=.opt (!((decide ((i29:Int) < (l.length:Int)))&&(!(decide (y29=y34))))) (BL (decide ((l.length:Int)≤(i29:Int))))) O O ⟨Ge [(43,BL (decide ((l.length:Int)≤(i29:Int))))] O O O .scf ⟨.all id,G⟩ (fun hc=>G5 O O) O,G⟩ (Gc (u:=.opt ((!((decide ((i29:Int) < (l.length:Int)))&&(!(decide (y29=y34)))))&&(decide ((l.length:Int)≤(i29:Int)))) (E6 ((out.1++out.2).take m7))) O O ⟨Ge [] O O O .optt G (fun hc=>G5 O O) O,G⟩ (Gc (u:=.opt ((!((decide ((i29:Int) < (l.length:Int)))&&(!(decide (y29=y34)))))&&(decide ((l.length:Int)≤(i29:Int)))) (En i29)) O O ⟨Ge [] O O O .optt G (fun hc=>G5 O O) O,G⟩ (Gc (u:=.opt ((!((decide ((i29:Int) < (l.length:Int)))&&(!(decide (y29=y34)))))&&(decide ((l.length:Int)≤(i29:Int)))) (Ek y29)) O O ⟨Ge [(45,E6 ((out.1++out.2).take m7)),(46,En i29)] O O O .optt ⟨.all id,.all id,G⟩ (fun hc=>Gt (f:=Row.av) (xs:=((out.1++out.2).take m7)) (y:=y29) O O O Q1 hy29 O) O,G⟩ (Gc (u:=.opt ((!((decide ((i29:Int) < (l.length:Int)))&&(!(decide (y29=y34)))))&&(decide ((l.length:Int)≤(i29:Int)))) (.agg (Row.cs y29))) O O ⟨Ge [(47,Ek y29)] O O O .optt ⟨.all id,G⟩ (fun hc=>Gj Ga5 O O O) O,G⟩ (Gc (u:=.opt ((!((decide ((i29:Int) < (l.length:Int)))&&(!(decide (y29=y34)))))&&(decide ((l.length:Int)≤(i29:Int)))) (En i29)) O O ⟨Ge [] O O O .optt G (fun hc=>G5 O O) O,G⟩ (Gc (u:=.opt ((!((decide ((i29:Int) < (l.length:Int)))&&(!(decide (y29=y34)))))&&(decide ((l.length:Int)≤(i29:Int)))) (E6 l)) O O ⟨Ge [] O O O .optt G (fun hc=>G5 O O) O,G⟩ ?_)))))))))))))
   refine Gc (u:=.opt ((!((decide ((i29:Int) < (l.length:Int)))&&(!(decide (y29=y34)))))&&(decide ((l.length:Int)≤(i29:Int)))) (En l.length)) O O ⟨Ge [(50,E6 l)] O O O .optt ⟨.all id,G⟩ (fun hc=>Qt (f:=Row.av) (xs:=l) Q1 O O) O,G⟩ (Gc (u:=.opt ((!((decide ((i29:Int) < (l.length:Int)))&&(!(decide (y29=y34)))))&&(decide ((l.length:Int)≤(i29:Int)))) (G0 v35)) O O ⟨Ge [(49,En i29),(51,En l.length)] O O O .optt ⟨.all id,.all id,G⟩ (fun hc=>Gcb (G04 (Gz hc hv35)) O O O) O,G⟩ (Gc (u:=.opt ((!((decide ((i29:Int) < (l.length:Int)))&&(!(decide (y29=y34)))))&&(decide ((l.length:Int)≤(i29:Int)))) (.agg (Row.cs r36))) O O ⟨Ge [(52,G0 v35)] O O O .optt ⟨.all id,G⟩ (fun hc=>Gq (args:=[G0 1,G0 v35]) O (G72 1 v35 r36 (Gz hc hr36)) J26 ⟨O,O,O,O,G⟩) O,G⟩ (Gc (u:=.opt ((!((decide ((i29:Int) < (l.length:Int)))&&(!(decide (y29=y34)))))&&(decide ((l.length:Int)≤(i29:Int)))) (BL (decide (y29=r36)))) O O ⟨Ge [(48,.agg (Row.cs y29)),(53,.agg (Row.cs r36))] O O O .optt ⟨.all id,.all id,G⟩ (fun hc=>Ga0 (vs:=[.int .i64 y29.Draught,.int .i64 y29.Kilos,.int .i64 y29.Buoy,.int .i64 y29.Metacentre,.int .i64 y29.H8d]) (us:=[.int .i64 r36.Draught,.int .i64 r36.Kilos,.int .i64 r36.Buoy,.int .i64 r36.Metacentre,.int .i64 r36.H8d]) 4 O (tq_228 y29 r36) H4a Hba O O O) O,G⟩ (Gc (u:=.opt ((!((decide ((i29:Int) < (l.length:Int)))&&(!(decide (y29=y34)))))&&(decide ((l.length:Int)≤(i29:Int)))) (BL (!(decide (y29=r36))))) O O ⟨Ge [(54,BL (decide (y29=r36)))] O O O .optt ⟨.all id,G⟩ (fun hc=>Qv (b:=decide (y29=r36)) O O) O,G⟩ (Gc (u:=.opt (!((decide ((i29:Int) < (l.length:Int)))&&(!(decide (y29=y34))))) (BL ((decide ((l.length:Int)≤(i29:Int)))&&(!(decide (y29=r36)))))) O O ⟨Ge [(44,BL (decide ((l.length:Int)≤(i29:Int)))),(55,_)] O O O .scf ⟨.all id,.part,G⟩ (fun hc=>Hx O O O O) O,G⟩ (Gc (u:=BL (((decide ((i29:Int) < (l.length:Int)))&&(!(decide (y29=y34))))||((decide ((l.length:Int)≤(i29:Int)))&&(!(decide (y29=r36)))))) O O ⟨Gw (Rn O O O O) O,G⟩ (Yz ?_)))))))
   refine hK33 _ _ (Gn O (fun hb=>?_) (fun hb=>?_))
   ·
    replace h:=Gz hb h
    refine G7 fun K37 hK37=>G2 (JLh (BL false) (G9 O O) O (G8 (hK37 _ _ (Gu (⟨[BL false],[],G,O,⟨⟨_,O,.conv (.same O)⟩,G⟩,O,congrArg (fun r:Bool=>(BL r:AV)) (Option.some.inj h)⟩)))))
   ·
    replace h:=Hv hb h
    refine Gp (hK32 _ _ (G2 (JLh (En i29) (G5 O O) O (JLh (G0 ((i29+1:Nat):Int)) (Hy (He hk29 hm19) O O O) O (JLh (G0 ((i29+1:Nat):Int)) (G9 O O) O (G8 (e29 _ _ (i29+1) () (app1 hn29 h) (by omega) ⟨⟨.same rfl,.same rfl,.same rfl,G⟩,G,rfl⟩)))))))
  ·
   have h:=app1 hkx29 (Ho hi29 (H9 hb))
   refine Hk (hK8 _ _ (G7 fun K38 hK38=>G2 (JLh (BL true) (G9 O O) O (G8 (hK38 _ _ (Gu (⟨[BL true],[],G,O,⟨⟨_,O,.conv (.same O)⟩,G⟩,O,congrArg (fun r:Bool=>(BL r:AV)) (Option.some.inj h)⟩)))))))

def R6 (out:Ln Frame) (l:List Frame):Option Bool:=
 bif decide ((out.1.length:Int)≠(l.length:Int)) then
 (some false)
 else
 (G32 ((l.length:Int)+12) fun v6=>
  bnd (G24 v6 (out.1++out.2).length) fun m7=>
  each (fun y29 i29 (s29:Unit) nx29=>
   bnd (bif decide ((i29:Int) < (l.length:Int)) then Q3 l (i29:Int) some else some default) fun y34=>
   bnd (bif ((!((decide ((i29:Int) < (l.length:Int)))&&(!(decide (y29=y34)))))&&(decide ((l.length:Int)≤(i29:Int)))) then G32 ((i29:Int) - (l.length:Int)) some else some 0) fun v35=>
   bnd (bif ((!((decide ((i29:Int) < (l.length:Int)))&&(!(decide (y29=y34)))))&&(decide ((l.length:Int)≤(i29:Int)))) then Qr 1 v35 else some default) fun r36=>
   bif (((decide ((i29:Int) < (l.length:Int)))&&(!(decide (y29=y34))))||((decide ((l.length:Int)≤(i29:Int)))&&(!(decide (y29=r36))))) then
   (some false)
   else
   (nx29 ()))
  (fun(s29:Unit)=>
   some true) ((out.1++out.2).take m7) 0 ())
theorem Gd6 (out:Ln Frame) (l:List Frame) (r:Bool) (h:R6 out l=some r):Pure Tryz.prog 87 [LT 5 Frame.av out,E5 l] (·=BL r):=by
 unfold R6 at h
 refine H1 [.tmp 4] Tryz.func87 O O (G7 fun K1 hK1=>G2 (JLh (BL false) (G9 O O) O (G8 (hK1 _ _ (G7 (fun K2 hK2=>G7 fun K3 hK3=>G2 (JLh (LT 5 Frame.av out) (G5 O O) O (H3 (f:=Frame.av) (xs:=out.1) Q0 O O (fun hm8=>?_) O O O))))))))
 refine JLh (E5 l) (G5 O O) O (H3 (f:=Frame.av) (xs:=l) Q0 O O (fun hm10=>?_) O O O)
 refine JLh (BL (decide ((out.1.length:Int)≠(l.length:Int)))) (G5c O O O) O (G8 (hK3 _ _ (Gn O (fun hb=>?_) (fun hb=>?_))))
 ·
  replace h:=Gz hb h
  refine G7 fun K4 hK4=>G2 (JLh (BL false) (G9 O O) O (G8 (hK4 _ _ (Gu (⟨[BL false],[],G,O,⟨⟨_,O,.conv (.same O)⟩,G⟩,O,congrArg (fun r:Bool=>(BL r:AV)) (Option.some.inj h)⟩)))))
 ·
  replace h:=Hv hb h
  refine Gp (hK2 _ _ (G7 fun K5 hK5=>G2 (JLh (LT 5 Frame.av out) (G5 O O) O (JLh (E5 l) (G5 O O) O (H3 (f:=Frame.av) (xs:=l) Q0 O O (fun hm14=>?_) O O O)))))
  obtain⟨v6,hv6,h⟩:=Qw h
  refine JLh (G0 v6) (Hy hv6 O O O) O ?_
  obtain⟨m7,hm7,h⟩:=Gf h
  refine JLh (E5 ((out.1++out.2).take m7)) (H20 (f:=Frame.av) (e:=out) O O O Q0 (Rz hm7)) O (JLh (E5 ((out.1++out.2).take m7)) (G9 O O) O (G8 (hK5 _ _ (G7 (fun K8 hK8=>G7 fun K9 hK9=>G2 (JLh (G0 0) (G9 O O) O (G8 (hK9 _ _ (Gk ?_)))))))))
  obtain⟨b29,kx29,hb29,hkx29,h⟩:=Hw h
  refine Hc (fun i29 (s29:Unit)=>each b29 kx29 (List.drop i29 ((out.1++out.2).take m7)) i29 s29=some r) (fun i29 s29=>[(1,E5 l),(5,E5 ((out.1++out.2).take m7)),(6,En i29)]) (fun i29 s29=>[]) (fun i29=>((out.1++out.2).take m7).length - i29) 0 () h ⟨⟨.same O,.same O,.same O,G⟩,G,O⟩ ?_
  clear h
  intro i29 s29 hi29 K29 e29
  refine G7 (fun K30 hK30=>G7 fun K31 hK31=>G2 (JLh (En i29) (G5 O O) O (JLh (E5 ((out.1++out.2).take m7)) (G5 O O) O (H3 (f:=Frame.av) (xs:=((out.1++out.2).take m7)) Q0 O O (fun hm19=>?_) O O O))))
  refine JLh (BL (decide ((i29:Int) < (((out.1++out.2).take m7).length:Int)))) (J2 O O O) O (G8 (hK31 _ _ (Gn O (fun hb=>?_) (fun hb=>?_))))
  ·
   have hk29:=Jc hb
   obtain⟨y29,nx29,hy29,hn29,h⟩:=Hn hi29 hk29
   replace h:=Yb hb29 h
   refine Gp (hK30 _ _ (G7 (fun K32 hK32=>Gk (G7 (fun K33 hK33=>?_)))))
   obtain⟨y34,hy34,h⟩:=Gf h
   obtain⟨v35,hv35,h⟩:=Gf h
   obtain⟨r36,hr36,h⟩:=Gf h
   refine Q6 [] [0,0,0,0,0,0,0,0,0,0,0,0,0,0,0,0,0,0,0,0,0,0,0,0,0,0,0,0,0,0,0,0,0,0,0] [0,0,0,0,0,0,0,0,0,0,0,0,0,0,0,0,0,0,0,0,0,0,0,0,0,0,0,0,0,0,0,0,0,0,0] [[]] Jk (by kernel_rfl) rfl rfl ?_
   refine Gc (u:=En i29) O O ⟨Gw (G5 O O) O,G⟩ (Gc (u:=E5 l) O O ⟨Gw (G5 O O) O,G⟩ (Gc (u:=En l.length) O O ⟨Gw (Qt (f:=Frame.av) (xs:=l) Q0 O O) O,G⟩ (Gc (u:=BL (decide ((i29:Int) < (l.length:Int)))) O O ⟨Gw (J2 O O O) O,G⟩ (Gc (u:=BL (decide ((i29:Int) < (l.length:Int)))) O O ⟨Gw (G5 O O) O,G⟩ (Gc (u:=.opt (decide ((i29:Int) < (l.length:Int))) (E5 ((out.1++out.2).take m7))) O O ⟨Ge [] O O O .sct G (fun hc=>G5 O O) O,G⟩ (Gc (u:=.opt (decide ((i29:Int) < (l.length:Int))) (En i29)) O O ⟨Ge [] O O O .sct G (fun hc=>G5 O O) O,G⟩ (Gc (u:=.opt (decide ((i29:Int) < (l.length:Int))) (Em y29)) O O ⟨Ge [(28,E5 ((out.1++out.2).take m7)),(29,En i29)] O O O .sct ⟨.all id,.all id,G⟩ (fun hc=>Gt (f:=Frame.av) (xs:=((out.1++out.2).take m7)) (y:=y29) O O O Q0 hy29 O) O,G⟩ (Gc (u:=.opt (decide ((i29:Int) < (l.length:Int))) (.agg (Frame.cs y29))) O O ⟨Ge [(30,Em y29)] O O O .sct ⟨.all id,G⟩ (fun hc=>Gj Ga4 O O O) O,G⟩ (Gc (u:=.opt (decide ((i29:Int) < (l.length:Int))) (E5 l)) O O ⟨Ge [] O O O .sct G (fun hc=>G5 O O) O,G⟩ (Gc (u:=.opt (decide ((i29:Int) < (l.length:Int))) (En i29)) O O ⟨Ge [] O O O .sct G (fun hc=>G5 O O) O,G⟩ (Gc (u:=.opt (decide ((i29:Int) < (l.length:Int))) (Em y34)) O O ⟨Ge [(32,E5 l),(33,En i29)] O O O .sct ⟨.all id,.all id,G⟩ (fun hc=>(match Jf (Gz hc hy34) with | ⟨_,hm_,hy_⟩=>Gt (f:=Frame.av) (xs:=l) (y:=y34) O O O Q0 hy_ hm_)) O,G⟩ (Gc (u:=.opt (decide ((i29:Int) < (l.length:Int))) (.agg (Frame.cs y34))) O O ⟨Ge [(34,Em y34)] O O O .sct ⟨.all id,G⟩ (fun hc=>Gj Ga4 O O O) O,G⟩ (Gc (u:=.opt (decide ((i29:Int) < (l.length:Int))) (BL (decide (y29=y34)))) O O ⟨Ge [(31,.agg (Frame.cs y29)),(35,.agg (Frame.cs y34))] O O O .sct ⟨.all id,.all id,G⟩ (fun hc=>Ga0 (vs:=[.int .i64 y29.X,.int .i64 y29.Light,.int .i64 y29.Share,.int .i64 y29.Shear,.int .i64 y29.Bend]) (us:=[.int .i64 y34.X,.int .i64 y34.Light,.int .i64 y34.Share,.int .i64 y34.Shear,.int .i64 y34.Bend]) 4 O (tq_231 y29 y34) H49 Hb9 O O O) O,G⟩ ?_)))))))))))))
   refine Gc (u:=.opt (decide ((i29:Int) < (l.length:Int))) (BL (!(decide (y29=y34))))) O O ⟨Ge [(36,BL (decide (y29=y34)))] O O O .sct ⟨.all id,G⟩ (fun hc=>Qv (b:=decide (y29=y34)) O O) O,G⟩ (Gc (u:=BL ((decide ((i29:Int) < (l.length:Int)))&&(!(decide (y29=y34))))) O O ⟨Gw (Hx O O O O) O,G⟩ (Gc (u:=BL ((decide ((i29:Int) < (l.length:Int)))&&(!(decide (y29=y34))))) O O ⟨Gw (G5 O O) O,G⟩ (Gc (u:=.opt (!((decide ((i29:Int) < (l.length:Int)))&&(!(decide (y29=y34))))) (En i29)) O O ⟨Ge [] O O O .scf G (fun hc=>G5 O O) O,G⟩ (Gc (u:=.opt (!((decide ((i29:Int) < (l.length:Int)))&&(!(decide (y29=y34))))) (E5 l)) O O ⟨Ge [] O O O .scf G (fun hc=>G5 O O) O,G⟩ (Gc (u:=.opt (!((decide ((i29:Int) < (l.length:Int)))&&(!(decide (y29=y34))))) (En l.length)) O O ⟨Ge [(41,E5 l)] O O O .scf ⟨.all id,G⟩ (fun hc=>Qt (f:=Frame.av) (xs:=l) Q0 O O) O,G⟩ (Gc (u:=.opt (!((decide ((i29:Int) < (l.length:Int)))&&(!(decide (y29=y34))))) (BL (decide ((l.length:Int)≤(i29:Int))))) O O ⟨Ge [(40,En i29),(42,En l.length)] O O O .scf ⟨.all id,.all id,G⟩ (fun hc=>G29 O O O) O,G⟩ (Gc (u:=.opt (!((decide ((i29:Int) < (l.length:Int)))&&(!(decide (y29=y34))))) (BL (decide ((l.length:Int)≤(i29:Int))))) O O ⟨Ge [(43,BL (decide ((l.length:Int)≤(i29:Int))))] O O O .scf ⟨.all id,G⟩ (fun hc=>G5 O O) O,G⟩ (Gc (u:=.opt ((!((decide ((i29:Int) < (l.length:Int)))&&(!(decide (y29=y34)))))&&(decide ((l.length:Int)≤(i29:Int)))) (E5 ((out.1++out.2).take m7))) O O ⟨Ge [] O O O .optt G (fun hc=>G5 O O) O,G⟩ (Gc (u:=.opt ((!((decide ((i29:Int) < (l.length:Int)))&&(!(decide (y29=y34)))))&&(decide ((l.length:Int)≤(i29:Int)))) (En i29)) O O ⟨Ge [] O O O .optt G (fun hc=>G5 O O) O,G⟩ (Gc (u:=.opt ((!((decide ((i29:Int) < (l.length:Int)))&&(!(decide (y29=y34)))))&&(decide ((l.length:Int)≤(i29:Int)))) (Em y29)) O O ⟨Ge [(45,E5 ((out.1++out.2).take m7)),(46,En i29)] O O O .optt ⟨.all id,.all id,G⟩ (fun hc=>Gt (f:=Frame.av) (xs:=((out.1++out.2).take m7)) (y:=y29) O O O Q0 hy29 O) O,G⟩ (Gc (u:=.opt ((!((decide ((i29:Int) < (l.length:Int)))&&(!(decide (y29=y34)))))&&(decide ((l.length:Int)≤(i29:Int)))) (.agg (Frame.cs y29))) O O ⟨Ge [(47,Em y29)] O O O .optt ⟨.all id,G⟩ (fun hc=>Gj Ga4 O O O) O,G⟩ (Gc (u:=.opt ((!((decide ((i29:Int) < (l.length:Int)))&&(!(decide (y29=y34)))))&&(decide ((l.length:Int)≤(i29:Int)))) (En i29)) O O ⟨Ge [] O O O .optt G (fun hc=>G5 O O) O,G⟩ (Gc (u:=.opt ((!((decide ((i29:Int) < (l.length:Int)))&&(!(decide (y29=y34)))))&&(decide ((l.length:Int)≤(i29:Int)))) (E5 l)) O O ⟨Ge [] O O O .optt G (fun hc=>G5 O O) O,G⟩ ?_)))))))))))))
   refine Gc (u:=.opt ((!((decide ((i29:Int) < (l.length:Int)))&&(!(decide (y29=y34)))))&&(decide ((l.length:Int)≤(i29:Int)))) (En l.length)) O O ⟨Ge [(50,E5 l)] O O O .optt ⟨.all id,G⟩ (fun hc=>Qt (f:=Frame.av) (xs:=l) Q0 O O) O,G⟩ (Gc (u:=.opt ((!((decide ((i29:Int) < (l.length:Int)))&&(!(decide (y29=y34)))))&&(decide ((l.length:Int)≤(i29:Int)))) (G0 v35)) O O ⟨Ge [(49,En i29),(51,En l.length)] O O O .optt ⟨.all id,.all id,G⟩ (fun hc=>Gcb (G04 (Gz hc hv35)) O O O) O,G⟩ (Gc (u:=.opt ((!((decide ((i29:Int) < (l.length:Int)))&&(!(decide (y29=y34)))))&&(decide ((l.length:Int)≤(i29:Int)))) (.agg (Frame.cs r36))) O O ⟨Ge [(52,G0 v35)] O O O .optt ⟨.all id,G⟩ (fun hc=>Gq (args:=[G0 1,G0 v35]) O (G59 1 v35 r36 (Gz hc hr36)) J25 ⟨O,O,O,O,G⟩) O,G⟩ (Gc (u:=.opt ((!((decide ((i29:Int) < (l.length:Int)))&&(!(decide (y29=y34)))))&&(decide ((l.length:Int)≤(i29:Int)))) (BL (decide (y29=r36)))) O O ⟨Ge [(48,.agg (Frame.cs y29)),(53,.agg (Frame.cs r36))] O O O .optt ⟨.all id,.all id,G⟩ (fun hc=>Ga0 (vs:=[.int .i64 y29.X,.int .i64 y29.Light,.int .i64 y29.Share,.int .i64 y29.Shear,.int .i64 y29.Bend]) (us:=[.int .i64 r36.X,.int .i64 r36.Light,.int .i64 r36.Share,.int .i64 r36.Shear,.int .i64 r36.Bend]) 4 O (tq_231 y29 r36) H49 Hb9 O O O) O,G⟩ (Gc (u:=.opt ((!((decide ((i29:Int) < (l.length:Int)))&&(!(decide (y29=y34)))))&&(decide ((l.length:Int)≤(i29:Int)))) (BL (!(decide (y29=r36))))) O O ⟨Ge [(54,BL (decide (y29=r36)))] O O O .optt ⟨.all id,G⟩ (fun hc=>Qv (b:=decide (y29=r36)) O O) O,G⟩ (Gc (u:=.opt (!((decide ((i29:Int) < (l.length:Int)))&&(!(decide (y29=y34))))) (BL ((decide ((l.length:Int)≤(i29:Int)))&&(!(decide (y29=r36)))))) O O ⟨Ge [(44,BL (decide ((l.length:Int)≤(i29:Int)))),(55,_)] O O O .scf ⟨.all id,.part,G⟩ (fun hc=>Hx O O O O) O,G⟩ (Gc (u:=BL (((decide ((i29:Int) < (l.length:Int)))&&(!(decide (y29=y34))))||((decide ((l.length:Int)≤(i29:Int)))&&(!(decide (y29=r36)))))) O O ⟨Gw (Rn O O O O) O,G⟩ (Yz ?_)))))))
   refine hK33 _ _ (Gn O (fun hb=>?_) (fun hb=>?_))
   ·
    replace h:=Gz hb h
    refine G7 fun K37 hK37=>G2 (JLh (BL false) (G9 O O) O (G8 (hK37 _ _ (Gu (⟨[BL false],[],G,O,⟨⟨_,O,.conv (.same O)⟩,G⟩,O,congrArg (fun r:Bool=>(BL r:AV)) (Option.some.inj h)⟩)))))
   ·
    replace h:=Hv hb h
    refine Gp (hK32 _ _ (G2 (JLh (En i29) (G5 O O) O (JLh (G0 ((i29+1:Nat):Int)) (Hy (He hk29 hm19) O O O) O (JLh (G0 ((i29+1:Nat):Int)) (G9 O O) O (G8 (e29 _ _ (i29+1) () (app1 hn29 h) (by omega) ⟨⟨.same rfl,.same rfl,.same rfl,G⟩,G,rfl⟩)))))))
  ·
   have h:=app1 hkx29 (Ho hi29 (H9 hb))
   refine Hk (hK8 _ _ (G7 fun K38 hK38=>G2 (JLh (BL true) (G9 O O) O (G8 (hK38 _ _ (Gu (⟨[BL true],[],G,O,⟨⟨_,O,.conv (.same O)⟩,G⟩,O,congrArg (fun r:Bool=>(BL r:AV)) (Option.some.inj h)⟩)))))))

def Rk (x:Hh) (y:Gr):Option Bool:=
 bnd (Jt (Gr.mk x.Kilos x.X x.Y x.Z x.Surface x.Steps.1) y) fun r3=>
 bnd (bif r3 then J7 x.Steps y.Steps else some default) fun r4=>
 some (r3&&r4)
theorem H0a (x:Hh) (y:Gr) (r:Bool) (h:Rk x y=some r):Pure Tryz.prog 184 [.agg (Hh.cs x),.agg (Gr.cs y)] (·=BL r):=by
 unfold Rk at h
 refine H1 [.tmp 4] Tryz.func184 O O (G7 fun K1 hK1=>G2 (JLh (.ptr 1128 0) (Jy (u:=.agg (Hh.cs x)) (cs:=[G0 x.Kilos,G0 x.X,G0 x.Y,G0 x.Z,G0 x.Surface,LT 1 G0 x.Steps]) 1128 O O O O O) O (JLh (.ptr 1129 0) (Jy (u:=.agg (Gr.cs y)) (cs:=[G0 y.Kilos,G0 y.X,G0 y.Y,G0 y.Z,G0 y.Surface,E1 y.Steps]) 1129 O O O O O) O (JLh (BL false) (G9 O O) O (G8 (hK1 _ _ (Gx [(2,.dptr (Hh.cs x)),(3,.ptr 1129 0)] [(1129,.box 234 [G0 y.Kilos,G0 y.X,G0 y.Y,G0 y.Z,G0 y.Surface,E1 y.Steps])] 1128 rfl rfl rfl ⟨⟨_,rfl,.boxEq rfl rfl⟩,G⟩ rfl (by exact⟨.ptr,.conv (.same rfl),G⟩) (Gx [(2,.dptr (Hh.cs x)),(3,Ej y)] [] 1129 rfl rfl rfl G rfl (by exact⟨.conv (.same rfl),.ptr,G⟩) ?_))))))))
 refine G7 fun K2 hK2=>G2 (JLh (.agg [G0 x.Kilos,G0 x.X,G0 x.Y,G0 x.Z,G0 x.Surface,E1 x.Steps.1]) (H4.cv (Cv.aggL (cs:=(Hh.cs x)) ⟨.same,.same,.same,.same,.same,Cv.lst0 x.Steps,G⟩) (Gj G00 O O O)) O (JLh (.agg (Gr.cs y)) (Gj G00 O O O) O ?_))
 obtain⟨r3,hr3,h⟩:=Gf h
 refine JLh (BL r3) (Gq (args:=[.agg [G0 x.Kilos,G0 x.X,G0 x.Y,G0 x.Z,G0 x.Surface,E1 x.Steps.1],.agg (Gr.cs y)]) O (G1a (Gr.mk x.Kilos x.X x.Y x.Z x.Surface x.Steps.1) y r3 hr3) H78 ⟨O,O,O,O,G⟩) O (JLh (BL r3) (G5 O O) O (Ga (u:=.dptr [LT 1 G0 x.Steps]) [] O O O .sct G (fun hc=>Gb G36 O O O) ?_))
 refine Ga (u:=LT 1 G0 x.Steps) [(9,.dptr [LT 1 G0 x.Steps])] O O O .sct ⟨.all id,G⟩ (fun hc=>Gh Hg O O O) ?_
 refine Ga (u:=.dptr [E1 y.Steps]) [] O O O .sct G (fun hc=>Gb G36 O O O) ?_
 refine Ga (u:=E1 y.Steps) [(11,.dptr [E1 y.Steps])] O O O .sct ⟨.all id,G⟩ (fun hc=>Gh Hg O O O) ?_
 obtain⟨r4,hr4,h⟩:=Gf h
 refine Ga (u:=BL r4) [(10,LT 1 G0 x.Steps),(12,E1 y.Steps)] O O O .sct ⟨.all id,.all id,G⟩ (fun hc=>Gq (args:=[LT 1 G0 x.Steps,E1 y.Steps]) O (G1c x.Steps y.Steps r4 (Gz hc hr4)) H77 ⟨O,O,O,O,G⟩) ?_
 refine JLh (BL (r3&&r4)) (Hx O O O O) O (JLh (BL (r3&&r4)) (G9 O O) O (G8 (hK2 _ _ (Gu (⟨[BL (r3&&r4)],[],G,O,⟨⟨_,O,.conv (.same O)⟩,G⟩,O,congrArg (fun r:Bool=>(BL r:AV)) (Option.some.inj h)⟩)))))

def Re (out:Ln Hh) (l:List Gr):Option Bool:=
 bif decide ((out.1.length:Int)≠(l.length:Int)) then
 (some false)
 else
 (G32 ((l.length:Int)+12) fun v6=>
  bnd (G24 v6 (out.1++out.2).length) fun m7=>
  each (fun y33 i33 (s33:Unit) nx33=>
   bnd (bif decide ((i33:Int) < (l.length:Int)) then Q3 l (i33:Int) some else some default) fun y38=>
   bnd (bif decide ((i33:Int) < (l.length:Int)) then Rk y33 y38 else some default) fun r39=>
   bnd (bif ((!((decide ((i33:Int) < (l.length:Int)))&&(!r39)))&&(decide ((l.length:Int)≤(i33:Int)))) then G32 ((i33:Int) - (l.length:Int)) some else some 0) fun v40=>
   bnd (bif ((!((decide ((i33:Int) < (l.length:Int)))&&(!r39)))&&(decide ((l.length:Int)≤(i33:Int)))) then Qz 1 v40 else some default) fun r41=>
   bnd (bif ((!((decide ((i33:Int) < (l.length:Int)))&&(!r39)))&&(decide ((l.length:Int)≤(i33:Int)))) then Jt (Gr.mk y33.Kilos y33.X y33.Y y33.Z y33.Surface y33.Steps.1) r41 else some default) fun r42=>
   bif (((decide ((i33:Int) < (l.length:Int)))&&(!r39))||((decide ((l.length:Int)≤(i33:Int)))&&(!r42))) then
   (some false)
   else
   (nx33 ()))
  (fun(s33:Unit)=>
   some true) ((out.1++out.2).take m7) 0 ())
theorem Gf8 (out:Ln Hh) (l:List Gr) (r:Bool) (h:Re out l=some r):Pure Tryz.prog 88 [LT 6 Hh.av out,E7 l] (·=BL r):=by
 unfold Re at h
 refine H1 [.tmp 4] Tryz.func88 O O (G7 fun K1 hK1=>G2 (JLh (BL false) (G9 O O) O (G8 (hK1 _ _ (G7 (fun K2 hK2=>G7 fun K3 hK3=>G2 (JLh (LT 6 Hh.av out) (G5 O O) O (H3 (f:=Hh.av) (xs:=out.1) Jm O O (fun hm8=>?_) O O O))))))))
 refine JLh (E7 l) (G5 O O) O (H3 (f:=Gr.av) (xs:=l) Jm O O (fun hm10=>?_) O O O)
 refine JLh (BL (decide ((out.1.length:Int)≠(l.length:Int)))) (G5c O O O) O (G8 (hK3 _ _ (Gn O (fun hb=>?_) (fun hb=>?_))))
 ·
  replace h:=Gz hb h
  refine G7 fun K4 hK4=>G2 (JLh (BL false) (G9 O O) O (G8 (hK4 _ _ (Gu (⟨[BL false],[],G,O,⟨⟨_,O,.conv (.same O)⟩,G⟩,O,congrArg (fun r:Bool=>(BL r:AV)) (Option.some.inj h)⟩)))))
 ·
  replace h:=Hv hb h
  refine Gp (hK2 _ _ (G7 fun K5 hK5=>G2 (JLh (LT 6 Hh.av out) (G5 O O) O (JLh (E7 l) (G5 O O) O (H3 (f:=Gr.av) (xs:=l) Jm O O (fun hm14=>?_) O O O)))))
  obtain⟨v6,hv6,h⟩:=Qw h
  refine JLh (G0 v6) (Hy hv6 O O O) O ?_
  obtain⟨m7,hm7,h⟩:=Gf h
  refine JLh (Ed ((out.1++out.2).take m7)) (H20 (f:=Hh.av) (e:=out) O O O Jm (Rz hm7)) O (JLh (Ed ((out.1++out.2).take m7)) (G9 O O) O (G8 (hK5 _ _ (G7 (fun K8 hK8=>G7 fun K9 hK9=>G2 (JLh (G0 0) (G9 O O) O (G8 (hK9 _ _ (Gk ?_)))))))))
  obtain⟨b33,kx33,hb33,hkx33,h⟩:=Hw h
  refine Hc (fun i33 (s33:Unit)=>each b33 kx33 (List.drop i33 ((out.1++out.2).take m7)) i33 s33=some r) (fun i33 s33=>[(1,E7 l),(5,Ed ((out.1++out.2).take m7)),(6,En i33)]) (fun i33 s33=>[]) (fun i33=>((out.1++out.2).take m7).length - i33) 0 () h ⟨⟨.same O,.same O,.same O,G⟩,G,O⟩ ?_
  clear h
  intro i33 s33 hi33 K33 e33
  refine G7 (fun K34 hK34=>G7 fun K35 hK35=>G2 (JLh (En i33) (G5 O O) O (JLh (Ed ((out.1++out.2).take m7)) (G5 O O) O (H3 (f:=Hh.av) (xs:=((out.1++out.2).take m7)) Jm O O (fun hm19=>?_) O O O))))
  refine JLh (BL (decide ((i33:Int) < (((out.1++out.2).take m7).length:Int)))) (J2 O O O) O (G8 (hK35 _ _ (Gn O (fun hb=>?_) (fun hb=>?_))))
  ·
   have hk33:=Jc hb
   obtain⟨y33,nx33,hy33,hn33,h⟩:=Hn hi33 hk33
   replace h:=Yb hb33 h
   refine Gp (hK34 _ _ (G7 (fun K36 hK36=>Gk (G7 (fun K37 hK37=>?_)))))
   obtain⟨y38,hy38,h⟩:=Gf h
   obtain⟨r39,hr39,h⟩:=Gf h
   obtain⟨v40,hv40,h⟩:=Gf h
   obtain⟨r41,hr41,h⟩:=Gf h
   obtain⟨r42,hr42,h⟩:=Gf h
   refine Q6 [] [0,0,0,0,0,0,0,0,0,0,0,0,0,0,0,0,0,0,0,0,0,0,0,0,0,0,0,0,0,0,0,0,0,0,0] [0,0,0,0,0,0,0,0,0,0,0,0,0,0,0,0,0,0,0,0,0,0,0,0,0,0,0,0,0,0,0,0,0,0,0] [[]] Jk (by kernel_rfl) rfl rfl ?_
   refine Gc (u:=En i33) O O ⟨Gw (G5 O O) O,G⟩ (Gc (u:=E7 l) O O ⟨Gw (G5 O O) O,G⟩ (Gc (u:=En l.length) O O ⟨Gw (Qt (f:=Gr.av) (xs:=l) Jm O O) O,G⟩ (Gc (u:=BL (decide ((i33:Int) < (l.length:Int)))) O O ⟨Gw (J2 O O O) O,G⟩ (Gc (u:=BL (decide ((i33:Int) < (l.length:Int)))) O O ⟨Gw (G5 O O) O,G⟩ (Gc (u:=.opt (decide ((i33:Int) < (l.length:Int))) (Ed ((out.1++out.2).take m7))) O O ⟨Ge [] O O O .sct G (fun hc=>G5 O O) O,G⟩ (Gc (u:=.opt (decide ((i33:Int) < (l.length:Int))) (En i33)) O O ⟨Ge [] O O O .sct G (fun hc=>G5 O O) O,G⟩ (Gc (u:=.opt (decide ((i33:Int) < (l.length:Int))) (.dptr (Hh.cs y33))) O O ⟨Ge [(28,Ed ((out.1++out.2).take m7)),(29,En i33)] O O O .sct ⟨.all id,.all id,G⟩ (fun hc=>Gt (f:=Hh.av) (xs:=((out.1++out.2).take m7)) (y:=y33) O O O Jm hy33 O) O,G⟩ (Gc (u:=.opt (decide ((i33:Int) < (l.length:Int))) (.agg (Hh.cs y33))) O O ⟨Ge [(30,.dptr (Hh.cs y33))] O O O .sct ⟨.all id,G⟩ (fun hc=>Gj G00 O O O) O,G⟩ (Gc (u:=.opt (decide ((i33:Int) < (l.length:Int))) (E7 l)) O O ⟨Ge [] O O O .sct G (fun hc=>G5 O O) O,G⟩ (Gc (u:=.opt (decide ((i33:Int) < (l.length:Int))) (En i33)) O O ⟨Ge [] O O O .sct G (fun hc=>G5 O O) O,G⟩ (Gc (u:=.opt (decide ((i33:Int) < (l.length:Int))) (Ej y38)) O O ⟨Ge [(32,E7 l),(33,En i33)] O O O .sct ⟨.all id,.all id,G⟩ (fun hc=>(match Jf (Gz hc hy38) with | ⟨_,hm_,hy_⟩=>Gt (f:=Gr.av) (xs:=l) (y:=y38) O O O Jm hy_ hm_)) O,G⟩ (Gc (u:=.opt (decide ((i33:Int) < (l.length:Int))) (.agg (Gr.cs y38))) O O ⟨Ge [(34,Ej y38)] O O O .sct ⟨.all id,G⟩ (fun hc=>Gj G00 O O O) O,G⟩ (Gc (u:=.opt (decide ((i33:Int) < (l.length:Int))) (BL r39)) O O ⟨Ge [(31,.agg (Hh.cs y33)),(35,.agg (Gr.cs y38))] O O O .sct ⟨.all id,.all id,G⟩ (fun hc=>Gq (args:=[.agg (Hh.cs y33),.agg (Gr.cs y38)]) O (H0a y33 y38 r39 (Gz hc hr39)) Jc8 ⟨O,O,O,O,G⟩) O,G⟩ ?_)))))))))))))
   refine Gc (u:=.opt (decide ((i33:Int) < (l.length:Int))) (BL (!r39))) O O ⟨Ge [(36,BL r39)] O O O .sct ⟨.all id,G⟩ (fun hc=>Qv (b:=r39) O O) O,G⟩ (Gc (u:=BL ((decide ((i33:Int) < (l.length:Int)))&&(!r39))) O O ⟨Gw (Hx O O O O) O,G⟩ (Gc (u:=BL ((decide ((i33:Int) < (l.length:Int)))&&(!r39))) O O ⟨Gw (G5 O O) O,G⟩ (Gc (u:=.opt (!((decide ((i33:Int) < (l.length:Int)))&&(!r39))) (En i33)) O O ⟨Ge [] O O O .scf G (fun hc=>G5 O O) O,G⟩ (Gc (u:=.opt (!((decide ((i33:Int) < (l.length:Int)))&&(!r39))) (E7 l)) O O ⟨Ge [] O O O .scf G (fun hc=>G5 O O) O,G⟩ (Gc (u:=.opt (!((decide ((i33:Int) < (l.length:Int)))&&(!r39))) (En l.length)) O O ⟨Ge [(41,E7 l)] O O O .scf ⟨.all id,G⟩ (fun hc=>Qt (f:=Gr.av) (xs:=l) Jm O O) O,G⟩ (Gc (u:=.opt (!((decide ((i33:Int) < (l.length:Int)))&&(!r39))) (BL (decide ((l.length:Int)≤(i33:Int))))) O O ⟨Ge [(40,En i33),(42,En l.length)] O O O .scf ⟨.all id,.all id,G⟩ (fun hc=>G29 O O O) O,G⟩ (Gc (u:=.opt (!((decide ((i33:Int) < (l.length:Int)))&&(!r39))) (BL (decide ((l.length:Int)≤(i33:Int))))) O O ⟨Ge [(43,BL (decide ((l.length:Int)≤(i33:Int))))] O O O .scf ⟨.all id,G⟩ (fun hc=>G5 O O) O,G⟩ (Gc (u:=.opt ((!((decide ((i33:Int) < (l.length:Int)))&&(!r39)))&&(decide ((l.length:Int)≤(i33:Int)))) (Ed ((out.1++out.2).take m7))) O O ⟨Ge [] O O O .optt G (fun hc=>G5 O O) O,G⟩ (Gc (u:=.opt ((!((decide ((i33:Int) < (l.length:Int)))&&(!r39)))&&(decide ((l.length:Int)≤(i33:Int)))) (En i33)) O O ⟨Ge [] O O O .optt G (fun hc=>G5 O O) O,G⟩ (Gc (u:=.opt ((!((decide ((i33:Int) < (l.length:Int)))&&(!r39)))&&(decide ((l.length:Int)≤(i33:Int)))) (.dptr (Hh.cs y33))) O O ⟨Ge [(45,Ed ((out.1++out.2).take m7)),(46,En i33)] O O O .optt ⟨.all id,.all id,G⟩ (fun hc=>Gt (f:=Hh.av) (xs:=((out.1++out.2).take m7)) (y:=y33) O O O Jm hy33 O) O,G⟩ (Gc (u:=.opt ((!((decide ((i33:Int) < (l.length:Int)))&&(!r39)))&&(decide ((l.length:Int)≤(i33:Int)))) (.agg [G0 y33.Kilos,G0 y33.X,G0 y33.Y,G0 y33.Z,G0 y33.Surface,E1 y33.Steps.1])) O O ⟨Ge [(47,.dptr (Hh.cs y33))] O O O .optt ⟨.all id,G⟩ (fun hc=>H4.cv (Cv.aggL (cs:=(Hh.cs y33)) ⟨.same,.same,.same,.same,.same,Cv.lst0 y33.Steps,G⟩) (Gj G00 O O O)) O,G⟩ (Gc (u:=.opt ((!((decide ((i33:Int) < (l.length:Int)))&&(!r39)))&&(decide ((l.length:Int)≤(i33:Int)))) (En i33)) O O ⟨Ge [] O O O .optt G (fun hc=>G5 O O) O,G⟩ (Gc (u:=.opt ((!((decide ((i33:Int) < (l.length:Int)))&&(!r39)))&&(decide ((l.length:Int)≤(i33:Int)))) (E7 l)) O O ⟨Ge [] O O O .optt G (fun hc=>G5 O O) O,G⟩ ?_)))))))))))))
   refine Gc (u:=.opt ((!((decide ((i33:Int) < (l.length:Int)))&&(!r39)))&&(decide ((l.length:Int)≤(i33:Int)))) (En l.length)) O O ⟨Ge [(50,E7 l)] O O O .optt ⟨.all id,G⟩ (fun hc=>Qt (f:=Gr.av) (xs:=l) Jm O O) O,G⟩ (Gc (u:=.opt ((!((decide ((i33:Int) < (l.length:Int)))&&(!r39)))&&(decide ((l.length:Int)≤(i33:Int)))) (G0 v40)) O O ⟨Ge [(49,En i33),(51,En l.length)] O O O .optt ⟨.all id,.all id,G⟩ (fun hc=>Gcb (G04 (Gz hc hv40)) O O O) O,G⟩ (Gc (u:=.opt ((!((decide ((i33:Int) < (l.length:Int)))&&(!r39)))&&(decide ((l.length:Int)≤(i33:Int)))) (.agg (Gr.cs r41))) O O ⟨Ge [(52,G0 v40)] O O O .optt ⟨.all id,G⟩ (fun hc=>Gq (args:=[G0 1,G0 v40]) O (G68 1 v40 r41 (Gz hc hr41)) J24 ⟨O,O,O,O,G⟩) O,G⟩ (Gc (u:=.opt ((!((decide ((i33:Int) < (l.length:Int)))&&(!r39)))&&(decide ((l.length:Int)≤(i33:Int)))) (BL r42)) O O ⟨Ge [(48,.agg [G0 y33.Kilos,G0 y33.X,G0 y33.Y,G0 y33.Z,G0 y33.Surface,E1 y33.Steps.1]),(53,.agg (Gr.cs r41))] O O O .optt ⟨.all id,.all id,G⟩ (fun hc=>Gq (args:=[.agg [G0 y33.Kilos,G0 y33.X,G0 y33.Y,G0 y33.Z,G0 y33.Surface,E1 y33.Steps.1],.agg (Gr.cs r41)]) O (G1a (Gr.mk y33.Kilos y33.X y33.Y y33.Z y33.Surface y33.Steps.1) r41 r42 (Gz hc hr42)) H78 ⟨O,O,O,O,G⟩) O,G⟩ (Gc (u:=.opt ((!((decide ((i33:Int) < (l.length:Int)))&&(!r39)))&&(decide ((l.length:Int)≤(i33:Int)))) (BL (!r42))) O O ⟨Ge [(54,BL r42)] O O O .optt ⟨.all id,G⟩ (fun hc=>Qv (b:=r42) O O) O,G⟩ (Gc (u:=.opt (!((decide ((i33:Int) < (l.length:Int)))&&(!r39))) (BL ((decide ((l.length:Int)≤(i33:Int)))&&(!r42)))) O O ⟨Ge [(44,BL (decide ((l.length:Int)≤(i33:Int)))),(55,_)] O O O .scf ⟨.all id,.part,G⟩ (fun hc=>Hx O O O O) O,G⟩ (Gc (u:=BL (((decide ((i33:Int) < (l.length:Int)))&&(!r39))||((decide ((l.length:Int)≤(i33:Int)))&&(!r42)))) O O ⟨Gw (Rn O O O O) O,G⟩ (Yz ?_)))))))
   refine hK37 _ _ (Gn O (fun hb=>?_) (fun hb=>?_))
   ·
    replace h:=Gz hb h
    refine G7 fun K43 hK43=>G2 (JLh (BL false) (G9 O O) O (G8 (hK43 _ _ (Gu (⟨[BL false],[],G,O,⟨⟨_,O,.conv (.same O)⟩,G⟩,O,congrArg (fun r:Bool=>(BL r:AV)) (Option.some.inj h)⟩)))))
   ·
    replace h:=Hv hb h
    refine Gp (hK36 _ _ (G2 (JLh (En i33) (G5 O O) O (JLh (G0 ((i33+1:Nat):Int)) (Hy (He hk33 hm19) O O O) O (JLh (G0 ((i33+1:Nat):Int)) (G9 O O) O (G8 (e33 _ _ (i33+1) () (app1 hn33 h) (by omega) ⟨⟨.same rfl,.same rfl,.same rfl,G⟩,G,rfl⟩)))))))
  ·
   have h:=app1 hkx33 (Ho hi33 (H9 hb))
   refine Hk (hK8 _ _ (G7 fun K44 hK44=>G2 (JLh (BL true) (G9 O O) O (G8 (hK44 _ _ (Gu (⟨[BL true],[],G,O,⟨⟨_,O,.conv (.same O)⟩,G⟩,O,congrArg (fun r:Bool=>(BL r:AV)) (Option.some.inj h)⟩)))))))

def Yx (x:Y4) (y:Hb):Option Bool:=
 bnd (Ys (Hb.mk (x.Columns.1.map Gy.pl) (x.Covers.1.map Ha.pl) x.Light x.Rows.1 x.Frames.1 (x.Tanks.1.map Hh.pl) x.G3) y) fun r3=>
 bnd (bif r3 then R3 x.Columns y.Columns else some default) fun r4=>
 bnd (bif (r3&&r4) then R7 x.Covers y.Covers else some default) fun r5=>
 bnd (bif ((r3&&r4)&&r5) then Rm x.Rows y.Rows else some default) fun r6=>
 bnd (bif (((r3&&r4)&&r5)&&r6) then R6 x.Frames y.Frames else some default) fun r7=>
 bnd (bif ((((r3&&r4)&&r5)&&r6)&&r7) then Re x.Tanks y.Tanks else some default) fun r8=>
 some (((((r3&&r4)&&r5)&&r6)&&r7)&&r8)
theorem H0b (x:Y4) (y:Hb) (r:Bool) (h:Yx x y=some r):Pure Tryz.prog 26 [.agg (Y4.cs x),.agg (Hb.cs y)] (·=BL r):=by
 unfold Yx at h
 refine H1 [.tmp 4] Tryz.func26 O O (G7 fun K1 hK1=>G2 (JLh (.ptr 1024 0) (Jy (u:=.agg (Y4.cs x)) (cs:=(Y4.cs x)) 1024 O O O O O) O (JLh (.ptr 1025 0) (Jy (u:=.agg (Hb.cs y)) (cs:=(Hb.cs y)) 1025 O O O O O) O (JLh (BL false) (G9 O O) O (G8 (hK1 _ _ ?_))))))
 refine Gx [(2,.dptr (Y4.cs x)),(3,.ptr 1025 0)] [(1025,.box 32 (Hb.cs y))] 1024 rfl rfl rfl ⟨⟨_,rfl,.boxEq rfl rfl⟩,G⟩ rfl (by exact⟨.ptr,.conv (.same rfl),G⟩) (Gx [(2,.dptr (Y4.cs x)),(3,Ee y)] [] 1025 rfl rfl rfl G rfl (by exact⟨.conv (.same rfl),.ptr,G⟩) ?_)
 refine G7 fun K2 hK2=>G2 (JLh (.agg [E3 (x.Columns.1.map Gy.pl),E4 (x.Covers.1.map Ha.pl),G0 x.Light.Kilos,G0 x.Light.X,G0 x.Light.Y,G0 x.Light.Z,E6 x.Rows.1,E5 x.Frames.1,E7 (x.Tanks.1.map Hh.pl),G0 x.G3.Tolerance,G0 x.G3.Trim,G0 x.G3.List_,G0 x.G3.Stability]) (H4.cv (Cv.aggL (cs:=(Y4.cs x)) ⟨Cv.lstM (f:=Gy.av) (g:=G4.av) Gy.pl Gy.cvl x.Columns,Cv.lstM (f:=Ha.av) (g:=Gg.av) Ha.pl Ha.cvl x.Covers,.same,.same,.same,.same,Cv.lst0 x.Rows,Cv.lst0 x.Frames,Cv.lstM (f:=Hh.av) (g:=Gr.av) Hh.pl Hh.cvl x.Tanks,.same,.same,.same,.same,G⟩) (Gj J8 O O O)) O (JLh (.agg (Hb.cs y)) (Gj J8 O O O) O ?_))
 obtain⟨r3,hr3,h⟩:=Gf h
 refine JLh (BL r3) (Gq (args:=[.agg [E3 (x.Columns.1.map Gy.pl),E4 (x.Covers.1.map Ha.pl),G0 x.Light.Kilos,G0 x.Light.X,G0 x.Light.Y,G0 x.Light.Z,E6 x.Rows.1,E5 x.Frames.1,E7 (x.Tanks.1.map Hh.pl),G0 x.G3.Tolerance,G0 x.G3.Trim,G0 x.G3.List_,G0 x.G3.Stability],.agg (Hb.cs y)]) O (H05 (Hb.mk (x.Columns.1.map Gy.pl) (x.Covers.1.map Ha.pl) x.Light x.Rows.1 x.Frames.1 (x.Tanks.1.map Hh.pl) x.G3) y r3 hr3) Jfd ⟨O,O,O,O,G⟩) O (JLh (BL r3) (G5 O O) O (Ga (u:=.dptr (Y4.cs x)) [] O O O .sct G (fun hc=>Gb Hi O O O) ?_))
 refine Ga (u:=LT 12 Gy.av x.Columns) [(9,.dptr (Y4.cs x))] O O O .sct ⟨.all id,G⟩ (fun hc=>Gh Hq O O O) ?_
 refine Ga (u:=Ee y) [] O O O .sct G (fun hc=>Gb Hi O O O) ?_
 refine Ga (u:=E3 y.Columns) [(11,Ee y)] O O O .sct ⟨.all id,G⟩ (fun hc=>Gh Hq O O O) ?_
 obtain⟨r4,hr4,h⟩:=Gf h
 refine Ga (u:=BL r4) [(10,LT 12 Gy.av x.Columns),(12,E3 y.Columns)] O O O .sct ⟨.all id,.all id,G⟩ (fun hc=>Gq (args:=[LT 12 Gy.av x.Columns,E3 y.Columns]) O (Gc8 x.Columns y.Columns r4 (Gz hc hr4)) Jfc ⟨O,O,O,O,G⟩) ?_
 refine JLh (BL (r3&&r4)) (Hx O O O O) O (JLh (BL (r3&&r4)) (G5 O O) O (Ga (u:=.dptr ((Y4.cs x).drop 1)) [] O O O .sct G (fun hc=>Gb Jz O O O) ?_))
 refine Ga (u:=LT 2 Ha.av x.Covers) [(16,.dptr ((Y4.cs x).drop 1))] O O O .sct ⟨.all id,G⟩ (fun hc=>Gh Qh O O O) ?_
 refine Ga (u:=.dptr ((Hb.cs y).drop 1)) [] O O O .sct G (fun hc=>Gb Jz O O O) ?_
 refine Ga (u:=E4 y.Covers) [(18,.dptr ((Hb.cs y).drop 1))] O O O .sct ⟨.all id,G⟩ (fun hc=>Gh Qh O O O) ?_
 obtain⟨r5,hr5,h⟩:=Gf h
 refine Ga (u:=BL r5) [(17,LT 2 Ha.av x.Covers),(19,E4 y.Covers)] O O O .sct ⟨.all id,.all id,G⟩ (fun hc=>Gq (args:=[LT 2 Ha.av x.Covers,E4 y.Covers]) O (Gd7 x.Covers y.Covers r5 (Gz hc hr5)) Jfb ⟨O,O,O,O,G⟩) ?_
 refine JLh (BL ((r3&&r4)&&r5)) (Hx O O O O) O (JLh (BL ((r3&&r4)&&r5)) (G5 O O) O (Ga (u:=.dptr ((Y4.cs x).drop 6)) [] O O O .sct G (fun hc=>Gb G4c O O O) ?_))
 refine Ga (u:=LT 5 Row.av x.Rows) [(23,.dptr ((Y4.cs x).drop 6))] O O O .sct ⟨.all id,G⟩ (fun hc=>Gh G8d O O O) ?_
 refine Ga (u:=.dptr ((Hb.cs y).drop 6)) [] O O O .sct G (fun hc=>Gb G4c O O O) ?_
 refine Ga (u:=E6 y.Rows) [(25,.dptr ((Hb.cs y).drop 6))] O O O .sct ⟨.all id,G⟩ (fun hc=>Gh G8d O O O) ?_
 obtain⟨r6,hr6,h⟩:=Gf h
 refine Ga (u:=BL r6) [(24,LT 5 Row.av x.Rows),(26,E6 y.Rows)] O O O .sct ⟨.all id,.all id,G⟩ (fun hc=>Gq (args:=[LT 5 Row.av x.Rows,E6 y.Rows]) O (H0c x.Rows y.Rows r6 (Gz hc hr6)) Jfa ⟨O,O,O,O,G⟩) ?_
 refine JLh (BL (((r3&&r4)&&r5)&&r6)) (Hx O O O O) O (JLh (BL (((r3&&r4)&&r5)&&r6)) (G5 O O) O (Ga (u:=.dptr ((Y4.cs x).drop 7)) [] O O O .sct G (fun hc=>Gb G4b O O O) ?_))
 refine Ga (u:=LT 5 Frame.av x.Frames) [(30,.dptr ((Y4.cs x).drop 7))] O O O .sct ⟨.all id,G⟩ (fun hc=>Gh G8c O O O) ?_
 refine Ga (u:=.dptr ((Hb.cs y).drop 7)) [] O O O .sct G (fun hc=>Gb G4b O O O) ?_
 refine Ga (u:=E5 y.Frames) [(32,.dptr ((Hb.cs y).drop 7))] O O O .sct ⟨.all id,G⟩ (fun hc=>Gh G8c O O O) ?_
 obtain⟨r7,hr7,h⟩:=Gf h
 refine Ga (u:=BL r7) [(31,LT 5 Frame.av x.Frames),(33,E5 y.Frames)] O O O .sct ⟨.all id,.all id,G⟩ (fun hc=>Gq (args:=[LT 5 Frame.av x.Frames,E5 y.Frames]) O (Gd6 x.Frames y.Frames r7 (Gz hc hr7)) Jf9 ⟨O,O,O,O,G⟩) ?_
 refine JLh (BL ((((r3&&r4)&&r5)&&r6)&&r7)) (Hx O O O O) O (JLh (BL ((((r3&&r4)&&r5)&&r6)&&r7)) (G5 O O) O (Ga (u:=.dptr ((Y4.cs x).drop 8)) [] O O O .sct G (fun hc=>Gb G4a O O O) ?_))
 refine Ga (u:=LT 6 Hh.av x.Tanks) [(37,.dptr ((Y4.cs x).drop 8))] O O O .sct ⟨.all id,G⟩ (fun hc=>Gh G8b O O O) ?_
 refine Ga (u:=.dptr ((Hb.cs y).drop 8)) [] O O O .sct G (fun hc=>Gb G4a O O O) ?_
 refine Ga (u:=E7 y.Tanks) [(39,.dptr ((Hb.cs y).drop 8))] O O O .sct ⟨.all id,G⟩ (fun hc=>Gh G8b O O O) ?_
 obtain⟨r8,hr8,h⟩:=Gf h
 refine Ga (u:=BL r8) [(38,LT 6 Hh.av x.Tanks),(40,E7 y.Tanks)] O O O .sct ⟨.all id,.all id,G⟩ (fun hc=>Gq (args:=[LT 6 Hh.av x.Tanks,E7 y.Tanks]) O (Gf8 x.Tanks y.Tanks r8 (Gz hc hr8)) Jf8 ⟨O,O,O,O,G⟩) ?_
 refine JLh (BL (((((r3&&r4)&&r5)&&r6)&&r7)&&r8)) (Hx O O O O) O (JLh (BL (((((r3&&r4)&&r5)&&r6)&&r7)&&r8)) (G9 O O) O (G8 (hK2 _ _ (Gu (⟨[BL (((((r3&&r4)&&r5)&&r6)&&r7)&&r8)],[],G,O,⟨⟨_,O,.conv (.same O)⟩,G⟩,O,congrArg (fun r:Bool=>(BL r:AV)) (Option.some.inj h)⟩)))))

def Rb (k:Int) (i:Int):Option Gv:=
 bnd (Ji k i) fun r3=>
 some (Gv.mk r3 ByteArray.empty 0 false 0 0 0 0 false)
theorem G73 (k:Int) (i:Int) (r:Gv) (h:Rb k i=some r):Pure Tryz.prog 68 [G0 k,G0 i] (·=.agg (Gv.cs r)):=by
 unfold Rb at h
 refine H1 [.cell 4 117] Tryz.func68 O O (G7 fun K1 hK1=>G2 (JLh (.ptr 1041 0) (Zc 1041 [G0 0,ST ByteArray.empty,U8 0,BL false,G0 0,G0 0,G0 0,U8 0,BL false] [.int .i64 0,.string ByteArray.empty,.int .u8 0,.bool false,.int .i64 0,.int .i64 0,.int .i64 0,.int .u8 0,.bool false] G21 ⟨.inl O,.inl O,.inl O,.inl O,.inl O,.inl O,.inl O,.inl O,.inl O,G⟩ O O) O (G8 (hK1 _ _ (G7 fun K2 hK2=>G2 (JLh (G0 k) (G5 O O) O (JLh (G0 i) (G5 O O) O ?_)))))))
 obtain⟨r3,hr3,h⟩:=Gf h
 refine JLh (G0 r3) (Gq (args:=[G0 k,G0 i]) O (Qi k i r3 hr3) G22 ⟨O,O,O,O,G⟩) O (JLh (.agg [G0 r3,ST ByteArray.empty,U8 0,BL false,G0 0,G0 0,G0 0,U8 0,BL false]) (Jv (cs:=[G0 r3,ST ByteArray.empty,U8 0,BL false,G0 0,G0 0,G0 0,U8 0,BL false]) [(0,1),(1,1),(2,1),(3,1),(4,1),(5,1),(6,1),(7,1),(8,1)] [G0 0,ST ByteArray.empty,U8 0,BL false,G0 0,G0 0,G0 0,U8 0,BL false] [.int .i64 0,.string ByteArray.empty,.int .u8 0,.bool false,.int .i64 0,.int .i64 0,.int .i64 0,.int .u8 0,.bool false] G48 G21 ⟨.inl O,.inl O,.inl O,.inl O,.inl O,.inl O,.inl O,.inl O,.inl O,G⟩ O O) O (J4 (u:=.junk) (Ht (u:=.agg [G0 r3,ST ByteArray.empty,U8 0,BL false,G0 0,G0 0,G0 0,U8 0,BL false]) (ds:=[G0 r3,ST ByteArray.empty,U8 0,BL false,G0 0,G0 0,G0 0,U8 0,BL false]) Zt O O O O O O O O) (G8 (hK2 _ _ ?_))))
 refine Gu (⟨[.agg [G0 r3,ST ByteArray.empty,U8 0,BL false,G0 0,G0 0,G0 0,U8 0,BL false]],[],G,O,⟨⟨_,⟨_,_,_,_,O,O,O,.inl ⟨Z5,O⟩⟩,.conv (.same O)⟩,G⟩,O,congrArg (fun r:Gv=>(.agg (Gv.cs r):AV)) (Option.some.inj h)⟩)

def Yj (l:List Gv):Option (Ln Gv):=
 G32 ((l.length:Int)+12) fun v3=>
 bnd (H1a v3) fun m4=>
 need (decide (64*m4≤281474976710656∧m4≤maxLen)) <|
 need (decide ((([]:List Gv).length+l.length)*64≤140737488355328∧([]:List Gv).length+l.length≤maxLen)) <|
 need (decide (12≤9223372036854775807)) <|
 upto (fun i19 (s19:(List Gv)) nx19=>
  bnd (Rb 1 (i19:Int)) fun r23=>
  need (decide ((s19.length+[r23].length)*64≤140737488355328∧s19.length+[r23].length≤maxLen)) <|
  nx19 (s19++[r23]))
 (fun(s19:(List Gv))=>
  bnd (G24 (l.length:Int) s19.length) fun m26=>
  some (s19.take m26,s19.drop m26)) (12:Int).toNat 0 (([]:List Gv)++l)
theorem Gf7 (l:List Gv) (r:(Ln Gv)) (h:Yj l=some r):Pure Tryz.prog 13 [E2 l] (·=LT 9 Gv.av r):=by
 unfold Yj at h
 refine H1 [.tmp 2] Tryz.func13 O O (G7 fun K1 hK1=>G2 (JLh (E2 ([]:List Gv)) (R4 9 O O) O (G8 (hK1 _ _ (G7 fun K2 hK2=>G2 (JLh (E2 l) (G5 O O) O (H3 (f:=Gv.av) (xs:=l) J5 O O (fun hm6=>?_) O O O)))))))
 obtain⟨v3,hv3,h⟩:=Qw h
 refine JLh (G0 v3) (Hy hv3 O O O) O ?_
 obtain⟨m4,hm4,h⟩:=Gf h
 obtain⟨ha5,h⟩:=J6 h
 refine JLh (OW 1010 9 Gv.av ([]:List Gv)) (G8a 1010 O O O O J5 H73 O (G82 hm4) ha5) O (JLh (OW 1010 9 Gv.av ([]:List Gv)) (G9 O O) O (G8 (hK2 _ _ (G7 fun K6 hK6=>G2 (JLh (OW 1010 9 Gv.av ([]:List Gv)) (G5 O O) O (JLh (E2 l) (G5 O O) O ?_))))))
 obtain⟨ha7,h⟩:=J6 h
 refine JLh (OW 1010 9 Gv.av (([]:List Gv)++l)) (H40 (f:=Gv.av) (xs:=([]:List Gv)) (ys:=l) O O O O J5 H73 ha7 (fun _=>O) (.inl O)) O (JLh (OW 1010 9 Gv.av (([]:List Gv)++l)) (G9 O O) O (G8 (hK6 _ _ (G7 (fun K8 hK8=>G7 fun K9 hK9=>G2 (JLh (G0 0) (G9 O O) O (G8 (hK9 _ _ (Gk ?_)))))))))
 obtain⟨hx19,h⟩:=J6 h
 obtain⟨b19,kx19,hb19,hkx19,h⟩:=G5d h
 refine Hc (fun i19 (s19:(List Gv))=>upto b19 kx19 ((12:Int).toNat - i19) i19 s19=some r) (fun i19 s19=>[(0,E2 l),(3,OW 1010 9 Gv.av s19),(4,En i19)]) (fun i19 s19=>[(1010,.spare 117 9 s19.length s19.length)]) (fun i19=>(12:Int).toNat - i19) 0 (([]:List Gv)++l) h ⟨⟨.same O,.same O,.same O,G⟩,⟨⟨_,O,.same⟩,G⟩,O⟩ ?_
 clear h
 intro i19 s19 hi19 K19 e19
 refine G7 (fun K20 hK20=>G7 fun K21 hK21=>G2 (JLh (En i19) (G5 O O) O (JLh (BL (decide ((i19:Int) < 12))) (J2 O O O) O (G8 (hK21 _ _ (Gn O (fun hb=>?_) (fun hb=>?_)))))))
 ·
  have hk19:=G37 hb
  obtain⟨nx19,hn19,h⟩:=G34 hi19 hk19
  replace h:=Heb hb19 h
  refine Gp (hK20 _ _ (G7 (fun K22 hK22=>Gk (G2 (JLh (OW 1010 9 Gv.av s19) (G5 O O) O (JLh (En i19) (G5 O O) O ?_))))))
  obtain⟨r23,hr23,h⟩:=Gf h
  refine JLh (.agg (Gv.cs r23)) (Gq (args:=[G0 1,En i19]) O (G73 1 (i19:Int) r23 hr23) J63 ⟨O,O,O,O,G⟩) O (JLh (E2 [r23]) (Hm (xs:=[.agg (Gv.cs r23)]) O ⟨O,O,G⟩ J5 G1f O O O O) O ?_)
  obtain⟨ha24,h⟩:=J6 h
  refine JLh (OW 1010 9 Gv.av (s19++[r23])) (Yd (f:=Gv.av) (xs:=s19) (ys:=[r23]) O O O O J5 H73 ha24 (fun _=>O) (.inl O) O) O (JLh (OW 1010 9 Gv.av (s19++[r23])) (G9 O O) O (G8 (hK22 _ _ (G2 (JLh (En i19) (G5 O O) O (JLh (G0 ((i19+1:Nat):Int)) (Hy (He hk19 (G11 hx19)) O O O) O (JLh (G0 ((i19+1:Nat):Int)) (G9 O O) O (G8 (e19 _ _ (i19+1) (s19++[r23]) (app1 hn19 h) (by omega) ⟨⟨.same rfl,.same rfl,.same rfl,G⟩,⟨⟨_,rfl,.same⟩,G⟩,rfl⟩)))))))))
 ·
  have h:=app1 hkx19 (G35 hi19 (Ry hb))
  refine Hk (hK8 _ _ (G7 fun K25 hK25=>G2 (JLh (OW 1010 9 Gv.av s19) (G5 O O) O (JLh (E2 l) (G5 O O) O (H3 (f:=Gv.av) (xs:=l) J5 O O (fun hm23=>?_) O O O)))))
  obtain⟨m26,hm26,h⟩:=Gf h
  refine JLh (LT 9 Gv.av (s19.take m26,s19.drop m26)) (J3f (f:=Gv.av) (xs:=s19) O O O J5 (Rz hm26)) O (JLh (LT 9 Gv.av (s19.take m26,s19.drop m26)) (G9 O O) O (G8 (hK25 _ _ (Gu (⟨[LT 9 Gv.av (s19.take m26,s19.drop m26)],[],G,O,⟨⟨_,O,.conv (.same O)⟩,G⟩,O,congrArg (fun r:(Ln Gv)=>(LT 9 Gv.av r:AV)) (Option.some.inj h)⟩)))))

def Yk (out:Ln Gv) (l:List Gv):Option Bool:=
 bif decide ((out.1.length:Int)≠(l.length:Int)) then
 (some false)
 else
 (G32 ((l.length:Int)+12) fun v6=>
  bnd (G24 v6 (out.1++out.2).length) fun m7=>
  each (fun y29 i29 (s29:Unit) nx29=>
   bnd (bif decide ((i29:Int) < (l.length:Int)) then Q3 l (i29:Int) some else some default) fun y34=>
   bnd (bif ((!((decide ((i29:Int) < (l.length:Int)))&&(!(decide (y29=y34)))))&&(decide ((l.length:Int)≤(i29:Int)))) then G32 ((i29:Int) - (l.length:Int)) some else some 0) fun v35=>
   bnd (bif ((!((decide ((i29:Int) < (l.length:Int)))&&(!(decide (y29=y34)))))&&(decide ((l.length:Int)≤(i29:Int)))) then Rb 1 v35 else some default) fun r36=>
   bif (((decide ((i29:Int) < (l.length:Int)))&&(!(decide (y29=y34))))||((decide ((l.length:Int)≤(i29:Int)))&&(!(decide (y29=r36))))) then
   (some false)
   else
   (nx29 ()))
  (fun(s29:Unit)=>
   some true) ((out.1++out.2).take m7) 0 ())
theorem Gfa (out:Ln Gv) (l:List Gv) (r:Bool) (h:Yk out l=some r):Pure Tryz.prog 27 [LT 9 Gv.av out,E2 l] (·=BL r):=by
 unfold Yk at h
 refine H1 [.tmp 4] Tryz.func27 O O (G7 fun K1 hK1=>G2 (JLh (BL false) (G9 O O) O (G8 (hK1 _ _ (G7 (fun K2 hK2=>G7 fun K3 hK3=>G2 (JLh (LT 9 Gv.av out) (G5 O O) O (H3 (f:=Gv.av) (xs:=out.1) J5 O O (fun hm8=>?_) O O O))))))))
 refine JLh (E2 l) (G5 O O) O (H3 (f:=Gv.av) (xs:=l) J5 O O (fun hm10=>?_) O O O)
 refine JLh (BL (decide ((out.1.length:Int)≠(l.length:Int)))) (G5c O O O) O (G8 (hK3 _ _ (Gn O (fun hb=>?_) (fun hb=>?_))))
 ·
  replace h:=Gz hb h
  refine G7 fun K4 hK4=>G2 (JLh (BL false) (G9 O O) O (G8 (hK4 _ _ (Gu (⟨[BL false],[],G,O,⟨⟨_,O,.conv (.same O)⟩,G⟩,O,congrArg (fun r:Bool=>(BL r:AV)) (Option.some.inj h)⟩)))))
 ·
  replace h:=Hv hb h
  refine Gp (hK2 _ _ (G7 fun K5 hK5=>G2 (JLh (LT 9 Gv.av out) (G5 O O) O (JLh (E2 l) (G5 O O) O (H3 (f:=Gv.av) (xs:=l) J5 O O (fun hm14=>?_) O O O)))))
  obtain⟨v6,hv6,h⟩:=Qw h
  refine JLh (G0 v6) (Hy hv6 O O O) O ?_
  obtain⟨m7,hm7,h⟩:=Gf h
  refine JLh (E2 ((out.1++out.2).take m7)) (H20 (f:=Gv.av) (e:=out) O O O J5 (Rz hm7)) O (JLh (E2 ((out.1++out.2).take m7)) (G9 O O) O (G8 (hK5 _ _ (G7 (fun K8 hK8=>G7 fun K9 hK9=>G2 (JLh (G0 0) (G9 O O) O (G8 (hK9 _ _ (Gk ?_)))))))))
  obtain⟨b29,kx29,hb29,hkx29,h⟩:=Hw h
  refine Hc (fun i29 (s29:Unit)=>each b29 kx29 (List.drop i29 ((out.1++out.2).take m7)) i29 s29=some r) (fun i29 s29=>[(1,E2 l),(5,E2 ((out.1++out.2).take m7)),(6,En i29)]) (fun i29 s29=>[]) (fun i29=>((out.1++out.2).take m7).length - i29) 0 () h ⟨⟨.same O,.same O,.same O,G⟩,G,O⟩ ?_
  clear h
  intro i29 s29 hi29 K29 e29
  refine G7 (fun K30 hK30=>G7 fun K31 hK31=>G2 (JLh (En i29) (G5 O O) O (JLh (E2 ((out.1++out.2).take m7)) (G5 O O) O (H3 (f:=Gv.av) (xs:=((out.1++out.2).take m7)) J5 O O (fun hm19=>?_) O O O))))
  refine JLh (BL (decide ((i29:Int) < (((out.1++out.2).take m7).length:Int)))) (J2 O O O) O (G8 (hK31 _ _ (Gn O (fun hb=>?_) (fun hb=>?_))))
  ·
   have hk29:=Jc hb
   obtain⟨y29,nx29,hy29,hn29,h⟩:=Hn hi29 hk29
   replace h:=Yb hb29 h
   refine Gp (hK30 _ _ (G7 (fun K32 hK32=>Gk (G7 (fun K33 hK33=>?_)))))
   obtain⟨y34,hy34,h⟩:=Gf h
   obtain⟨v35,hv35,h⟩:=Gf h
   obtain⟨r36,hr36,h⟩:=Gf h
   refine Q6 [] [0,0,0,0,0,0,0,0,0,0,0,0,0,0,0,0,0,0,0,0,0,0,0,0,0,0,0,0,0,0,0,0,0,0,0] [0,0,0,0,0,0,0,0,0,0,0,0,0,0,0,0,0,0,0,0,0,0,0,0,0,0,0,0,0,0,0,0,0,0,0] [[]] Jk (by kernel_rfl) rfl rfl ?_
   refine Gc (u:=En i29) O O ⟨Gw (G5 O O) O,G⟩ (Gc (u:=E2 l) O O ⟨Gw (G5 O O) O,G⟩ (Gc (u:=En l.length) O O ⟨Gw (Qt (f:=Gv.av) (xs:=l) J5 O O) O,G⟩ (Gc (u:=BL (decide ((i29:Int) < (l.length:Int)))) O O ⟨Gw (J2 O O O) O,G⟩ (Gc (u:=BL (decide ((i29:Int) < (l.length:Int)))) O O ⟨Gw (G5 O O) O,G⟩ (Gc (u:=.opt (decide ((i29:Int) < (l.length:Int))) (E2 ((out.1++out.2).take m7))) O O ⟨Ge [] O O O .sct G (fun hc=>G5 O O) O,G⟩ (Gc (u:=.opt (decide ((i29:Int) < (l.length:Int))) (En i29)) O O ⟨Ge [] O O O .sct G (fun hc=>G5 O O) O,G⟩ (Gc (u:=.opt (decide ((i29:Int) < (l.length:Int))) (Ei y29)) O O ⟨Ge [(28,E2 ((out.1++out.2).take m7)),(29,En i29)] O O O .sct ⟨.all id,.all id,G⟩ (fun hc=>Gt (f:=Gv.av) (xs:=((out.1++out.2).take m7)) (y:=y29) O O O J5 hy29 O) O,G⟩ (Gc (u:=.opt (decide ((i29:Int) < (l.length:Int))) (.agg (Gv.cs y29))) O O ⟨Ge [(30,Ei y29)] O O O .sct ⟨.all id,G⟩ (fun hc=>Gj Z5 O O O) O,G⟩ (Gc (u:=.opt (decide ((i29:Int) < (l.length:Int))) (E2 l)) O O ⟨Ge [] O O O .sct G (fun hc=>G5 O O) O,G⟩ (Gc (u:=.opt (decide ((i29:Int) < (l.length:Int))) (En i29)) O O ⟨Ge [] O O O .sct G (fun hc=>G5 O O) O,G⟩ (Gc (u:=.opt (decide ((i29:Int) < (l.length:Int))) (Ei y34)) O O ⟨Ge [(32,E2 l),(33,En i29)] O O O .sct ⟨.all id,.all id,G⟩ (fun hc=>(match Jf (Gz hc hy34) with | ⟨_,hm_,hy_⟩=>Gt (f:=Gv.av) (xs:=l) (y:=y34) O O O J5 hy_ hm_)) O,G⟩ (Gc (u:=.opt (decide ((i29:Int) < (l.length:Int))) (.agg (Gv.cs y34))) O O ⟨Ge [(34,Ei y34)] O O O .sct ⟨.all id,G⟩ (fun hc=>Gj Z5 O O O) O,G⟩ (Gc (u:=.opt (decide ((i29:Int) < (l.length:Int))) (BL (decide (y29=y34)))) O O ⟨Ge [(31,.agg (Gv.cs y29)),(35,.agg (Gv.cs y34))] O O O .sct ⟨.all id,.all id,G⟩ (fun hc=>Ga0 (vs:=[.int .i64 y29.ID,.string y29.Number,.int .u8 y29.Size,.bool y29.High,.int .i64 y29.Kilos,.int .i64 y29.Load,.int .i64 y29.Discharge,.int .u8 y29.Class,.bool y29.Reefer]) (us:=[.int .i64 y34.ID,.string y34.Number,.int .u8 y34.Size,.bool y34.High,.int .i64 y34.Kilos,.int .i64 y34.Load,.int .i64 y34.Discharge,.int .u8 y34.Class,.bool y34.Reefer]) 4 O (tq_117 y29 y34) Hd5 J5d O O O) O,G⟩ ?_)))))))))))))
   refine Gc (u:=.opt (decide ((i29:Int) < (l.length:Int))) (BL (!(decide (y29=y34))))) O O ⟨Ge [(36,BL (decide (y29=y34)))] O O O .sct ⟨.all id,G⟩ (fun hc=>Qv (b:=decide (y29=y34)) O O) O,G⟩ (Gc (u:=BL ((decide ((i29:Int) < (l.length:Int)))&&(!(decide (y29=y34))))) O O ⟨Gw (Hx O O O O) O,G⟩ (Gc (u:=BL ((decide ((i29:Int) < (l.length:Int)))&&(!(decide (y29=y34))))) O O ⟨Gw (G5 O O) O,G⟩ (Gc (u:=.opt (!((decide ((i29:Int) < (l.length:Int)))&&(!(decide (y29=y34))))) (En i29)) O O ⟨Ge [] O O O .scf G (fun hc=>G5 O O) O,G⟩ (Gc (u:=.opt (!((decide ((i29:Int) < (l.length:Int)))&&(!(decide (y29=y34))))) (E2 l)) O O ⟨Ge [] O O O .scf G (fun hc=>G5 O O) O,G⟩ (Gc (u:=.opt (!((decide ((i29:Int) < (l.length:Int)))&&(!(decide (y29=y34))))) (En l.length)) O O ⟨Ge [(41,E2 l)] O O O .scf ⟨.all id,G⟩ (fun hc=>Qt (f:=Gv.av) (xs:=l) J5 O O) O,G⟩ (Gc (u:=.opt (!((decide ((i29:Int) < (l.length:Int)))&&(!(decide (y29=y34))))) (BL (decide ((l.length:Int)≤(i29:Int))))) O O ⟨Ge [(40,En i29),(42,En l.length)] O O O .scf ⟨.all id,.all id,G⟩ (fun hc=>G29 O O O) O,G⟩ (Gc (u:=.opt (!((decide ((i29:Int) < (l.length:Int)))&&(!(decide (y29=y34))))) (BL (decide ((l.length:Int)≤(i29:Int))))) O O ⟨Ge [(43,BL (decide ((l.length:Int)≤(i29:Int))))] O O O .scf ⟨.all id,G⟩ (fun hc=>G5 O O) O,G⟩ (Gc (u:=.opt ((!((decide ((i29:Int) < (l.length:Int)))&&(!(decide (y29=y34)))))&&(decide ((l.length:Int)≤(i29:Int)))) (E2 ((out.1++out.2).take m7))) O O ⟨Ge [] O O O .optt G (fun hc=>G5 O O) O,G⟩ (Gc (u:=.opt ((!((decide ((i29:Int) < (l.length:Int)))&&(!(decide (y29=y34)))))&&(decide ((l.length:Int)≤(i29:Int)))) (En i29)) O O ⟨Ge [] O O O .optt G (fun hc=>G5 O O) O,G⟩ (Gc (u:=.opt ((!((decide ((i29:Int) < (l.length:Int)))&&(!(decide (y29=y34)))))&&(decide ((l.length:Int)≤(i29:Int)))) (Ei y29)) O O ⟨Ge [(45,E2 ((out.1++out.2).take m7)),(46,En i29)] O O O .optt ⟨.all id,.all id,G⟩ (fun hc=>Gt (f:=Gv.av) (xs:=((out.1++out.2).take m7)) (y:=y29) O O O J5 hy29 O) O,G⟩ (Gc (u:=.opt ((!((decide ((i29:Int) < (l.length:Int)))&&(!(decide (y29=y34)))))&&(decide ((l.length:Int)≤(i29:Int)))) (.agg (Gv.cs y29))) O O ⟨Ge [(47,Ei y29)] O O O .optt ⟨.all id,G⟩ (fun hc=>Gj Z5 O O O) O,G⟩ (Gc (u:=.opt ((!((decide ((i29:Int) < (l.length:Int)))&&(!(decide (y29=y34)))))&&(decide ((l.length:Int)≤(i29:Int)))) (En i29)) O O ⟨Ge [] O O O .optt G (fun hc=>G5 O O) O,G⟩ (Gc (u:=.opt ((!((decide ((i29:Int) < (l.length:Int)))&&(!(decide (y29=y34)))))&&(decide ((l.length:Int)≤(i29:Int)))) (E2 l)) O O ⟨Ge [] O O O .optt G (fun hc=>G5 O O) O,G⟩ ?_)))))))))))))
   refine Gc (u:=.opt ((!((decide ((i29:Int) < (l.length:Int)))&&(!(decide (y29=y34)))))&&(decide ((l.length:Int)≤(i29:Int)))) (En l.length)) O O ⟨Ge [(50,E2 l)] O O O .optt ⟨.all id,G⟩ (fun hc=>Qt (f:=Gv.av) (xs:=l) J5 O O) O,G⟩ (Gc (u:=.opt ((!((decide ((i29:Int) < (l.length:Int)))&&(!(decide (y29=y34)))))&&(decide ((l.length:Int)≤(i29:Int)))) (G0 v35)) O O ⟨Ge [(49,En i29),(51,En l.length)] O O O .optt ⟨.all id,.all id,G⟩ (fun hc=>Gcb (G04 (Gz hc hv35)) O O O) O,G⟩ (Gc (u:=.opt ((!((decide ((i29:Int) < (l.length:Int)))&&(!(decide (y29=y34)))))&&(decide ((l.length:Int)≤(i29:Int)))) (.agg (Gv.cs r36))) O O ⟨Ge [(52,G0 v35)] O O O .optt ⟨.all id,G⟩ (fun hc=>Gq (args:=[G0 1,G0 v35]) O (G73 1 v35 r36 (Gz hc hr36)) J63 ⟨O,O,O,O,G⟩) O,G⟩ (Gc (u:=.opt ((!((decide ((i29:Int) < (l.length:Int)))&&(!(decide (y29=y34)))))&&(decide ((l.length:Int)≤(i29:Int)))) (BL (decide (y29=r36)))) O O ⟨Ge [(48,.agg (Gv.cs y29)),(53,.agg (Gv.cs r36))] O O O .optt ⟨.all id,.all id,G⟩ (fun hc=>Ga0 (vs:=[.int .i64 y29.ID,.string y29.Number,.int .u8 y29.Size,.bool y29.High,.int .i64 y29.Kilos,.int .i64 y29.Load,.int .i64 y29.Discharge,.int .u8 y29.Class,.bool y29.Reefer]) (us:=[.int .i64 r36.ID,.string r36.Number,.int .u8 r36.Size,.bool r36.High,.int .i64 r36.Kilos,.int .i64 r36.Load,.int .i64 r36.Discharge,.int .u8 r36.Class,.bool r36.Reefer]) 4 O (tq_117 y29 r36) Hd5 J5d O O O) O,G⟩ (Gc (u:=.opt ((!((decide ((i29:Int) < (l.length:Int)))&&(!(decide (y29=y34)))))&&(decide ((l.length:Int)≤(i29:Int)))) (BL (!(decide (y29=r36))))) O O ⟨Ge [(54,BL (decide (y29=r36)))] O O O .optt ⟨.all id,G⟩ (fun hc=>Qv (b:=decide (y29=r36)) O O) O,G⟩ (Gc (u:=.opt (!((decide ((i29:Int) < (l.length:Int)))&&(!(decide (y29=y34))))) (BL ((decide ((l.length:Int)≤(i29:Int)))&&(!(decide (y29=r36)))))) O O ⟨Ge [(44,BL (decide ((l.length:Int)≤(i29:Int)))),(55,_)] O O O .scf ⟨.all id,.part,G⟩ (fun hc=>Hx O O O O) O,G⟩ (Gc (u:=BL (((decide ((i29:Int) < (l.length:Int)))&&(!(decide (y29=y34))))||((decide ((l.length:Int)≤(i29:Int)))&&(!(decide (y29=r36)))))) O O ⟨Gw (Rn O O O O) O,G⟩ (Yz ?_)))))))
   refine hK33 _ _ (Gn O (fun hb=>?_) (fun hb=>?_))
   ·
    replace h:=Gz hb h
    refine G7 fun K37 hK37=>G2 (JLh (BL false) (G9 O O) O (G8 (hK37 _ _ (Gu (⟨[BL false],[],G,O,⟨⟨_,O,.conv (.same O)⟩,G⟩,O,congrArg (fun r:Bool=>(BL r:AV)) (Option.some.inj h)⟩)))))
   ·
    replace h:=Hv hb h
    refine Gp (hK32 _ _ (G2 (JLh (En i29) (G5 O O) O (JLh (G0 ((i29+1:Nat):Int)) (Hy (He hk29 hm19) O O O) O (JLh (G0 ((i29+1:Nat):Int)) (G9 O O) O (G8 (e29 _ _ (i29+1) () (app1 hn29 h) (by omega) ⟨⟨.same rfl,.same rfl,.same rfl,G⟩,G,rfl⟩)))))))
  ·
   have h:=app1 hkx29 (Ho hi29 (H9 hb))
   refine Hk (hK8 _ _ (G7 fun K38 hK38=>G2 (JLh (BL true) (G9 O O) O (G8 (hK38 _ _ (Gu (⟨[BL true],[],G,O,⟨⟨_,O,.conv (.same O)⟩,G⟩,O,congrArg (fun r:Bool=>(BL r:AV)) (Option.some.inj h)⟩)))))))

def Qm (k:Int) (i:Int):Option G6:=
 bnd (Ji k i) fun r3=>
 some (G6.mk r3 (Slot.mk 0 0 0))
theorem G51 (k:Int) (i:Int) (r:G6) (h:Qm k i=some r):Pure Tryz.prog 94 [G0 k,G0 i] (·=.agg (G6.cs r)):=by
 unfold Qm at h
 refine H1 [.cell 4 121] Tryz.func94 O O (G7 fun K1 hK1=>G2 (JLh (.ptr 1076 0) (Zc 1076 [G0 0,G0 0,G0 0,U8 0] [.int .i64 0,.int .i64 0,.int .i64 0,.int .u8 0] H10 ⟨.inl O,.inl O,.inl O,.inl O,G⟩ O O) O (G8 (hK1 _ _ (G7 fun K2 hK2=>G2 (JLh (G0 k) (G5 O O) O (JLh (G0 i) (G5 O O) O ?_)))))))
 obtain⟨r3,hr3,h⟩:=Gf h
 refine JLh (G0 r3) (Gq (args:=[G0 k,G0 i]) O (Qi k i r3 hr3) G22 ⟨O,O,O,O,G⟩) O (JLh (.agg [G0 r3,G0 0,G0 0,U8 0]) (Jv (cs:=[G0 r3,G0 0,G0 0,U8 0]) [(0,1),(1,3)] [G0 0,G0 0,G0 0,U8 0] [.int .i64 0,.int .i64 0,.int .i64 0,.int .u8 0] Hb0 H10 ⟨.inl O,.inl O,.inl O,.inl O,G⟩ O O) O (J4 (u:=.junk) (Ht (u:=.agg [G0 r3,G0 0,G0 0,U8 0]) (ds:=[G0 r3,G0 0,G0 0,U8 0]) G0c O O O O O O O O) (G8 (hK2 _ _ (Gu (⟨[.agg [G0 r3,G0 0,G0 0,U8 0]],[],G,O,⟨⟨_,⟨_,_,_,_,O,O,O,.inl ⟨Yo,O⟩⟩,.conv (.same O)⟩,G⟩,O,congrArg (fun r:G6=>(.agg (G6.cs r):AV)) (Option.some.inj h)⟩))))))

def R0 (l:List G6):Option (Ln G6):=
 G32 ((l.length:Int)+12) fun v3=>
 bnd (H1a v3) fun m4=>
 need (decide (32*m4≤281474976710656∧m4≤maxLen)) <|
 need (decide ((([]:List G6).length+l.length)*32≤140737488355328∧([]:List G6).length+l.length≤maxLen)) <|
 need (decide (12≤9223372036854775807)) <|
 upto (fun i19 (s19:(List G6)) nx19=>
  bnd (Qm 1 (i19:Int)) fun r23=>
  need (decide ((s19.length+[r23].length)*32≤140737488355328∧s19.length+[r23].length≤maxLen)) <|
  nx19 (s19++[r23]))
 (fun(s19:(List G6))=>
  bnd (G24 (l.length:Int) s19.length) fun m26=>
  some (s19.take m26,s19.drop m26)) (12:Int).toNat 0 (([]:List G6)++l)
theorem G43 (l:List G6) (r:(Ln G6)) (h:R0 l=some r):Pure Tryz.prog 30 [E0 l] (·=LT 4 G6.av r):=by
 unfold R0 at h
 refine H1 [.tmp 2] Tryz.func30 O O (G7 fun K1 hK1=>G2 (JLh (E0 ([]:List G6)) (R4 4 O O) O (G8 (hK1 _ _ (G7 fun K2 hK2=>G2 (JLh (E0 l) (G5 O O) O (H3 (f:=G6.av) (xs:=l) H2 O O (fun hm6=>?_) O O O)))))))
 obtain⟨v3,hv3,h⟩:=Qw h
 refine JLh (G0 v3) (Hy hv3 O O O) O ?_
 obtain⟨m4,hm4,h⟩:=Gf h
 obtain⟨ha5,h⟩:=J6 h
 refine JLh (OW 1026 4 G6.av ([]:List G6)) (G8a 1026 O O O O H2 H72 O (G82 hm4) ha5) O (JLh (OW 1026 4 G6.av ([]:List G6)) (G9 O O) O (G8 (hK2 _ _ (G7 fun K6 hK6=>G2 (JLh (OW 1026 4 G6.av ([]:List G6)) (G5 O O) O (JLh (E0 l) (G5 O O) O ?_))))))
 obtain⟨ha7,h⟩:=J6 h
 refine JLh (OW 1026 4 G6.av (([]:List G6)++l)) (H40 (f:=G6.av) (xs:=([]:List G6)) (ys:=l) O O O O H2 H72 ha7 (fun _=>O) (.inl O)) O (JLh (OW 1026 4 G6.av (([]:List G6)++l)) (G9 O O) O (G8 (hK6 _ _ (G7 (fun K8 hK8=>G7 fun K9 hK9=>G2 (JLh (G0 0) (G9 O O) O (G8 (hK9 _ _ (Gk ?_)))))))))
 obtain⟨hx19,h⟩:=J6 h
 obtain⟨b19,kx19,hb19,hkx19,h⟩:=G5d h
 refine Hc (fun i19 (s19:(List G6))=>upto b19 kx19 ((12:Int).toNat - i19) i19 s19=some r) (fun i19 s19=>[(0,E0 l),(3,OW 1026 4 G6.av s19),(4,En i19)]) (fun i19 s19=>[(1026,.spare 121 4 s19.length s19.length)]) (fun i19=>(12:Int).toNat - i19) 0 (([]:List G6)++l) h ⟨⟨.same O,.same O,.same O,G⟩,⟨⟨_,O,.same⟩,G⟩,O⟩ ?_
 clear h
 intro i19 s19 hi19 K19 e19
 refine G7 (fun K20 hK20=>G7 fun K21 hK21=>G2 (JLh (En i19) (G5 O O) O (JLh (BL (decide ((i19:Int) < 12))) (J2 O O O) O (G8 (hK21 _ _ (Gn O (fun hb=>?_) (fun hb=>?_)))))))
 ·
  have hk19:=G37 hb
  obtain⟨nx19,hn19,h⟩:=G34 hi19 hk19
  replace h:=Heb hb19 h
  refine Gp (hK20 _ _ (G7 (fun K22 hK22=>Gk (G2 (JLh (OW 1026 4 G6.av s19) (G5 O O) O (JLh (En i19) (G5 O O) O ?_))))))
  obtain⟨r23,hr23,h⟩:=Gf h
  refine JLh (.agg (G6.cs r23)) (Gq (args:=[G0 1,En i19]) O (G51 1 (i19:Int) r23 hr23) J5f ⟨O,O,O,O,G⟩) O (JLh (E0 [r23]) (Hm (xs:=[.agg (G6.cs r23)]) O ⟨O,O,G⟩ H2 R9 O O O O) O ?_)
  obtain⟨ha24,h⟩:=J6 h
  refine JLh (OW 1026 4 G6.av (s19++[r23])) (Yd (f:=G6.av) (xs:=s19) (ys:=[r23]) O O O O H2 H72 ha24 (fun _=>O) (.inl O) O) O (JLh (OW 1026 4 G6.av (s19++[r23])) (G9 O O) O (G8 (hK22 _ _ (G2 (JLh (En i19) (G5 O O) O (JLh (G0 ((i19+1:Nat):Int)) (Hy (He hk19 (G11 hx19)) O O O) O (JLh (G0 ((i19+1:Nat):Int)) (G9 O O) O (G8 (e19 _ _ (i19+1) (s19++[r23]) (app1 hn19 h) (by omega) ⟨⟨.same rfl,.same rfl,.same rfl,G⟩,⟨⟨_,rfl,.same⟩,G⟩,rfl⟩)))))))))
 ·
  have h:=app1 hkx19 (G35 hi19 (Ry hb))
  refine Hk (hK8 _ _ (G7 fun K25 hK25=>G2 (JLh (OW 1026 4 G6.av s19) (G5 O O) O (JLh (E0 l) (G5 O O) O (H3 (f:=G6.av) (xs:=l) H2 O O (fun hm23=>?_) O O O)))))
  obtain⟨m26,hm26,h⟩:=Gf h
  refine JLh (LT 4 G6.av (s19.take m26,s19.drop m26)) (J3f (f:=G6.av) (xs:=s19) O O O H2 (Rz hm26)) O (JLh (LT 4 G6.av (s19.take m26,s19.drop m26)) (G9 O O) O (G8 (hK25 _ _ (Gu (⟨[LT 4 G6.av (s19.take m26,s19.drop m26)],[],G,O,⟨⟨_,O,.conv (.same O)⟩,G⟩,O,congrArg (fun r:(Ln G6)=>(LT 4 G6.av r:AV)) (Option.some.inj h)⟩)))))

def R2 (out:Ln G6) (l:List G6):Option Bool:=
 bif decide ((out.1.length:Int)≠(l.length:Int)) then
 (some false)
 else
 (G32 ((l.length:Int)+12) fun v6=>
  bnd (G24 v6 (out.1++out.2).length) fun m7=>
  each (fun y29 i29 (s29:Unit) nx29=>
   bnd (bif decide ((i29:Int) < (l.length:Int)) then Q3 l (i29:Int) some else some default) fun y34=>
   bnd (bif ((!((decide ((i29:Int) < (l.length:Int)))&&(!(decide (y29=y34)))))&&(decide ((l.length:Int)≤(i29:Int)))) then G32 ((i29:Int) - (l.length:Int)) some else some 0) fun v35=>
   bnd (bif ((!((decide ((i29:Int) < (l.length:Int)))&&(!(decide (y29=y34)))))&&(decide ((l.length:Int)≤(i29:Int)))) then Qm 1 v35 else some default) fun r36=>
   bif (((decide ((i29:Int) < (l.length:Int)))&&(!(decide (y29=y34))))||((decide ((l.length:Int)≤(i29:Int)))&&(!(decide (y29=r36))))) then
   (some false)
   else
   (nx29 ()))
  (fun(s29:Unit)=>
   some true) ((out.1++out.2).take m7) 0 ())
theorem G44 (out:Ln G6) (l:List G6) (r:Bool) (h:R2 out l=some r):Pure Tryz.prog 33 [LT 4 G6.av out,E0 l] (·=BL r):=by
 unfold R2 at h
 refine H1 [.tmp 4] Tryz.func33 O O (G7 fun K1 hK1=>G2 (JLh (BL false) (G9 O O) O (G8 (hK1 _ _ (G7 (fun K2 hK2=>G7 fun K3 hK3=>G2 (JLh (LT 4 G6.av out) (G5 O O) O (H3 (f:=G6.av) (xs:=out.1) H2 O O (fun hm8=>?_) O O O))))))))
 refine JLh (E0 l) (G5 O O) O (H3 (f:=G6.av) (xs:=l) H2 O O (fun hm10=>?_) O O O)
 refine JLh (BL (decide ((out.1.length:Int)≠(l.length:Int)))) (G5c O O O) O (G8 (hK3 _ _ (Gn O (fun hb=>?_) (fun hb=>?_))))
 ·
  replace h:=Gz hb h
  refine G7 fun K4 hK4=>G2 (JLh (BL false) (G9 O O) O (G8 (hK4 _ _ (Gu (⟨[BL false],[],G,O,⟨⟨_,O,.conv (.same O)⟩,G⟩,O,congrArg (fun r:Bool=>(BL r:AV)) (Option.some.inj h)⟩)))))
 ·
  replace h:=Hv hb h
  refine Gp (hK2 _ _ (G7 fun K5 hK5=>G2 (JLh (LT 4 G6.av out) (G5 O O) O (JLh (E0 l) (G5 O O) O (H3 (f:=G6.av) (xs:=l) H2 O O (fun hm14=>?_) O O O)))))
  obtain⟨v6,hv6,h⟩:=Qw h
  refine JLh (G0 v6) (Hy hv6 O O O) O ?_
  obtain⟨m7,hm7,h⟩:=Gf h
  refine JLh (E0 ((out.1++out.2).take m7)) (H20 (f:=G6.av) (e:=out) O O O H2 (Rz hm7)) O (JLh (E0 ((out.1++out.2).take m7)) (G9 O O) O (G8 (hK5 _ _ (G7 (fun K8 hK8=>G7 fun K9 hK9=>G2 (JLh (G0 0) (G9 O O) O (G8 (hK9 _ _ (Gk ?_)))))))))
  obtain⟨b29,kx29,hb29,hkx29,h⟩:=Hw h
  refine Hc (fun i29 (s29:Unit)=>each b29 kx29 (List.drop i29 ((out.1++out.2).take m7)) i29 s29=some r) (fun i29 s29=>[(1,E0 l),(5,E0 ((out.1++out.2).take m7)),(6,En i29)]) (fun i29 s29=>[]) (fun i29=>((out.1++out.2).take m7).length - i29) 0 () h ⟨⟨.same O,.same O,.same O,G⟩,G,O⟩ ?_
  clear h
  intro i29 s29 hi29 K29 e29
  refine G7 (fun K30 hK30=>G7 fun K31 hK31=>G2 (JLh (En i29) (G5 O O) O (JLh (E0 ((out.1++out.2).take m7)) (G5 O O) O (H3 (f:=G6.av) (xs:=((out.1++out.2).take m7)) H2 O O (fun hm19=>?_) O O O))))
  refine JLh (BL (decide ((i29:Int) < (((out.1++out.2).take m7).length:Int)))) (J2 O O O) O (G8 (hK31 _ _ (Gn O (fun hb=>?_) (fun hb=>?_))))
  ·
   have hk29:=Jc hb
   obtain⟨y29,nx29,hy29,hn29,h⟩:=Hn hi29 hk29
   replace h:=Yb hb29 h
   refine Gp (hK30 _ _ (G7 (fun K32 hK32=>Gk (G7 (fun K33 hK33=>?_)))))
   obtain⟨y34,hy34,h⟩:=Gf h
   obtain⟨v35,hv35,h⟩:=Gf h
   obtain⟨r36,hr36,h⟩:=Gf h
   refine Q6 [] [0,0,0,0,0,0,0,0,0,0,0,0,0,0,0,0,0,0,0,0,0,0,0,0,0,0,0,0,0,0,0,0,0,0,0] [0,0,0,0,0,0,0,0,0,0,0,0,0,0,0,0,0,0,0,0,0,0,0,0,0,0,0,0,0,0,0,0,0,0,0] [[]] Jk (by kernel_rfl) rfl rfl ?_
   refine Gc (u:=En i29) O O ⟨Gw (G5 O O) O,G⟩ (Gc (u:=E0 l) O O ⟨Gw (G5 O O) O,G⟩ (Gc (u:=En l.length) O O ⟨Gw (Qt (f:=G6.av) (xs:=l) H2 O O) O,G⟩ (Gc (u:=BL (decide ((i29:Int) < (l.length:Int)))) O O ⟨Gw (J2 O O O) O,G⟩ (Gc (u:=BL (decide ((i29:Int) < (l.length:Int)))) O O ⟨Gw (G5 O O) O,G⟩ (Gc (u:=.opt (decide ((i29:Int) < (l.length:Int))) (E0 ((out.1++out.2).take m7))) O O ⟨Ge [] O O O .sct G (fun hc=>G5 O O) O,G⟩ (Gc (u:=.opt (decide ((i29:Int) < (l.length:Int))) (En i29)) O O ⟨Ge [] O O O .sct G (fun hc=>G5 O O) O,G⟩ (Gc (u:=.opt (decide ((i29:Int) < (l.length:Int))) (Ef y29)) O O ⟨Ge [(28,E0 ((out.1++out.2).take m7)),(29,En i29)] O O O .sct ⟨.all id,.all id,G⟩ (fun hc=>Gt (f:=G6.av) (xs:=((out.1++out.2).take m7)) (y:=y29) O O O H2 hy29 O) O,G⟩ (Gc (u:=.opt (decide ((i29:Int) < (l.length:Int))) (.agg (G6.cs y29))) O O ⟨Ge [(30,Ef y29)] O O O .sct ⟨.all id,G⟩ (fun hc=>Gj Yo O O O) O,G⟩ (Gc (u:=.opt (decide ((i29:Int) < (l.length:Int))) (E0 l)) O O ⟨Ge [] O O O .sct G (fun hc=>G5 O O) O,G⟩ (Gc (u:=.opt (decide ((i29:Int) < (l.length:Int))) (En i29)) O O ⟨Ge [] O O O .sct G (fun hc=>G5 O O) O,G⟩ (Gc (u:=.opt (decide ((i29:Int) < (l.length:Int))) (Ef y34)) O O ⟨Ge [(32,E0 l),(33,En i29)] O O O .sct ⟨.all id,.all id,G⟩ (fun hc=>(match Jf (Gz hc hy34) with | ⟨_,hm_,hy_⟩=>Gt (f:=G6.av) (xs:=l) (y:=y34) O O O H2 hy_ hm_)) O,G⟩ (Gc (u:=.opt (decide ((i29:Int) < (l.length:Int))) (.agg (G6.cs y34))) O O ⟨Ge [(34,Ef y34)] O O O .sct ⟨.all id,G⟩ (fun hc=>Gj Yo O O O) O,G⟩ (Gc (u:=.opt (decide ((i29:Int) < (l.length:Int))) (BL (decide (y29=y34)))) O O ⟨Ge [(31,.agg (G6.cs y29)),(35,.agg (G6.cs y34))] O O O .sct ⟨.all id,.all id,G⟩ (fun hc=>Ga0 (vs:=[.int .i64 y29.Gv,.int .i64 y29.Slot.G4,.int .i64 y29.Slot.Tier,.int .u8 y29.Slot.Half]) (us:=[.int .i64 y34.Gv,.int .i64 y34.Slot.G4,.int .i64 y34.Slot.Tier,.int .u8 y34.Slot.Half]) 4 O (tq_121 y29 y34) Hd4 J5c O O O) O,G⟩ ?_)))))))))))))
   refine Gc (u:=.opt (decide ((i29:Int) < (l.length:Int))) (BL (!(decide (y29=y34))))) O O ⟨Ge [(36,BL (decide (y29=y34)))] O O O .sct ⟨.all id,G⟩ (fun hc=>Qv (b:=decide (y29=y34)) O O) O,G⟩ (Gc (u:=BL ((decide ((i29:Int) < (l.length:Int)))&&(!(decide (y29=y34))))) O O ⟨Gw (Hx O O O O) O,G⟩ (Gc (u:=BL ((decide ((i29:Int) < (l.length:Int)))&&(!(decide (y29=y34))))) O O ⟨Gw (G5 O O) O,G⟩ (Gc (u:=.opt (!((decide ((i29:Int) < (l.length:Int)))&&(!(decide (y29=y34))))) (En i29)) O O ⟨Ge [] O O O .scf G (fun hc=>G5 O O) O,G⟩ (Gc (u:=.opt (!((decide ((i29:Int) < (l.length:Int)))&&(!(decide (y29=y34))))) (E0 l)) O O ⟨Ge [] O O O .scf G (fun hc=>G5 O O) O,G⟩ (Gc (u:=.opt (!((decide ((i29:Int) < (l.length:Int)))&&(!(decide (y29=y34))))) (En l.length)) O O ⟨Ge [(41,E0 l)] O O O .scf ⟨.all id,G⟩ (fun hc=>Qt (f:=G6.av) (xs:=l) H2 O O) O,G⟩ (Gc (u:=.opt (!((decide ((i29:Int) < (l.length:Int)))&&(!(decide (y29=y34))))) (BL (decide ((l.length:Int)≤(i29:Int))))) O O ⟨Ge [(40,En i29),(42,En l.length)] O O O .scf ⟨.all id,.all id,G⟩ (fun hc=>G29 O O O) O,G⟩ (Gc (u:=.opt (!((decide ((i29:Int) < (l.length:Int)))&&(!(decide (y29=y34))))) (BL (decide ((l.length:Int)≤(i29:Int))))) O O ⟨Ge [(43,BL (decide ((l.length:Int)≤(i29:Int))))] O O O .scf ⟨.all id,G⟩ (fun hc=>G5 O O) O,G⟩ (Gc (u:=.opt ((!((decide ((i29:Int) < (l.length:Int)))&&(!(decide (y29=y34)))))&&(decide ((l.length:Int)≤(i29:Int)))) (E0 ((out.1++out.2).take m7))) O O ⟨Ge [] O O O .optt G (fun hc=>G5 O O) O,G⟩ (Gc (u:=.opt ((!((decide ((i29:Int) < (l.length:Int)))&&(!(decide (y29=y34)))))&&(decide ((l.length:Int)≤(i29:Int)))) (En i29)) O O ⟨Ge [] O O O .optt G (fun hc=>G5 O O) O,G⟩ (Gc (u:=.opt ((!((decide ((i29:Int) < (l.length:Int)))&&(!(decide (y29=y34)))))&&(decide ((l.length:Int)≤(i29:Int)))) (Ef y29)) O O ⟨Ge [(45,E0 ((out.1++out.2).take m7)),(46,En i29)] O O O .optt ⟨.all id,.all id,G⟩ (fun hc=>Gt (f:=G6.av) (xs:=((out.1++out.2).take m7)) (y:=y29) O O O H2 hy29 O) O,G⟩ (Gc (u:=.opt ((!((decide ((i29:Int) < (l.length:Int)))&&(!(decide (y29=y34)))))&&(decide ((l.length:Int)≤(i29:Int)))) (.agg (G6.cs y29))) O O ⟨Ge [(47,Ef y29)] O O O .optt ⟨.all id,G⟩ (fun hc=>Gj Yo O O O) O,G⟩ (Gc (u:=.opt ((!((decide ((i29:Int) < (l.length:Int)))&&(!(decide (y29=y34)))))&&(decide ((l.length:Int)≤(i29:Int)))) (En i29)) O O ⟨Ge [] O O O .optt G (fun hc=>G5 O O) O,G⟩ (Gc (u:=.opt ((!((decide ((i29:Int) < (l.length:Int)))&&(!(decide (y29=y34)))))&&(decide ((l.length:Int)≤(i29:Int)))) (E0 l)) O O ⟨Ge [] O O O .optt G (fun hc=>G5 O O) O,G⟩ ?_)))))))))))))
   refine Gc (u:=.opt ((!((decide ((i29:Int) < (l.length:Int)))&&(!(decide (y29=y34)))))&&(decide ((l.length:Int)≤(i29:Int)))) (En l.length)) O O ⟨Ge [(50,E0 l)] O O O .optt ⟨.all id,G⟩ (fun hc=>Qt (f:=G6.av) (xs:=l) H2 O O) O,G⟩ (Gc (u:=.opt ((!((decide ((i29:Int) < (l.length:Int)))&&(!(decide (y29=y34)))))&&(decide ((l.length:Int)≤(i29:Int)))) (G0 v35)) O O ⟨Ge [(49,En i29),(51,En l.length)] O O O .optt ⟨.all id,.all id,G⟩ (fun hc=>Gcb (G04 (Gz hc hv35)) O O O) O,G⟩ (Gc (u:=.opt ((!((decide ((i29:Int) < (l.length:Int)))&&(!(decide (y29=y34)))))&&(decide ((l.length:Int)≤(i29:Int)))) (.agg (G6.cs r36))) O O ⟨Ge [(52,G0 v35)] O O O .optt ⟨.all id,G⟩ (fun hc=>Gq (args:=[G0 1,G0 v35]) O (G51 1 v35 r36 (Gz hc hr36)) J5f ⟨O,O,O,O,G⟩) O,G⟩ (Gc (u:=.opt ((!((decide ((i29:Int) < (l.length:Int)))&&(!(decide (y29=y34)))))&&(decide ((l.length:Int)≤(i29:Int)))) (BL (decide (y29=r36)))) O O ⟨Ge [(48,.agg (G6.cs y29)),(53,.agg (G6.cs r36))] O O O .optt ⟨.all id,.all id,G⟩ (fun hc=>Ga0 (vs:=[.int .i64 y29.Gv,.int .i64 y29.Slot.G4,.int .i64 y29.Slot.Tier,.int .u8 y29.Slot.Half]) (us:=[.int .i64 r36.Gv,.int .i64 r36.Slot.G4,.int .i64 r36.Slot.Tier,.int .u8 r36.Slot.Half]) 4 O (tq_121 y29 r36) Hd4 J5c O O O) O,G⟩ (Gc (u:=.opt ((!((decide ((i29:Int) < (l.length:Int)))&&(!(decide (y29=y34)))))&&(decide ((l.length:Int)≤(i29:Int)))) (BL (!(decide (y29=r36))))) O O ⟨Ge [(54,BL (decide (y29=r36)))] O O O .optt ⟨.all id,G⟩ (fun hc=>Qv (b:=decide (y29=r36)) O O) O,G⟩ (Gc (u:=.opt (!((decide ((i29:Int) < (l.length:Int)))&&(!(decide (y29=y34))))) (BL ((decide ((l.length:Int)≤(i29:Int)))&&(!(decide (y29=r36)))))) O O ⟨Ge [(44,BL (decide ((l.length:Int)≤(i29:Int)))),(55,_)] O O O .scf ⟨.all id,.part,G⟩ (fun hc=>Hx O O O O) O,G⟩ (Gc (u:=BL (((decide ((i29:Int) < (l.length:Int)))&&(!(decide (y29=y34))))||((decide ((l.length:Int)≤(i29:Int)))&&(!(decide (y29=r36)))))) O O ⟨Gw (Rn O O O O) O,G⟩ (Yz ?_)))))))
   refine hK33 _ _ (Gn O (fun hb=>?_) (fun hb=>?_))
   ·
    replace h:=Gz hb h
    refine G7 fun K37 hK37=>G2 (JLh (BL false) (G9 O O) O (G8 (hK37 _ _ (Gu (⟨[BL false],[],G,O,⟨⟨_,O,.conv (.same O)⟩,G⟩,O,congrArg (fun r:Bool=>(BL r:AV)) (Option.some.inj h)⟩)))))
   ·
    replace h:=Hv hb h
    refine Gp (hK32 _ _ (G2 (JLh (En i29) (G5 O O) O (JLh (G0 ((i29+1:Nat):Int)) (Hy (He hk29 hm19) O O O) O (JLh (G0 ((i29+1:Nat):Int)) (G9 O O) O (G8 (e29 _ _ (i29+1) () (app1 hn29 h) (by omega) ⟨⟨.same rfl,.same rfl,.same rfl,G⟩,G,rfl⟩)))))))
  ·
   have h:=app1 hkx29 (Ho hi29 (H9 hb))
   refine Hk (hK8 _ _ (G7 fun K38 hK38=>G2 (JLh (BL true) (G9 O O) O (G8 (hK38 _ _ (Gu (⟨[BL true],[],G,O,⟨⟨_,O,.conv (.same O)⟩,G⟩,O,congrArg (fun r:Bool=>(BL r:AV)) (Option.some.inj h)⟩)))))))
end
end Go.Proofs.YtfkilljboodoaaaGreat
