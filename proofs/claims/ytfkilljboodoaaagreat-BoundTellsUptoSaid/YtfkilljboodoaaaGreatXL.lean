/-
 Models of functions of the program,and that they return what the models say.
-/
import Derived.Test.YtfkilljboodoaaaGreatXLa
set_option maxRecDepth 100000
set_option linter.unusedVariables false
set_option linter.unusedSimpArgs false
namespace Go.Proofs.YtfkilljboodoaaaGreat
open Go.RowKit
noncomputable section
open XAF
open XLF

def Rf (out:Ln H5) (l:List Gm):Option Bool:=
 bif decide ((out.1.length:Int)≠(l.length:Int)) then
 (some false)
 else
 (Rm ((l.length:Int)+12) fun v6=>
  bnd (G10 v6 (out.1++out.2).length) fun m7=>
  each (fun y33 i33 (s33:Unit) nx33=>
   bnd (bif decide ((i33:Int) < (l.length:Int)) then Qe l (i33:Int) some else some default) fun y38=>
   bnd (bif decide ((i33:Int) < (l.length:Int)) then Rr y33 y38 else some default) fun r39=>
   bnd (bif ((!((decide ((i33:Int) < (l.length:Int)))&&(!r39)))&&(decide ((l.length:Int)≤(i33:Int)))) then Rm ((i33:Int) - (l.length:Int)) some else some 0) fun v40=>
   bnd (bif ((!((decide ((i33:Int) < (l.length:Int)))&&(!r39)))&&(decide ((l.length:Int)≤(i33:Int)))) then Qv 1 v40 else some default) fun r41=>
   bnd (bif ((!((decide ((i33:Int) < (l.length:Int)))&&(!r39)))&&(decide ((l.length:Int)≤(i33:Int)))) then Jk (Gm.mk y33.Bay y33.Rows.1) r41 else some default) fun r42=>
   bif (((decide ((i33:Int) < (l.length:Int)))&&(!r39))||((decide ((l.length:Int)≤(i33:Int)))&&(!r42))) then
   (some false)
   else
   (nx33 ()))
  (fun(s33:Unit)=>
   some true) ((out.1++out.2).take m7) 0 ())
theorem Gf0 (out:Ln H5) (l:List Gm) (r:Bool) (h:Rf out l=some r):Pure Tryz.prog 85 [LT 2 H5.av out,E4 l] (·=BL r):=by
 unfold Rf at h
 refine H1 [.tmp 4] Tryz.func85 G G (G5 fun K1 hK1=>G3 (JLh (BL false) (G8 G G) G (G9 (hK1 _ _ (G5 (fun K2 hK2=>G5 fun K3 hK3=>G3 (JLh (LT 2 H5.av out) (G4 G G) G (H0 (f:=H5.av) (xs:=out.1) J2 G G (fun hm8=>?_) G G G))))))))
 refine JLh (E4 l) (G4 G G) G (H0 (f:=Gm.av) (xs:=l) J2 G G (fun hm10=>?_) G G G)
 refine JLh (BL (decide ((out.1.length:Int)≠(l.length:Int)))) (G14 G G G) G (G9 (hK3 _ _ (Gp G (fun hb=>?_) (fun hb=>?_))))
 ·
  replace h:=Gy hb h
  refine G5 fun K4 hK4=>G3 (JLh (BL false) (G8 G G) G (G9 (hK4 _ _ (Gx (⟨[BL false],[],ø,G,⟨⟨_,G,.conv (.same G)⟩,ø⟩,G,congrArg (fun r:Bool=>(BL r:AV)) (Option.some.inj h)⟩)))))
 ·
  replace h:=Hp hb h
  refine Gq (hK2 _ _ (G5 fun K5 hK5=>G3 (JLh (LT 2 H5.av out) (G4 G G) G (JLh (E4 l) (G4 G G) G (H0 (f:=Gm.av) (xs:=l) J2 G G (fun hm14=>?_) G G G)))))
  obtain⟨v6,hv6,h⟩:=Hf h
  refine JLh (G1 v6) (Hj hv6 G G G) G ?_
  obtain⟨m7,hm7,h⟩:=Gf h
  refine JLh (Eb ((out.1++out.2).take m7)) (Gf3 (f:=H5.av) (e:=out) G G G J2 (Qn hm7)) G (JLh (Eb ((out.1++out.2).take m7)) (G8 G G) G (G9 (hK5 _ _ (G5 (fun K8 hK8=>G5 fun K9 hK9=>G3 (JLh (G1 0) (G8 G G) G (G9 (hK9 _ _ (Gn ?_)))))))))
  obtain⟨b33,kx33,hb33,hkx33,h⟩:=J9 h
  refine H7 (fun i33 (s33:Unit)=>each b33 kx33 (List.drop i33 ((out.1++out.2).take m7)) i33 s33=some r) (fun i33 s33=>[(1,E4 l),(5,Eb ((out.1++out.2).take m7)),(6,En i33)]) (fun i33 s33=>[]) (fun i33=>((out.1++out.2).take m7).length - i33) 0 () h ⟨⟨.same G,.same G,.same G,ø⟩,ø,G⟩ ?_
  clear h
  intro i33 s33 hi33 K33 e33
  refine G5 (fun K34 hK34=>G5 fun K35 hK35=>G3 (JLh (En i33) (G4 G G) G (JLh (Eb ((out.1++out.2).take m7)) (G4 G G) G (H0 (f:=H5.av) (xs:=((out.1++out.2).take m7)) J2 G G (fun hm19=>?_) G G G))))
  refine JLh (BL (decide ((i33:Int) < (((out.1++out.2).take m7).length:Int)))) (Hx G G G) G (G9 (hK35 _ _ (Gp G (fun hb=>?_) (fun hb=>?_))))
  ·
   have hk33:=Jm hb
   obtain⟨y33,nx33,hy33,hn33,h⟩:=Hy hi33 hk33
   replace h:=Zn hb33 h
   refine Gq (hK34 _ _ (G5 (fun K36 hK36=>Gn (G5 (fun K37 hK37=>?_)))))
   obtain⟨y38,hy38,h⟩:=Gf h
   obtain⟨r39,hr39,h⟩:=Gf h
   obtain⟨v40,hv40,h⟩:=Gf h
   obtain⟨r41,hr41,h⟩:=Gf h
   obtain⟨r42,hr42,h⟩:=Gf h
   refine Jc [] [0,0,0,0,0,0,0,0,0,0,0,0,0,0,0,0,0,0,0,0,0,0,0,0,0,0,0,0,0,0,0,0,0,0,0] [0,0,0,0,0,0,0,0,0,0,0,0,0,0,0,0,0,0,0,0,0,0,0,0,0,0,0,0,0,0,0,0,0,0,0] [[]] J3 (by kernel_rfl) rfl rfl ?_
   refine Gb (u:=En i33) G G ⟨Gh (G4 G G) G,ø⟩ (Gb (u:=E4 l) G G ⟨Gh (G4 G G) G,ø⟩ (Gb (u:=En l.length) G G ⟨Gh (Jp (f:=Gm.av) (xs:=l) J2 G G) G,ø⟩ (Gb (u:=BL (decide ((i33:Int) < (l.length:Int)))) G G ⟨Gh (Hx G G G) G,ø⟩ (Gb (u:=BL (decide ((i33:Int) < (l.length:Int)))) G G ⟨Gh (G4 G G) G,ø⟩ (Gb (u:=.opt (decide ((i33:Int) < (l.length:Int))) (Eb ((out.1++out.2).take m7))) G G ⟨Gg [] G G G .sct ø (fun hc=>G4 G G) G,ø⟩ (Gb (u:=.opt (decide ((i33:Int) < (l.length:Int))) (En i33)) G G ⟨Gg [] G G G .sct ø (fun hc=>G4 G G) G,ø⟩ (Gb (u:=.opt (decide ((i33:Int) < (l.length:Int))) (.dptr [G1 y33.Bay,LT 1 G1 y33.Rows])) G G ⟨Gg [(28,Eb ((out.1++out.2).take m7)),(29,En i33)] G G G .sct ⟨.all id,.all id,ø⟩ (fun hc=>Gv (f:=H5.av) (xs:=((out.1++out.2).take m7)) (y:=y33) G G G J2 hy33 G) G,ø⟩ (Gb (u:=.opt (decide ((i33:Int) < (l.length:Int))) (.agg [G1 y33.Bay,LT 1 G1 y33.Rows])) G G ⟨Gg [(30,.dptr [G1 y33.Bay,LT 1 G1 y33.Rows])] G G G .sct ⟨.all id,ø⟩ (fun hc=>Gi Yv G G G) G,ø⟩ (Gb (u:=.opt (decide ((i33:Int) < (l.length:Int))) (E4 l)) G G ⟨Gg [] G G G .sct ø (fun hc=>G4 G G) G,ø⟩ (Gb (u:=.opt (decide ((i33:Int) < (l.length:Int))) (En i33)) G G ⟨Gg [] G G G .sct ø (fun hc=>G4 G G) G,ø⟩ (Gb (u:=.opt (decide ((i33:Int) < (l.length:Int))) (.dptr [G1 y38.Bay,E0 y38.Rows])) G G ⟨Gg [(32,E4 l),(33,En i33)] G G G .sct ⟨.all id,.all id,ø⟩ (fun hc=>(match Q2 (Gy hc hy38) with | ⟨_,hm_,hy_⟩=>Gv (f:=Gm.av) (xs:=l) (y:=y38) G G G J2 hy_ hm_)) G,ø⟩ (Gb (u:=.opt (decide ((i33:Int) < (l.length:Int))) (.agg [G1 y38.Bay,E0 y38.Rows])) G G ⟨Gg [(34,.dptr [G1 y38.Bay,E0 y38.Rows])] G G G .sct ⟨.all id,ø⟩ (fun hc=>Gi Yv G G G) G,ø⟩ (Gb (u:=.opt (decide ((i33:Int) < (l.length:Int))) (BL r39)) G G ⟨Gg [(31,.agg [G1 y33.Bay,LT 1 G1 y33.Rows]),(35,.agg [G1 y38.Bay,E0 y38.Rows])] G G G .sct ⟨.all id,.all id,ø⟩ (fun hc=>Gs (args:=[.agg [G1 y33.Bay,LT 1 G1 y33.Rows],.agg [G1 y38.Bay,E0 y38.Rows]]) G (H16 y33 y38 r39 (Gy hc hr39)) Jd2 ⟨G,G,G,G,ø⟩) G,ø⟩ ?_)))))))))))))
   refine Gb (u:=.opt (decide ((i33:Int) < (l.length:Int))) (BL (!r39))) G G ⟨Gg [(36,BL r39)] G G G .sct ⟨.all id,ø⟩ (fun hc=>Yu (b:=r39) G G) G,ø⟩ (Gb (u:=BL ((decide ((i33:Int) < (l.length:Int)))&&(!r39))) G G ⟨Gh (J7 G G G G) G,ø⟩ (Gb (u:=BL ((decide ((i33:Int) < (l.length:Int)))&&(!r39))) G G ⟨Gh (G4 G G) G,ø⟩ (Gb (u:=.opt (!((decide ((i33:Int) < (l.length:Int)))&&(!r39))) (En i33)) G G ⟨Gg [] G G G .scf ø (fun hc=>G4 G G) G,ø⟩ (Gb (u:=.opt (!((decide ((i33:Int) < (l.length:Int)))&&(!r39))) (E4 l)) G G ⟨Gg [] G G G .scf ø (fun hc=>G4 G G) G,ø⟩ (Gb (u:=.opt (!((decide ((i33:Int) < (l.length:Int)))&&(!r39))) (En l.length)) G G ⟨Gg [(41,E4 l)] G G G .scf ⟨.all id,ø⟩ (fun hc=>Jp (f:=Gm.av) (xs:=l) J2 G G) G,ø⟩ (Gb (u:=.opt (!((decide ((i33:Int) < (l.length:Int)))&&(!r39))) (BL (decide ((l.length:Int)≤(i33:Int))))) G G ⟨Gg [(40,En i33),(42,En l.length)] G G G .scf ⟨.all id,.all id,ø⟩ (fun hc=>G28 G G G) G,ø⟩ (Gb (u:=.opt (!((decide ((i33:Int) < (l.length:Int)))&&(!r39))) (BL (decide ((l.length:Int)≤(i33:Int))))) G G ⟨Gg [(43,BL (decide ((l.length:Int)≤(i33:Int))))] G G G .scf ⟨.all id,ø⟩ (fun hc=>G4 G G) G,ø⟩ (Gb (u:=.opt ((!((decide ((i33:Int) < (l.length:Int)))&&(!r39)))&&(decide ((l.length:Int)≤(i33:Int)))) (Eb ((out.1++out.2).take m7))) G G ⟨Gg [] G G G .optt ø (fun hc=>G4 G G) G,ø⟩ (Gb (u:=.opt ((!((decide ((i33:Int) < (l.length:Int)))&&(!r39)))&&(decide ((l.length:Int)≤(i33:Int)))) (En i33)) G G ⟨Gg [] G G G .optt ø (fun hc=>G4 G G) G,ø⟩ (Gb (u:=.opt ((!((decide ((i33:Int) < (l.length:Int)))&&(!r39)))&&(decide ((l.length:Int)≤(i33:Int)))) (.dptr [G1 y33.Bay,LT 1 G1 y33.Rows])) G G ⟨Gg [(45,Eb ((out.1++out.2).take m7)),(46,En i33)] G G G .optt ⟨.all id,.all id,ø⟩ (fun hc=>Gv (f:=H5.av) (xs:=((out.1++out.2).take m7)) (y:=y33) G G G J2 hy33 G) G,ø⟩ (Gb (u:=.opt ((!((decide ((i33:Int) < (l.length:Int)))&&(!r39)))&&(decide ((l.length:Int)≤(i33:Int)))) (.agg [G1 y33.Bay,E0 y33.Rows.1])) G G ⟨Gg [(47,.dptr [G1 y33.Bay,LT 1 G1 y33.Rows])] G G G .optt ⟨.all id,ø⟩ (fun hc=>H2.cv (Cv.aggL (cs:=[G1 y33.Bay,LT 1 G1 y33.Rows]) ⟨.same,Cv.lst0 y33.Rows,ø⟩) (Gi Yv G G G)) G,ø⟩ (Gb (u:=.opt ((!((decide ((i33:Int) < (l.length:Int)))&&(!r39)))&&(decide ((l.length:Int)≤(i33:Int)))) (En i33)) G G ⟨Gg [] G G G .optt ø (fun hc=>G4 G G) G,ø⟩ (Gb (u:=.opt ((!((decide ((i33:Int) < (l.length:Int)))&&(!r39)))&&(decide ((l.length:Int)≤(i33:Int)))) (E4 l)) G G ⟨Gg [] G G G .optt ø (fun hc=>G4 G G) G,ø⟩ ?_)))))))))))))
   refine Gb (u:=.opt ((!((decide ((i33:Int) < (l.length:Int)))&&(!r39)))&&(decide ((l.length:Int)≤(i33:Int)))) (En l.length)) G G ⟨Gg [(50,E4 l)] G G G .optt ⟨.all id,ø⟩ (fun hc=>Jp (f:=Gm.av) (xs:=l) J2 G G) G,ø⟩ (Gb (u:=.opt ((!((decide ((i33:Int) < (l.length:Int)))&&(!r39)))&&(decide ((l.length:Int)≤(i33:Int)))) (G1 v40)) G G ⟨Gg [(49,En i33),(51,En l.length)] G G G .optt ⟨.all id,.all id,ø⟩ (fun hc=>G1e (G02 (Gy hc hv40)) G G G) G,ø⟩ (Gb (u:=.opt ((!((decide ((i33:Int) < (l.length:Int)))&&(!r39)))&&(decide ((l.length:Int)≤(i33:Int)))) (.agg [G1 r41.Bay,E0 r41.Rows])) G G ⟨Gg [(52,G1 v40)] G G G .optt ⟨.all id,ø⟩ (fun hc=>Gs (args:=[G1 1,G1 v40]) G (G65 1 v40 r41 (Gy hc hr41)) J2a ⟨G,G,G,G,ø⟩) G,ø⟩ (Gb (u:=.opt ((!((decide ((i33:Int) < (l.length:Int)))&&(!r39)))&&(decide ((l.length:Int)≤(i33:Int)))) (BL r42)) G G ⟨Gg [(48,.agg [G1 y33.Bay,E0 y33.Rows.1]),(53,.agg [G1 r41.Bay,E0 r41.Rows])] G G G .optt ⟨.all id,.all id,ø⟩ (fun hc=>Gs (args:=[.agg [G1 y33.Bay,E0 y33.Rows.1],.agg [G1 r41.Bay,E0 r41.Rows]]) G (G24 (Gm.mk y33.Bay y33.Rows.1) r41 r42 (Gy hc hr42)) H96 ⟨G,G,G,G,ø⟩) G,ø⟩ (Gb (u:=.opt ((!((decide ((i33:Int) < (l.length:Int)))&&(!r39)))&&(decide ((l.length:Int)≤(i33:Int)))) (BL (!r42))) G G ⟨Gg [(54,BL r42)] G G G .optt ⟨.all id,ø⟩ (fun hc=>Yu (b:=r42) G G) G,ø⟩ (Gb (u:=.opt (!((decide ((i33:Int) < (l.length:Int)))&&(!r39))) (BL ((decide ((l.length:Int)≤(i33:Int)))&&(!r42)))) G G ⟨Gg [(44,BL (decide ((l.length:Int)≤(i33:Int)))),(55,_)] G G G .scf ⟨.all id,.part,ø⟩ (fun hc=>J7 G G G G) G,ø⟩ (Gb (u:=BL (((decide ((i33:Int) < (l.length:Int)))&&(!r39))||((decide ((l.length:Int)≤(i33:Int)))&&(!r42)))) G G ⟨Gh (Z5 G G G G) G,ø⟩ (Rb ?_)))))))
   refine hK37 _ _ (Gp G (fun hb=>?_) (fun hb=>?_))
   ·
    replace h:=Gy hb h
    refine G5 fun K43 hK43=>G3 (JLh (BL false) (G8 G G) G (G9 (hK43 _ _ (Gx (⟨[BL false],[],ø,G,⟨⟨_,G,.conv (.same G)⟩,ø⟩,G,congrArg (fun r:Bool=>(BL r:AV)) (Option.some.inj h)⟩)))))
   ·
    replace h:=Hp hb h
    refine Gq (hK36 _ _ (G3 (JLh (En i33) (G4 G G) G (JLh (G1 ((i33+1:Nat):Int)) (Hj (Hi hk33 hm19) G G G) G (JLh (G1 ((i33+1:Nat):Int)) (G8 G G) G (G9 (e33 _ _ (i33+1) () (app1 hn33 h) (by omega) ⟨⟨.same rfl,.same rfl,.same rfl,ø⟩,ø,rfl⟩)))))))
  ·
   have h:=app1 hkx33 (Hz hi33 (Hg hb))
   refine Hc (hK8 _ _ (G5 fun K44 hK44=>G3 (JLh (BL true) (G8 G G) G (G9 (hK44 _ _ (Gx (⟨[BL true],[],ø,G,⟨⟨_,G,.conv (.same G)⟩,ø⟩,G,congrArg (fun r:Bool=>(BL r:AV)) (Option.some.inj h)⟩)))))))

def Y4 (out:Ln Row) (l:List Row):Option Bool:=
 bif decide ((out.1.length:Int)≠(l.length:Int)) then
 (some false)
 else
 (Rm ((l.length:Int)+12) fun v6=>
  bnd (G10 v6 (out.1++out.2).length) fun m7=>
  each (fun y29 i29 (s29:Unit) nx29=>
   bnd (bif decide ((i29:Int) < (l.length:Int)) then Qe l (i29:Int) some else some default) fun y34=>
   bnd (bif ((!((decide ((i29:Int) < (l.length:Int)))&&(!(decide (y29=y34)))))&&(decide ((l.length:Int)≤(i29:Int)))) then Rm ((i29:Int) - (l.length:Int)) some else some 0) fun v35=>
   bnd (bif ((!((decide ((i29:Int) < (l.length:Int)))&&(!(decide (y29=y34)))))&&(decide ((l.length:Int)≤(i29:Int)))) then Rj 1 v35 else some default) fun r36=>
   bif (((decide ((i29:Int) < (l.length:Int)))&&(!(decide (y29=y34))))||((decide ((l.length:Int)≤(i29:Int)))&&(!(decide (y29=r36))))) then
   (some false)
   else
   (nx29 ()))
  (fun(s29:Unit)=>
   some true) ((out.1++out.2).take m7) 0 ())
theorem H29 (out:Ln Row) (l:List Row) (r:Bool) (h:Y4 out l=some r):Pure Tryz.prog 86 [LT 5 Row.av out,E7 l] (·=BL r):=by
 unfold Y4 at h
 refine H1 [.tmp 4] Tryz.func86 G G (G5 fun K1 hK1=>G3 (JLh (BL false) (G8 G G) G (G9 (hK1 _ _ (G5 (fun K2 hK2=>G5 fun K3 hK3=>G3 (JLh (LT 5 Row.av out) (G4 G G) G (H0 (f:=Row.av) (xs:=out.1) Jy G G (fun hm8=>?_) G G G))))))))
 refine JLh (E7 l) (G4 G G) G (H0 (f:=Row.av) (xs:=l) Jy G G (fun hm10=>?_) G G G)
 refine JLh (BL (decide ((out.1.length:Int)≠(l.length:Int)))) (G14 G G G) G (G9 (hK3 _ _ (Gp G (fun hb=>?_) (fun hb=>?_))))
 ·
  replace h:=Gy hb h
  refine G5 fun K4 hK4=>G3 (JLh (BL false) (G8 G G) G (G9 (hK4 _ _ (Gx (⟨[BL false],[],ø,G,⟨⟨_,G,.conv (.same G)⟩,ø⟩,G,congrArg (fun r:Bool=>(BL r:AV)) (Option.some.inj h)⟩)))))
 ·
  replace h:=Hp hb h
  refine Gq (hK2 _ _ (G5 fun K5 hK5=>G3 (JLh (LT 5 Row.av out) (G4 G G) G (JLh (E7 l) (G4 G G) G (H0 (f:=Row.av) (xs:=l) Jy G G (fun hm14=>?_) G G G)))))
  obtain⟨v6,hv6,h⟩:=Hf h
  refine JLh (G1 v6) (Hj hv6 G G G) G ?_
  obtain⟨m7,hm7,h⟩:=Gf h
  refine JLh (E7 ((out.1++out.2).take m7)) (Gf3 (f:=Row.av) (e:=out) G G G Jy (Qn hm7)) G (JLh (E7 ((out.1++out.2).take m7)) (G8 G G) G (G9 (hK5 _ _ (G5 (fun K8 hK8=>G5 fun K9 hK9=>G3 (JLh (G1 0) (G8 G G) G (G9 (hK9 _ _ (Gn ?_)))))))))
  obtain⟨b29,kx29,hb29,hkx29,h⟩:=J9 h
  refine H7 (fun i29 (s29:Unit)=>each b29 kx29 (List.drop i29 ((out.1++out.2).take m7)) i29 s29=some r) (fun i29 s29=>[(1,E7 l),(5,E7 ((out.1++out.2).take m7)),(6,En i29)]) (fun i29 s29=>[]) (fun i29=>((out.1++out.2).take m7).length - i29) 0 () h ⟨⟨.same G,.same G,.same G,ø⟩,ø,G⟩ ?_
  clear h
  intro i29 s29 hi29 K29 e29
  refine G5 (fun K30 hK30=>G5 fun K31 hK31=>G3 (JLh (En i29) (G4 G G) G (JLh (E7 ((out.1++out.2).take m7)) (G4 G G) G (H0 (f:=Row.av) (xs:=((out.1++out.2).take m7)) Jy G G (fun hm19=>?_) G G G))))
  refine JLh (BL (decide ((i29:Int) < (((out.1++out.2).take m7).length:Int)))) (Hx G G G) G (G9 (hK31 _ _ (Gp G (fun hb=>?_) (fun hb=>?_))))
  ·
   have hk29:=Jm hb
   obtain⟨y29,nx29,hy29,hn29,h⟩:=Hy hi29 hk29
   replace h:=Zn hb29 h
   refine Gq (hK30 _ _ (G5 (fun K32 hK32=>Gn (G5 (fun K33 hK33=>?_)))))
   obtain⟨y34,hy34,h⟩:=Gf h
   obtain⟨v35,hv35,h⟩:=Gf h
   obtain⟨r36,hr36,h⟩:=Gf h
   refine Jc [] [0,0,0,0,0,0,0,0,0,0,0,0,0,0,0,0,0,0,0,0,0,0,0,0,0,0,0,0,0,0,0,0,0,0,0] [0,0,0,0,0,0,0,0,0,0,0,0,0,0,0,0,0,0,0,0,0,0,0,0,0,0,0,0,0,0,0,0,0,0,0] [[]] J3 (by kernel_rfl) rfl rfl ?_
   refine Gb (u:=En i29) G G ⟨Gh (G4 G G) G,ø⟩ (Gb (u:=E7 l) G G ⟨Gh (G4 G G) G,ø⟩ (Gb (u:=En l.length) G G ⟨Gh (Jp (f:=Row.av) (xs:=l) Jy G G) G,ø⟩ (Gb (u:=BL (decide ((i29:Int) < (l.length:Int)))) G G ⟨Gh (Hx G G G) G,ø⟩ (Gb (u:=BL (decide ((i29:Int) < (l.length:Int)))) G G ⟨Gh (G4 G G) G,ø⟩ (Gb (u:=.opt (decide ((i29:Int) < (l.length:Int))) (E7 ((out.1++out.2).take m7))) G G ⟨Gg [] G G G .sct ø (fun hc=>G4 G G) G,ø⟩ (Gb (u:=.opt (decide ((i29:Int) < (l.length:Int))) (En i29)) G G ⟨Gg [] G G G .sct ø (fun hc=>G4 G G) G,ø⟩ (Gb (u:=.opt (decide ((i29:Int) < (l.length:Int))) (Ej y29)) G G ⟨Gg [(28,E7 ((out.1++out.2).take m7)),(29,En i29)] G G G .sct ⟨.all id,.all id,ø⟩ (fun hc=>Gv (f:=Row.av) (xs:=((out.1++out.2).take m7)) (y:=y29) G G G Jy hy29 G) G,ø⟩ (Gb (u:=.opt (decide ((i29:Int) < (l.length:Int))) (.agg (Row.cs y29))) G G ⟨Gg [(30,Ej y29)] G G G .sct ⟨.all id,ø⟩ (fun hc=>Gi Gbe G G G) G,ø⟩ (Gb (u:=.opt (decide ((i29:Int) < (l.length:Int))) (E7 l)) G G ⟨Gg [] G G G .sct ø (fun hc=>G4 G G) G,ø⟩ (Gb (u:=.opt (decide ((i29:Int) < (l.length:Int))) (En i29)) G G ⟨Gg [] G G G .sct ø (fun hc=>G4 G G) G,ø⟩ (Gb (u:=.opt (decide ((i29:Int) < (l.length:Int))) (Ej y34)) G G ⟨Gg [(32,E7 l),(33,En i29)] G G G .sct ⟨.all id,.all id,ø⟩ (fun hc=>(match Q2 (Gy hc hy34) with | ⟨_,hm_,hy_⟩=>Gv (f:=Row.av) (xs:=l) (y:=y34) G G G Jy hy_ hm_)) G,ø⟩ (Gb (u:=.opt (decide ((i29:Int) < (l.length:Int))) (.agg (Row.cs y34))) G G ⟨Gg [(34,Ej y34)] G G G .sct ⟨.all id,ø⟩ (fun hc=>Gi Gbe G G G) G,ø⟩ (Gb (u:=.opt (decide ((i29:Int) < (l.length:Int))) (BL (decide (y29=y34)))) G G ⟨Gg [(31,.agg (Row.cs y29)),(35,.agg (Row.cs y34))] G G G .sct ⟨.all id,.all id,ø⟩ (fun hc=>G73 (vs:=[.int .i64 y29.Draught,.int .i64 y29.Kilos,.int .i64 y29.Buoy,.int .i64 y29.Metacentre,.int .i64 y29.Ha9]) (us:=[.int .i64 y34.Draught,.int .i64 y34.Kilos,.int .i64 y34.Buoy,.int .i64 y34.Metacentre,.int .i64 y34.Ha9]) 4 G (tq_228 y29 y34) H63 Hc7 G G G) G,ø⟩ ?_)))))))))))))
   refine Gb (u:=.opt (decide ((i29:Int) < (l.length:Int))) (BL (!(decide (y29=y34))))) G G ⟨Gg [(36,BL (decide (y29=y34)))] G G G .sct ⟨.all id,ø⟩ (fun hc=>Yu (b:=decide (y29=y34)) G G) G,ø⟩ (Gb (u:=BL ((decide ((i29:Int) < (l.length:Int)))&&(!(decide (y29=y34))))) G G ⟨Gh (J7 G G G G) G,ø⟩ (Gb (u:=BL ((decide ((i29:Int) < (l.length:Int)))&&(!(decide (y29=y34))))) G G ⟨Gh (G4 G G) G,ø⟩ (Gb (u:=.opt (!((decide ((i29:Int) < (l.length:Int)))&&(!(decide (y29=y34))))) (En i29)) G G ⟨Gg [] G G G .scf ø (fun hc=>G4 G G) G,ø⟩ (Gb (u:=.opt (!((decide ((i29:Int) < (l.length:Int)))&&(!(decide (y29=y34))))) (E7 l)) G G ⟨Gg [] G G G .scf ø (fun hc=>G4 G G) G,ø⟩ (Gb (u:=.opt (!((decide ((i29:Int) < (l.length:Int)))&&(!(decide (y29=y34))))) (En l.length)) G G ⟨Gg [(41,E7 l)] G G G .scf ⟨.all id,ø⟩ (fun hc=>Jp (f:=Row.av) (xs:=l) Jy G G) G,ø⟩ (Gb (u:=.opt (!((decide ((i29:Int) < (l.length:Int)))&&(!(decide (y29=y34))))) (BL (decide ((l.length:Int)≤(i29:Int))))) G G ⟨Gg [(40,En i29),(42,En l.length)] G G G .scf ⟨.all id,.all id,ø⟩ (fun hc=>G28 G G G) G,ø⟩ (Gb (u:=.opt (!((decide ((i29:Int) < (l.length:Int)))&&(!(decide (y29=y34))))) (BL (decide ((l.length:Int)≤(i29:Int))))) G G ⟨Gg [(43,BL (decide ((l.length:Int)≤(i29:Int))))] G G G .scf ⟨.all id,ø⟩ (fun hc=>G4 G G) G,ø⟩ (Gb (u:=.opt ((!((decide ((i29:Int) < (l.length:Int)))&&(!(decide (y29=y34)))))&&(decide ((l.length:Int)≤(i29:Int)))) (E7 ((out.1++out.2).take m7))) G G ⟨Gg [] G G G .optt ø (fun hc=>G4 G G) G,ø⟩ (Gb (u:=.opt ((!((decide ((i29:Int) < (l.length:Int)))&&(!(decide (y29=y34)))))&&(decide ((l.length:Int)≤(i29:Int)))) (En i29)) G G ⟨Gg [] G G G .optt ø (fun hc=>G4 G G) G,ø⟩ (Gb (u:=.opt ((!((decide ((i29:Int) < (l.length:Int)))&&(!(decide (y29=y34)))))&&(decide ((l.length:Int)≤(i29:Int)))) (Ej y29)) G G ⟨Gg [(45,E7 ((out.1++out.2).take m7)),(46,En i29)] G G G .optt ⟨.all id,.all id,ø⟩ (fun hc=>Gv (f:=Row.av) (xs:=((out.1++out.2).take m7)) (y:=y29) G G G Jy hy29 G) G,ø⟩ (Gb (u:=.opt ((!((decide ((i29:Int) < (l.length:Int)))&&(!(decide (y29=y34)))))&&(decide ((l.length:Int)≤(i29:Int)))) (.agg (Row.cs y29))) G G ⟨Gg [(47,Ej y29)] G G G .optt ⟨.all id,ø⟩ (fun hc=>Gi Gbe G G G) G,ø⟩ (Gb (u:=.opt ((!((decide ((i29:Int) < (l.length:Int)))&&(!(decide (y29=y34)))))&&(decide ((l.length:Int)≤(i29:Int)))) (En i29)) G G ⟨Gg [] G G G .optt ø (fun hc=>G4 G G) G,ø⟩ (Gb (u:=.opt ((!((decide ((i29:Int) < (l.length:Int)))&&(!(decide (y29=y34)))))&&(decide ((l.length:Int)≤(i29:Int)))) (E7 l)) G G ⟨Gg [] G G G .optt ø (fun hc=>G4 G G) G,ø⟩ ?_)))))))))))))
   refine Gb (u:=.opt ((!((decide ((i29:Int) < (l.length:Int)))&&(!(decide (y29=y34)))))&&(decide ((l.length:Int)≤(i29:Int)))) (En l.length)) G G ⟨Gg [(50,E7 l)] G G G .optt ⟨.all id,ø⟩ (fun hc=>Jp (f:=Row.av) (xs:=l) Jy G G) G,ø⟩ (Gb (u:=.opt ((!((decide ((i29:Int) < (l.length:Int)))&&(!(decide (y29=y34)))))&&(decide ((l.length:Int)≤(i29:Int)))) (G1 v35)) G G ⟨Gg [(49,En i29),(51,En l.length)] G G G .optt ⟨.all id,.all id,ø⟩ (fun hc=>G1e (G02 (Gy hc hv35)) G G G) G,ø⟩ (Gb (u:=.opt ((!((decide ((i29:Int) < (l.length:Int)))&&(!(decide (y29=y34)))))&&(decide ((l.length:Int)≤(i29:Int)))) (.agg (Row.cs r36))) G G ⟨Gg [(52,G1 v35)] G G G .optt ⟨.all id,ø⟩ (fun hc=>Gs (args:=[G1 1,G1 v35]) G (G83 1 v35 r36 (Gy hc hr36)) J29 ⟨G,G,G,G,ø⟩) G,ø⟩ (Gb (u:=.opt ((!((decide ((i29:Int) < (l.length:Int)))&&(!(decide (y29=y34)))))&&(decide ((l.length:Int)≤(i29:Int)))) (BL (decide (y29=r36)))) G G ⟨Gg [(48,.agg (Row.cs y29)),(53,.agg (Row.cs r36))] G G G .optt ⟨.all id,.all id,ø⟩ (fun hc=>G73 (vs:=[.int .i64 y29.Draught,.int .i64 y29.Kilos,.int .i64 y29.Buoy,.int .i64 y29.Metacentre,.int .i64 y29.Ha9]) (us:=[.int .i64 r36.Draught,.int .i64 r36.Kilos,.int .i64 r36.Buoy,.int .i64 r36.Metacentre,.int .i64 r36.Ha9]) 4 G (tq_228 y29 r36) H63 Hc7 G G G) G,ø⟩ (Gb (u:=.opt ((!((decide ((i29:Int) < (l.length:Int)))&&(!(decide (y29=y34)))))&&(decide ((l.length:Int)≤(i29:Int)))) (BL (!(decide (y29=r36))))) G G ⟨Gg [(54,BL (decide (y29=r36)))] G G G .optt ⟨.all id,ø⟩ (fun hc=>Yu (b:=decide (y29=r36)) G G) G,ø⟩ (Gb (u:=.opt (!((decide ((i29:Int) < (l.length:Int)))&&(!(decide (y29=y34))))) (BL ((decide ((l.length:Int)≤(i29:Int)))&&(!(decide (y29=r36)))))) G G ⟨Gg [(44,BL (decide ((l.length:Int)≤(i29:Int)))),(55,_)] G G G .scf ⟨.all id,.part,ø⟩ (fun hc=>J7 G G G G) G,ø⟩ (Gb (u:=BL (((decide ((i29:Int) < (l.length:Int)))&&(!(decide (y29=y34))))||((decide ((l.length:Int)≤(i29:Int)))&&(!(decide (y29=r36)))))) G G ⟨Gh (Z5 G G G G) G,ø⟩ (Rb ?_)))))))
   refine hK33 _ _ (Gp G (fun hb=>?_) (fun hb=>?_))
   ·
    replace h:=Gy hb h
    refine G5 fun K37 hK37=>G3 (JLh (BL false) (G8 G G) G (G9 (hK37 _ _ (Gx (⟨[BL false],[],ø,G,⟨⟨_,G,.conv (.same G)⟩,ø⟩,G,congrArg (fun r:Bool=>(BL r:AV)) (Option.some.inj h)⟩)))))
   ·
    replace h:=Hp hb h
    refine Gq (hK32 _ _ (G3 (JLh (En i29) (G4 G G) G (JLh (G1 ((i29+1:Nat):Int)) (Hj (Hi hk29 hm19) G G G) G (JLh (G1 ((i29+1:Nat):Int)) (G8 G G) G (G9 (e29 _ _ (i29+1) () (app1 hn29 h) (by omega) ⟨⟨.same rfl,.same rfl,.same rfl,ø⟩,ø,rfl⟩)))))))
  ·
   have h:=app1 hkx29 (Hz hi29 (Hg hb))
   refine Hc (hK8 _ _ (G5 fun K38 hK38=>G3 (JLh (BL true) (G8 G G) G (G9 (hK38 _ _ (Gx (⟨[BL true],[],ø,G,⟨⟨_,G,.conv (.same G)⟩,ø⟩,G,congrArg (fun r:Bool=>(BL r:AV)) (Option.some.inj h)⟩)))))))

def Re (out:Ln Frame) (l:List Frame):Option Bool:=
 bif decide ((out.1.length:Int)≠(l.length:Int)) then
 (some false)
 else
 (Rm ((l.length:Int)+12) fun v6=>
  bnd (G10 v6 (out.1++out.2).length) fun m7=>
  each (fun y29 i29 (s29:Unit) nx29=>
   bnd (bif decide ((i29:Int) < (l.length:Int)) then Qe l (i29:Int) some else some default) fun y34=>
   bnd (bif ((!((decide ((i29:Int) < (l.length:Int)))&&(!(decide (y29=y34)))))&&(decide ((l.length:Int)≤(i29:Int)))) then Rm ((i29:Int) - (l.length:Int)) some else some 0) fun v35=>
   bnd (bif ((!((decide ((i29:Int) < (l.length:Int)))&&(!(decide (y29=y34)))))&&(decide ((l.length:Int)≤(i29:Int)))) then Qu 1 v35 else some default) fun r36=>
   bif (((decide ((i29:Int) < (l.length:Int)))&&(!(decide (y29=y34))))||((decide ((l.length:Int)≤(i29:Int)))&&(!(decide (y29=r36))))) then
   (some false)
   else
   (nx29 ()))
  (fun(s29:Unit)=>
   some true) ((out.1++out.2).take m7) 0 ())
theorem Gef (out:Ln Frame) (l:List Frame) (r:Bool) (h:Re out l=some r):Pure Tryz.prog 87 [LT 5 Frame.av out,E6 l] (·=BL r):=by
 unfold Re at h
 refine H1 [.tmp 4] Tryz.func87 G G (G5 fun K1 hK1=>G3 (JLh (BL false) (G8 G G) G (G9 (hK1 _ _ (G5 (fun K2 hK2=>G5 fun K3 hK3=>G3 (JLh (LT 5 Frame.av out) (G4 G G) G (H0 (f:=Frame.av) (xs:=out.1) Jx G G (fun hm8=>?_) G G G))))))))
 refine JLh (E6 l) (G4 G G) G (H0 (f:=Frame.av) (xs:=l) Jx G G (fun hm10=>?_) G G G)
 refine JLh (BL (decide ((out.1.length:Int)≠(l.length:Int)))) (G14 G G G) G (G9 (hK3 _ _ (Gp G (fun hb=>?_) (fun hb=>?_))))
 ·
  replace h:=Gy hb h
  refine G5 fun K4 hK4=>G3 (JLh (BL false) (G8 G G) G (G9 (hK4 _ _ (Gx (⟨[BL false],[],ø,G,⟨⟨_,G,.conv (.same G)⟩,ø⟩,G,congrArg (fun r:Bool=>(BL r:AV)) (Option.some.inj h)⟩)))))
 ·
  replace h:=Hp hb h
  refine Gq (hK2 _ _ (G5 fun K5 hK5=>G3 (JLh (LT 5 Frame.av out) (G4 G G) G (JLh (E6 l) (G4 G G) G (H0 (f:=Frame.av) (xs:=l) Jx G G (fun hm14=>?_) G G G)))))
  obtain⟨v6,hv6,h⟩:=Hf h
  refine JLh (G1 v6) (Hj hv6 G G G) G ?_
  obtain⟨m7,hm7,h⟩:=Gf h
  refine JLh (E6 ((out.1++out.2).take m7)) (Gf3 (f:=Frame.av) (e:=out) G G G Jx (Qn hm7)) G (JLh (E6 ((out.1++out.2).take m7)) (G8 G G) G (G9 (hK5 _ _ (G5 (fun K8 hK8=>G5 fun K9 hK9=>G3 (JLh (G1 0) (G8 G G) G (G9 (hK9 _ _ (Gn ?_)))))))))
  obtain⟨b29,kx29,hb29,hkx29,h⟩:=J9 h
  refine H7 (fun i29 (s29:Unit)=>each b29 kx29 (List.drop i29 ((out.1++out.2).take m7)) i29 s29=some r) (fun i29 s29=>[(1,E6 l),(5,E6 ((out.1++out.2).take m7)),(6,En i29)]) (fun i29 s29=>[]) (fun i29=>((out.1++out.2).take m7).length - i29) 0 () h ⟨⟨.same G,.same G,.same G,ø⟩,ø,G⟩ ?_
  clear h
  intro i29 s29 hi29 K29 e29
  refine G5 (fun K30 hK30=>G5 fun K31 hK31=>G3 (JLh (En i29) (G4 G G) G (JLh (E6 ((out.1++out.2).take m7)) (G4 G G) G (H0 (f:=Frame.av) (xs:=((out.1++out.2).take m7)) Jx G G (fun hm19=>?_) G G G))))
  refine JLh (BL (decide ((i29:Int) < (((out.1++out.2).take m7).length:Int)))) (Hx G G G) G (G9 (hK31 _ _ (Gp G (fun hb=>?_) (fun hb=>?_))))
  ·
   have hk29:=Jm hb
   obtain⟨y29,nx29,hy29,hn29,h⟩:=Hy hi29 hk29
   replace h:=Zn hb29 h
   refine Gq (hK30 _ _ (G5 (fun K32 hK32=>Gn (G5 (fun K33 hK33=>?_)))))
   obtain⟨y34,hy34,h⟩:=Gf h
   obtain⟨v35,hv35,h⟩:=Gf h
   obtain⟨r36,hr36,h⟩:=Gf h
   refine Jc [] [0,0,0,0,0,0,0,0,0,0,0,0,0,0,0,0,0,0,0,0,0,0,0,0,0,0,0,0,0,0,0,0,0,0,0] [0,0,0,0,0,0,0,0,0,0,0,0,0,0,0,0,0,0,0,0,0,0,0,0,0,0,0,0,0,0,0,0,0,0,0] [[]] J3 (by kernel_rfl) rfl rfl ?_
   refine Gb (u:=En i29) G G ⟨Gh (G4 G G) G,ø⟩ (Gb (u:=E6 l) G G ⟨Gh (G4 G G) G,ø⟩ (Gb (u:=En l.length) G G ⟨Gh (Jp (f:=Frame.av) (xs:=l) Jx G G) G,ø⟩ (Gb (u:=BL (decide ((i29:Int) < (l.length:Int)))) G G ⟨Gh (Hx G G G) G,ø⟩ (Gb (u:=BL (decide ((i29:Int) < (l.length:Int)))) G G ⟨Gh (G4 G G) G,ø⟩ (Gb (u:=.opt (decide ((i29:Int) < (l.length:Int))) (E6 ((out.1++out.2).take m7))) G G ⟨Gg [] G G G .sct ø (fun hc=>G4 G G) G,ø⟩ (Gb (u:=.opt (decide ((i29:Int) < (l.length:Int))) (En i29)) G G ⟨Gg [] G G G .sct ø (fun hc=>G4 G G) G,ø⟩ (Gb (u:=.opt (decide ((i29:Int) < (l.length:Int))) (Ek y29)) G G ⟨Gg [(28,E6 ((out.1++out.2).take m7)),(29,En i29)] G G G .sct ⟨.all id,.all id,ø⟩ (fun hc=>Gv (f:=Frame.av) (xs:=((out.1++out.2).take m7)) (y:=y29) G G G Jx hy29 G) G,ø⟩ (Gb (u:=.opt (decide ((i29:Int) < (l.length:Int))) (.agg (Frame.cs y29))) G G ⟨Gg [(30,Ek y29)] G G G .sct ⟨.all id,ø⟩ (fun hc=>Gi Gbd G G G) G,ø⟩ (Gb (u:=.opt (decide ((i29:Int) < (l.length:Int))) (E6 l)) G G ⟨Gg [] G G G .sct ø (fun hc=>G4 G G) G,ø⟩ (Gb (u:=.opt (decide ((i29:Int) < (l.length:Int))) (En i29)) G G ⟨Gg [] G G G .sct ø (fun hc=>G4 G G) G,ø⟩ (Gb (u:=.opt (decide ((i29:Int) < (l.length:Int))) (Ek y34)) G G ⟨Gg [(32,E6 l),(33,En i29)] G G G .sct ⟨.all id,.all id,ø⟩ (fun hc=>(match Q2 (Gy hc hy34) with | ⟨_,hm_,hy_⟩=>Gv (f:=Frame.av) (xs:=l) (y:=y34) G G G Jx hy_ hm_)) G,ø⟩ (Gb (u:=.opt (decide ((i29:Int) < (l.length:Int))) (.agg (Frame.cs y34))) G G ⟨Gg [(34,Ek y34)] G G G .sct ⟨.all id,ø⟩ (fun hc=>Gi Gbd G G G) G,ø⟩ (Gb (u:=.opt (decide ((i29:Int) < (l.length:Int))) (BL (decide (y29=y34)))) G G ⟨Gg [(31,.agg (Frame.cs y29)),(35,.agg (Frame.cs y34))] G G G .sct ⟨.all id,.all id,ø⟩ (fun hc=>G73 (vs:=[.int .i64 y29.X,.int .i64 y29.Light,.int .i64 y29.Share,.int .i64 y29.Shear,.int .i64 y29.Bend]) (us:=[.int .i64 y34.X,.int .i64 y34.Light,.int .i64 y34.Share,.int .i64 y34.Shear,.int .i64 y34.Bend]) 4 G (tq_231 y29 y34) H62 Hc6 G G G) G,ø⟩ ?_)))))))))))))
   refine Gb (u:=.opt (decide ((i29:Int) < (l.length:Int))) (BL (!(decide (y29=y34))))) G G ⟨Gg [(36,BL (decide (y29=y34)))] G G G .sct ⟨.all id,ø⟩ (fun hc=>Yu (b:=decide (y29=y34)) G G) G,ø⟩ (Gb (u:=BL ((decide ((i29:Int) < (l.length:Int)))&&(!(decide (y29=y34))))) G G ⟨Gh (J7 G G G G) G,ø⟩ (Gb (u:=BL ((decide ((i29:Int) < (l.length:Int)))&&(!(decide (y29=y34))))) G G ⟨Gh (G4 G G) G,ø⟩ (Gb (u:=.opt (!((decide ((i29:Int) < (l.length:Int)))&&(!(decide (y29=y34))))) (En i29)) G G ⟨Gg [] G G G .scf ø (fun hc=>G4 G G) G,ø⟩ (Gb (u:=.opt (!((decide ((i29:Int) < (l.length:Int)))&&(!(decide (y29=y34))))) (E6 l)) G G ⟨Gg [] G G G .scf ø (fun hc=>G4 G G) G,ø⟩ (Gb (u:=.opt (!((decide ((i29:Int) < (l.length:Int)))&&(!(decide (y29=y34))))) (En l.length)) G G ⟨Gg [(41,E6 l)] G G G .scf ⟨.all id,ø⟩ (fun hc=>Jp (f:=Frame.av) (xs:=l) Jx G G) G,ø⟩ (Gb (u:=.opt (!((decide ((i29:Int) < (l.length:Int)))&&(!(decide (y29=y34))))) (BL (decide ((l.length:Int)≤(i29:Int))))) G G ⟨Gg [(40,En i29),(42,En l.length)] G G G .scf ⟨.all id,.all id,ø⟩ (fun hc=>G28 G G G) G,ø⟩ (Gb (u:=.opt (!((decide ((i29:Int) < (l.length:Int)))&&(!(decide (y29=y34))))) (BL (decide ((l.length:Int)≤(i29:Int))))) G G ⟨Gg [(43,BL (decide ((l.length:Int)≤(i29:Int))))] G G G .scf ⟨.all id,ø⟩ (fun hc=>G4 G G) G,ø⟩ (Gb (u:=.opt ((!((decide ((i29:Int) < (l.length:Int)))&&(!(decide (y29=y34)))))&&(decide ((l.length:Int)≤(i29:Int)))) (E6 ((out.1++out.2).take m7))) G G ⟨Gg [] G G G .optt ø (fun hc=>G4 G G) G,ø⟩ (Gb (u:=.opt ((!((decide ((i29:Int) < (l.length:Int)))&&(!(decide (y29=y34)))))&&(decide ((l.length:Int)≤(i29:Int)))) (En i29)) G G ⟨Gg [] G G G .optt ø (fun hc=>G4 G G) G,ø⟩ (Gb (u:=.opt ((!((decide ((i29:Int) < (l.length:Int)))&&(!(decide (y29=y34)))))&&(decide ((l.length:Int)≤(i29:Int)))) (Ek y29)) G G ⟨Gg [(45,E6 ((out.1++out.2).take m7)),(46,En i29)] G G G .optt ⟨.all id,.all id,ø⟩ (fun hc=>Gv (f:=Frame.av) (xs:=((out.1++out.2).take m7)) (y:=y29) G G G Jx hy29 G) G,ø⟩ (Gb (u:=.opt ((!((decide ((i29:Int) < (l.length:Int)))&&(!(decide (y29=y34)))))&&(decide ((l.length:Int)≤(i29:Int)))) (.agg (Frame.cs y29))) G G ⟨Gg [(47,Ek y29)] G G G .optt ⟨.all id,ø⟩ (fun hc=>Gi Gbd G G G) G,ø⟩ (Gb (u:=.opt ((!((decide ((i29:Int) < (l.length:Int)))&&(!(decide (y29=y34)))))&&(decide ((l.length:Int)≤(i29:Int)))) (En i29)) G G ⟨Gg [] G G G .optt ø (fun hc=>G4 G G) G,ø⟩ (Gb (u:=.opt ((!((decide ((i29:Int) < (l.length:Int)))&&(!(decide (y29=y34)))))&&(decide ((l.length:Int)≤(i29:Int)))) (E6 l)) G G ⟨Gg [] G G G .optt ø (fun hc=>G4 G G) G,ø⟩ ?_)))))))))))))
   refine Gb (u:=.opt ((!((decide ((i29:Int) < (l.length:Int)))&&(!(decide (y29=y34)))))&&(decide ((l.length:Int)≤(i29:Int)))) (En l.length)) G G ⟨Gg [(50,E6 l)] G G G .optt ⟨.all id,ø⟩ (fun hc=>Jp (f:=Frame.av) (xs:=l) Jx G G) G,ø⟩ (Gb (u:=.opt ((!((decide ((i29:Int) < (l.length:Int)))&&(!(decide (y29=y34)))))&&(decide ((l.length:Int)≤(i29:Int)))) (G1 v35)) G G ⟨Gg [(49,En i29),(51,En l.length)] G G G .optt ⟨.all id,.all id,ø⟩ (fun hc=>G1e (G02 (Gy hc hv35)) G G G) G,ø⟩ (Gb (u:=.opt ((!((decide ((i29:Int) < (l.length:Int)))&&(!(decide (y29=y34)))))&&(decide ((l.length:Int)≤(i29:Int)))) (.agg (Frame.cs r36))) G G ⟨Gg [(52,G1 v35)] G G G .optt ⟨.all id,ø⟩ (fun hc=>Gs (args:=[G1 1,G1 v35]) G (G64 1 v35 r36 (Gy hc hr36)) J28 ⟨G,G,G,G,ø⟩) G,ø⟩ (Gb (u:=.opt ((!((decide ((i29:Int) < (l.length:Int)))&&(!(decide (y29=y34)))))&&(decide ((l.length:Int)≤(i29:Int)))) (BL (decide (y29=r36)))) G G ⟨Gg [(48,.agg (Frame.cs y29)),(53,.agg (Frame.cs r36))] G G G .optt ⟨.all id,.all id,ø⟩ (fun hc=>G73 (vs:=[.int .i64 y29.X,.int .i64 y29.Light,.int .i64 y29.Share,.int .i64 y29.Shear,.int .i64 y29.Bend]) (us:=[.int .i64 r36.X,.int .i64 r36.Light,.int .i64 r36.Share,.int .i64 r36.Shear,.int .i64 r36.Bend]) 4 G (tq_231 y29 r36) H62 Hc6 G G G) G,ø⟩ (Gb (u:=.opt ((!((decide ((i29:Int) < (l.length:Int)))&&(!(decide (y29=y34)))))&&(decide ((l.length:Int)≤(i29:Int)))) (BL (!(decide (y29=r36))))) G G ⟨Gg [(54,BL (decide (y29=r36)))] G G G .optt ⟨.all id,ø⟩ (fun hc=>Yu (b:=decide (y29=r36)) G G) G,ø⟩ (Gb (u:=.opt (!((decide ((i29:Int) < (l.length:Int)))&&(!(decide (y29=y34))))) (BL ((decide ((l.length:Int)≤(i29:Int)))&&(!(decide (y29=r36)))))) G G ⟨Gg [(44,BL (decide ((l.length:Int)≤(i29:Int)))),(55,_)] G G G .scf ⟨.all id,.part,ø⟩ (fun hc=>J7 G G G G) G,ø⟩ (Gb (u:=BL (((decide ((i29:Int) < (l.length:Int)))&&(!(decide (y29=y34))))||((decide ((l.length:Int)≤(i29:Int)))&&(!(decide (y29=r36)))))) G G ⟨Gh (Z5 G G G G) G,ø⟩ (Rb ?_)))))))
   refine hK33 _ _ (Gp G (fun hb=>?_) (fun hb=>?_))
   ·
    replace h:=Gy hb h
    refine G5 fun K37 hK37=>G3 (JLh (BL false) (G8 G G) G (G9 (hK37 _ _ (Gx (⟨[BL false],[],ø,G,⟨⟨_,G,.conv (.same G)⟩,ø⟩,G,congrArg (fun r:Bool=>(BL r:AV)) (Option.some.inj h)⟩)))))
   ·
    replace h:=Hp hb h
    refine Gq (hK32 _ _ (G3 (JLh (En i29) (G4 G G) G (JLh (G1 ((i29+1:Nat):Int)) (Hj (Hi hk29 hm19) G G G) G (JLh (G1 ((i29+1:Nat):Int)) (G8 G G) G (G9 (e29 _ _ (i29+1) () (app1 hn29 h) (by omega) ⟨⟨.same rfl,.same rfl,.same rfl,ø⟩,ø,rfl⟩)))))))
  ·
   have h:=app1 hkx29 (Hz hi29 (Hg hb))
   refine Hc (hK8 _ _ (G5 fun K38 hK38=>G3 (JLh (BL true) (G8 G G) G (G9 (hK38 _ _ (Gx (⟨[BL true],[],ø,G,⟨⟨_,G,.conv (.same G)⟩,ø⟩,G,congrArg (fun r:Bool=>(BL r:AV)) (Option.some.inj h)⟩)))))))

def Y3 (x:Hd) (y:Gw):Option Bool:=
 bnd (Jr (Gw.mk x.Kilos x.X x.Y x.Z x.Surface x.Steps.1) y) fun r3=>
 bnd (bif r3 then Ja x.Steps y.Steps else some default) fun r4=>
 some (r3&&r4)
theorem H27 (x:Hd) (y:Gw) (r:Bool) (h:Y3 x y=some r):Pure Tryz.prog 184 [.agg (Hd.cs x),.agg (Gw.cs y)] (·=BL r):=by
 unfold Y3 at h
 refine H1 [.tmp 4] Tryz.func184 G G (G5 fun K1 hK1=>G3 (JLh (.ptr 1124 0) (Qi (u:=.agg (Hd.cs x)) (cs:=[G1 x.Kilos,G1 x.X,G1 x.Y,G1 x.Z,G1 x.Surface,LT 1 G1 x.Steps]) 1124 G G G G G) G (JLh (.ptr 1125 0) (Qi (u:=.agg (Gw.cs y)) (cs:=[G1 y.Kilos,G1 y.X,G1 y.Y,G1 y.Z,G1 y.Surface,E0 y.Steps]) 1125 G G G G G) G (JLh (BL false) (G8 G G) G (G9 (hK1 _ _ (Gz [(2,.dptr (Hd.cs x)),(3,.ptr 1125 0)] [(1125,.box 234 [G1 y.Kilos,G1 y.X,G1 y.Y,G1 y.Z,G1 y.Surface,E0 y.Steps])] 1124 rfl rfl rfl ⟨⟨_,rfl,.boxEq rfl rfl⟩,ø⟩ rfl (by exact⟨.ptr,.conv (.same rfl),ø⟩) (Gz [(2,.dptr (Hd.cs x)),(3,Eh y)] [] 1125 rfl rfl rfl ø rfl (by exact⟨.conv (.same rfl),.ptr,ø⟩) ?_))))))))
 refine G5 fun K2 hK2=>G3 (JLh (.agg [G1 x.Kilos,G1 x.X,G1 x.Y,G1 x.Z,G1 x.Surface,E0 x.Steps.1]) (H2.cv (Cv.aggL (cs:=(Hd.cs x)) ⟨.same,.same,.same,.same,.same,Cv.lst0 x.Steps,ø⟩) (Gi G0c G G G)) G (JLh (.agg (Gw.cs y)) (Gi G0c G G G) G ?_))
 obtain⟨r3,hr3,h⟩:=Gf h
 refine JLh (BL r3) (Gs (args:=[.agg [G1 x.Kilos,G1 x.X,G1 x.Y,G1 x.Z,G1 x.Surface,E0 x.Steps.1],.agg (Gw.cs y)]) G (G29 (Gw.mk x.Kilos x.X x.Y x.Z x.Surface x.Steps.1) y r3 hr3) H95 ⟨G,G,G,G,ø⟩) G (JLh (BL r3) (G4 G G) G (Gd (u:=.dptr [LT 1 G1 x.Steps]) [] G G G .sct ø (fun hc=>Ge G3f G G G) ?_))
 refine Gd (u:=LT 1 G1 x.Steps) [(9,.dptr [LT 1 G1 x.Steps])] G G G .sct ⟨.all id,ø⟩ (fun hc=>Gk Hv G G G) ?_
 refine Gd (u:=.dptr [E0 y.Steps]) [] G G G .sct ø (fun hc=>Ge G3f G G G) ?_
 refine Gd (u:=E0 y.Steps) [(11,.dptr [E0 y.Steps])] G G G .sct ⟨.all id,ø⟩ (fun hc=>Gk Hv G G G) ?_
 obtain⟨r4,hr4,h⟩:=Gf h
 refine Gd (u:=BL r4) [(10,LT 1 G1 x.Steps),(12,E0 y.Steps)] G G G .sct ⟨.all id,.all id,ø⟩ (fun hc=>Gs (args:=[LT 1 G1 x.Steps,E0 y.Steps]) G (G2c x.Steps y.Steps r4 (Gy hc hr4)) H94 ⟨G,G,G,G,ø⟩) ?_
 refine JLh (BL (r3&&r4)) (J7 G G G G) G (JLh (BL (r3&&r4)) (G8 G G) G (G9 (hK2 _ _ (Gx (⟨[BL (r3&&r4)],[],ø,G,⟨⟨_,G,.conv (.same G)⟩,ø⟩,G,congrArg (fun r:Bool=>(BL r:AV)) (Option.some.inj h)⟩)))))

def Rq (out:Ln Hd) (l:List Gw):Option Bool:=
 bif decide ((out.1.length:Int)≠(l.length:Int)) then
 (some false)
 else
 (Rm ((l.length:Int)+12) fun v6=>
  bnd (G10 v6 (out.1++out.2).length) fun m7=>
  each (fun y33 i33 (s33:Unit) nx33=>
   bnd (bif decide ((i33:Int) < (l.length:Int)) then Qe l (i33:Int) some else some default) fun y38=>
   bnd (bif decide ((i33:Int) < (l.length:Int)) then Y3 y33 y38 else some default) fun r39=>
   bnd (bif ((!((decide ((i33:Int) < (l.length:Int)))&&(!r39)))&&(decide ((l.length:Int)≤(i33:Int)))) then Rm ((i33:Int) - (l.length:Int)) some else some 0) fun v40=>
   bnd (bif ((!((decide ((i33:Int) < (l.length:Int)))&&(!r39)))&&(decide ((l.length:Int)≤(i33:Int)))) then R4 1 v40 else some default) fun r41=>
   bnd (bif ((!((decide ((i33:Int) < (l.length:Int)))&&(!r39)))&&(decide ((l.length:Int)≤(i33:Int)))) then Jr (Gw.mk y33.Kilos y33.X y33.Y y33.Z y33.Surface y33.Steps.1) r41 else some default) fun r42=>
   bif (((decide ((i33:Int) < (l.length:Int)))&&(!r39))||((decide ((l.length:Int)≤(i33:Int)))&&(!r42))) then
   (some false)
   else
   (nx33 ()))
  (fun(s33:Unit)=>
   some true) ((out.1++out.2).take m7) 0 ())
theorem H15 (out:Ln Hd) (l:List Gw) (r:Bool) (h:Rq out l=some r):Pure Tryz.prog 88 [LT 6 Hd.av out,E8 l] (·=BL r):=by
 unfold Rq at h
 refine H1 [.tmp 4] Tryz.func88 G G (G5 fun K1 hK1=>G3 (JLh (BL false) (G8 G G) G (G9 (hK1 _ _ (G5 (fun K2 hK2=>G5 fun K3 hK3=>G3 (JLh (LT 6 Hd.av out) (G4 G G) G (H0 (f:=Hd.av) (xs:=out.1) Ji G G (fun hm8=>?_) G G G))))))))
 refine JLh (E8 l) (G4 G G) G (H0 (f:=Gw.av) (xs:=l) Ji G G (fun hm10=>?_) G G G)
 refine JLh (BL (decide ((out.1.length:Int)≠(l.length:Int)))) (G14 G G G) G (G9 (hK3 _ _ (Gp G (fun hb=>?_) (fun hb=>?_))))
 ·
  replace h:=Gy hb h
  refine G5 fun K4 hK4=>G3 (JLh (BL false) (G8 G G) G (G9 (hK4 _ _ (Gx (⟨[BL false],[],ø,G,⟨⟨_,G,.conv (.same G)⟩,ø⟩,G,congrArg (fun r:Bool=>(BL r:AV)) (Option.some.inj h)⟩)))))
 ·
  replace h:=Hp hb h
  refine Gq (hK2 _ _ (G5 fun K5 hK5=>G3 (JLh (LT 6 Hd.av out) (G4 G G) G (JLh (E8 l) (G4 G G) G (H0 (f:=Gw.av) (xs:=l) Ji G G (fun hm14=>?_) G G G)))))
  obtain⟨v6,hv6,h⟩:=Hf h
  refine JLh (G1 v6) (Hj hv6 G G G) G ?_
  obtain⟨m7,hm7,h⟩:=Gf h
  refine JLh (Ec ((out.1++out.2).take m7)) (Gf3 (f:=Hd.av) (e:=out) G G G Ji (Qn hm7)) G (JLh (Ec ((out.1++out.2).take m7)) (G8 G G) G (G9 (hK5 _ _ (G5 (fun K8 hK8=>G5 fun K9 hK9=>G3 (JLh (G1 0) (G8 G G) G (G9 (hK9 _ _ (Gn ?_)))))))))
  obtain⟨b33,kx33,hb33,hkx33,h⟩:=J9 h
  refine H7 (fun i33 (s33:Unit)=>each b33 kx33 (List.drop i33 ((out.1++out.2).take m7)) i33 s33=some r) (fun i33 s33=>[(1,E8 l),(5,Ec ((out.1++out.2).take m7)),(6,En i33)]) (fun i33 s33=>[]) (fun i33=>((out.1++out.2).take m7).length - i33) 0 () h ⟨⟨.same G,.same G,.same G,ø⟩,ø,G⟩ ?_
  clear h
  intro i33 s33 hi33 K33 e33
  refine G5 (fun K34 hK34=>G5 fun K35 hK35=>G3 (JLh (En i33) (G4 G G) G (JLh (Ec ((out.1++out.2).take m7)) (G4 G G) G (H0 (f:=Hd.av) (xs:=((out.1++out.2).take m7)) Ji G G (fun hm19=>?_) G G G))))
  refine JLh (BL (decide ((i33:Int) < (((out.1++out.2).take m7).length:Int)))) (Hx G G G) G (G9 (hK35 _ _ (Gp G (fun hb=>?_) (fun hb=>?_))))
  ·
   have hk33:=Jm hb
   obtain⟨y33,nx33,hy33,hn33,h⟩:=Hy hi33 hk33
   replace h:=Zn hb33 h
   refine Gq (hK34 _ _ (G5 (fun K36 hK36=>Gn (G5 (fun K37 hK37=>?_)))))
   obtain⟨y38,hy38,h⟩:=Gf h
   obtain⟨r39,hr39,h⟩:=Gf h
   obtain⟨v40,hv40,h⟩:=Gf h
   obtain⟨r41,hr41,h⟩:=Gf h
   obtain⟨r42,hr42,h⟩:=Gf h
   refine Jc [] [0,0,0,0,0,0,0,0,0,0,0,0,0,0,0,0,0,0,0,0,0,0,0,0,0,0,0,0,0,0,0,0,0,0,0] [0,0,0,0,0,0,0,0,0,0,0,0,0,0,0,0,0,0,0,0,0,0,0,0,0,0,0,0,0,0,0,0,0,0,0] [[]] J3 (by kernel_rfl) rfl rfl ?_
   refine Gb (u:=En i33) G G ⟨Gh (G4 G G) G,ø⟩ (Gb (u:=E8 l) G G ⟨Gh (G4 G G) G,ø⟩ (Gb (u:=En l.length) G G ⟨Gh (Jp (f:=Gw.av) (xs:=l) Ji G G) G,ø⟩ (Gb (u:=BL (decide ((i33:Int) < (l.length:Int)))) G G ⟨Gh (Hx G G G) G,ø⟩ (Gb (u:=BL (decide ((i33:Int) < (l.length:Int)))) G G ⟨Gh (G4 G G) G,ø⟩ (Gb (u:=.opt (decide ((i33:Int) < (l.length:Int))) (Ec ((out.1++out.2).take m7))) G G ⟨Gg [] G G G .sct ø (fun hc=>G4 G G) G,ø⟩ (Gb (u:=.opt (decide ((i33:Int) < (l.length:Int))) (En i33)) G G ⟨Gg [] G G G .sct ø (fun hc=>G4 G G) G,ø⟩ (Gb (u:=.opt (decide ((i33:Int) < (l.length:Int))) (.dptr (Hd.cs y33))) G G ⟨Gg [(28,Ec ((out.1++out.2).take m7)),(29,En i33)] G G G .sct ⟨.all id,.all id,ø⟩ (fun hc=>Gv (f:=Hd.av) (xs:=((out.1++out.2).take m7)) (y:=y33) G G G Ji hy33 G) G,ø⟩ (Gb (u:=.opt (decide ((i33:Int) < (l.length:Int))) (.agg (Hd.cs y33))) G G ⟨Gg [(30,.dptr (Hd.cs y33))] G G G .sct ⟨.all id,ø⟩ (fun hc=>Gi G0c G G G) G,ø⟩ (Gb (u:=.opt (decide ((i33:Int) < (l.length:Int))) (E8 l)) G G ⟨Gg [] G G G .sct ø (fun hc=>G4 G G) G,ø⟩ (Gb (u:=.opt (decide ((i33:Int) < (l.length:Int))) (En i33)) G G ⟨Gg [] G G G .sct ø (fun hc=>G4 G G) G,ø⟩ (Gb (u:=.opt (decide ((i33:Int) < (l.length:Int))) (Eh y38)) G G ⟨Gg [(32,E8 l),(33,En i33)] G G G .sct ⟨.all id,.all id,ø⟩ (fun hc=>(match Q2 (Gy hc hy38) with | ⟨_,hm_,hy_⟩=>Gv (f:=Gw.av) (xs:=l) (y:=y38) G G G Ji hy_ hm_)) G,ø⟩ (Gb (u:=.opt (decide ((i33:Int) < (l.length:Int))) (.agg (Gw.cs y38))) G G ⟨Gg [(34,Eh y38)] G G G .sct ⟨.all id,ø⟩ (fun hc=>Gi G0c G G G) G,ø⟩ (Gb (u:=.opt (decide ((i33:Int) < (l.length:Int))) (BL r39)) G G ⟨Gg [(31,.agg (Hd.cs y33)),(35,.agg (Gw.cs y38))] G G G .sct ⟨.all id,.all id,ø⟩ (fun hc=>Gs (args:=[.agg (Hd.cs y33),.agg (Gw.cs y38)]) G (H27 y33 y38 r39 (Gy hc hr39)) Jd1 ⟨G,G,G,G,ø⟩) G,ø⟩ ?_)))))))))))))
   refine Gb (u:=.opt (decide ((i33:Int) < (l.length:Int))) (BL (!r39))) G G ⟨Gg [(36,BL r39)] G G G .sct ⟨.all id,ø⟩ (fun hc=>Yu (b:=r39) G G) G,ø⟩ (Gb (u:=BL ((decide ((i33:Int) < (l.length:Int)))&&(!r39))) G G ⟨Gh (J7 G G G G) G,ø⟩ (Gb (u:=BL ((decide ((i33:Int) < (l.length:Int)))&&(!r39))) G G ⟨Gh (G4 G G) G,ø⟩ (Gb (u:=.opt (!((decide ((i33:Int) < (l.length:Int)))&&(!r39))) (En i33)) G G ⟨Gg [] G G G .scf ø (fun hc=>G4 G G) G,ø⟩ (Gb (u:=.opt (!((decide ((i33:Int) < (l.length:Int)))&&(!r39))) (E8 l)) G G ⟨Gg [] G G G .scf ø (fun hc=>G4 G G) G,ø⟩ (Gb (u:=.opt (!((decide ((i33:Int) < (l.length:Int)))&&(!r39))) (En l.length)) G G ⟨Gg [(41,E8 l)] G G G .scf ⟨.all id,ø⟩ (fun hc=>Jp (f:=Gw.av) (xs:=l) Ji G G) G,ø⟩ (Gb (u:=.opt (!((decide ((i33:Int) < (l.length:Int)))&&(!r39))) (BL (decide ((l.length:Int)≤(i33:Int))))) G G ⟨Gg [(40,En i33),(42,En l.length)] G G G .scf ⟨.all id,.all id,ø⟩ (fun hc=>G28 G G G) G,ø⟩ (Gb (u:=.opt (!((decide ((i33:Int) < (l.length:Int)))&&(!r39))) (BL (decide ((l.length:Int)≤(i33:Int))))) G G ⟨Gg [(43,BL (decide ((l.length:Int)≤(i33:Int))))] G G G .scf ⟨.all id,ø⟩ (fun hc=>G4 G G) G,ø⟩ (Gb (u:=.opt ((!((decide ((i33:Int) < (l.length:Int)))&&(!r39)))&&(decide ((l.length:Int)≤(i33:Int)))) (Ec ((out.1++out.2).take m7))) G G ⟨Gg [] G G G .optt ø (fun hc=>G4 G G) G,ø⟩ (Gb (u:=.opt ((!((decide ((i33:Int) < (l.length:Int)))&&(!r39)))&&(decide ((l.length:Int)≤(i33:Int)))) (En i33)) G G ⟨Gg [] G G G .optt ø (fun hc=>G4 G G) G,ø⟩ (Gb (u:=.opt ((!((decide ((i33:Int) < (l.length:Int)))&&(!r39)))&&(decide ((l.length:Int)≤(i33:Int)))) (.dptr (Hd.cs y33))) G G ⟨Gg [(45,Ec ((out.1++out.2).take m7)),(46,En i33)] G G G .optt ⟨.all id,.all id,ø⟩ (fun hc=>Gv (f:=Hd.av) (xs:=((out.1++out.2).take m7)) (y:=y33) G G G Ji hy33 G) G,ø⟩ (Gb (u:=.opt ((!((decide ((i33:Int) < (l.length:Int)))&&(!r39)))&&(decide ((l.length:Int)≤(i33:Int)))) (.agg [G1 y33.Kilos,G1 y33.X,G1 y33.Y,G1 y33.Z,G1 y33.Surface,E0 y33.Steps.1])) G G ⟨Gg [(47,.dptr (Hd.cs y33))] G G G .optt ⟨.all id,ø⟩ (fun hc=>H2.cv (Cv.aggL (cs:=(Hd.cs y33)) ⟨.same,.same,.same,.same,.same,Cv.lst0 y33.Steps,ø⟩) (Gi G0c G G G)) G,ø⟩ (Gb (u:=.opt ((!((decide ((i33:Int) < (l.length:Int)))&&(!r39)))&&(decide ((l.length:Int)≤(i33:Int)))) (En i33)) G G ⟨Gg [] G G G .optt ø (fun hc=>G4 G G) G,ø⟩ (Gb (u:=.opt ((!((decide ((i33:Int) < (l.length:Int)))&&(!r39)))&&(decide ((l.length:Int)≤(i33:Int)))) (E8 l)) G G ⟨Gg [] G G G .optt ø (fun hc=>G4 G G) G,ø⟩ ?_)))))))))))))
   refine Gb (u:=.opt ((!((decide ((i33:Int) < (l.length:Int)))&&(!r39)))&&(decide ((l.length:Int)≤(i33:Int)))) (En l.length)) G G ⟨Gg [(50,E8 l)] G G G .optt ⟨.all id,ø⟩ (fun hc=>Jp (f:=Gw.av) (xs:=l) Ji G G) G,ø⟩ (Gb (u:=.opt ((!((decide ((i33:Int) < (l.length:Int)))&&(!r39)))&&(decide ((l.length:Int)≤(i33:Int)))) (G1 v40)) G G ⟨Gg [(49,En i33),(51,En l.length)] G G G .optt ⟨.all id,.all id,ø⟩ (fun hc=>G1e (G02 (Gy hc hv40)) G G G) G,ø⟩ (Gb (u:=.opt ((!((decide ((i33:Int) < (l.length:Int)))&&(!r39)))&&(decide ((l.length:Int)≤(i33:Int)))) (.agg (Gw.cs r41))) G G ⟨Gg [(52,G1 v40)] G G G .optt ⟨.all id,ø⟩ (fun hc=>Gs (args:=[G1 1,G1 v40]) G (G76 1 v40 r41 (Gy hc hr41)) J27 ⟨G,G,G,G,ø⟩) G,ø⟩ (Gb (u:=.opt ((!((decide ((i33:Int) < (l.length:Int)))&&(!r39)))&&(decide ((l.length:Int)≤(i33:Int)))) (BL r42)) G G ⟨Gg [(48,.agg [G1 y33.Kilos,G1 y33.X,G1 y33.Y,G1 y33.Z,G1 y33.Surface,E0 y33.Steps.1]),(53,.agg (Gw.cs r41))] G G G .optt ⟨.all id,.all id,ø⟩ (fun hc=>Gs (args:=[.agg [G1 y33.Kilos,G1 y33.X,G1 y33.Y,G1 y33.Z,G1 y33.Surface,E0 y33.Steps.1],.agg (Gw.cs r41)]) G (G29 (Gw.mk y33.Kilos y33.X y33.Y y33.Z y33.Surface y33.Steps.1) r41 r42 (Gy hc hr42)) H95 ⟨G,G,G,G,ø⟩) G,ø⟩ (Gb (u:=.opt ((!((decide ((i33:Int) < (l.length:Int)))&&(!r39)))&&(decide ((l.length:Int)≤(i33:Int)))) (BL (!r42))) G G ⟨Gg [(54,BL r42)] G G G .optt ⟨.all id,ø⟩ (fun hc=>Yu (b:=r42) G G) G,ø⟩ (Gb (u:=.opt (!((decide ((i33:Int) < (l.length:Int)))&&(!r39))) (BL ((decide ((l.length:Int)≤(i33:Int)))&&(!r42)))) G G ⟨Gg [(44,BL (decide ((l.length:Int)≤(i33:Int)))),(55,_)] G G G .scf ⟨.all id,.part,ø⟩ (fun hc=>J7 G G G G) G,ø⟩ (Gb (u:=BL (((decide ((i33:Int) < (l.length:Int)))&&(!r39))||((decide ((l.length:Int)≤(i33:Int)))&&(!r42)))) G G ⟨Gh (Z5 G G G G) G,ø⟩ (Rb ?_)))))))
   refine hK37 _ _ (Gp G (fun hb=>?_) (fun hb=>?_))
   ·
    replace h:=Gy hb h
    refine G5 fun K43 hK43=>G3 (JLh (BL false) (G8 G G) G (G9 (hK43 _ _ (Gx (⟨[BL false],[],ø,G,⟨⟨_,G,.conv (.same G)⟩,ø⟩,G,congrArg (fun r:Bool=>(BL r:AV)) (Option.some.inj h)⟩)))))
   ·
    replace h:=Hp hb h
    refine Gq (hK36 _ _ (G3 (JLh (En i33) (G4 G G) G (JLh (G1 ((i33+1:Nat):Int)) (Hj (Hi hk33 hm19) G G G) G (JLh (G1 ((i33+1:Nat):Int)) (G8 G G) G (G9 (e33 _ _ (i33+1) () (app1 hn33 h) (by omega) ⟨⟨.same rfl,.same rfl,.same rfl,ø⟩,ø,rfl⟩)))))))
  ·
   have h:=app1 hkx33 (Hz hi33 (Hg hb))
   refine Hc (hK8 _ _ (G5 fun K44 hK44=>G3 (JLh (BL true) (G8 G G) G (G9 (hK44 _ _ (Gx (⟨[BL true],[],ø,G,⟨⟨_,G,.conv (.same G)⟩,ø⟩,G,congrArg (fun r:Bool=>(BL r:AV)) (Option.some.inj h)⟩)))))))

def Z3 (x:Ry) (y:J0):Option Bool:=
 bnd (Yy (J0.mk (x.Columns.1.map Gu.pl) (x.Covers.1.map H5.pl) x.Light x.Rows.1 x.Frames.1 (x.Tanks.1.map Hd.pl) x.G7) y) fun r3=>
 bnd (bif r3 then R7 x.Columns y.Columns else some default) fun r4=>
 bnd (bif (r3&&r4) then Rf x.Covers y.Covers else some default) fun r5=>
 bnd (bif ((r3&&r4)&&r5) then Y4 x.Rows y.Rows else some default) fun r6=>
 bnd (bif (((r3&&r4)&&r5)&&r6) then Re x.Frames y.Frames else some default) fun r7=>
 bnd (bif ((((r3&&r4)&&r5)&&r6)&&r7) then Rq x.Tanks y.Tanks else some default) fun r8=>
 some (((((r3&&r4)&&r5)&&r6)&&r7)&&r8)
theorem H28 (x:Ry) (y:J0) (r:Bool) (h:Z3 x y=some r):Pure Tryz.prog 26 [.agg (Ry.cs x),.agg (J0.cs y)] (·=BL r):=by
 unfold Z3 at h
 refine H1 [.tmp 4] Tryz.func26 G G (G5 fun K1 hK1=>G3 (JLh (.ptr 1011 0) (Qi (u:=.agg (Ry.cs x)) (cs:=(Ry.cs x)) 1011 G G G G G) G (JLh (.ptr 1012 0) (Qi (u:=.agg (J0.cs y)) (cs:=(J0.cs y)) 1012 G G G G G) G (JLh (BL false) (G8 G G) G (G9 (hK1 _ _ ?_))))))
 refine Gz [(2,Em x),(3,.ptr 1012 0)] [(1012,.box 32 (J0.cs y))] 1011 rfl rfl rfl ⟨⟨_,rfl,.boxEq rfl rfl⟩,ø⟩ rfl (by exact⟨.ptr,.conv (.same rfl),ø⟩) (Gz [(2,Em x),(3,Ed y)] [] 1012 rfl rfl rfl ø rfl (by exact⟨.conv (.same rfl),.ptr,ø⟩) ?_)
 refine G5 fun K2 hK2=>G3 (JLh (.agg [E5 (x.Columns.1.map Gu.pl),E4 (x.Covers.1.map H5.pl),G1 x.Light.Kilos,G1 x.Light.X,G1 x.Light.Y,G1 x.Light.Z,E7 x.Rows.1,E6 x.Frames.1,E8 (x.Tanks.1.map Hd.pl),G1 x.G7.Tolerance,G1 x.G7.Trim,G1 x.G7.List_,G1 x.G7.Stability]) (H2.cv (Cv.aggL (cs:=(Ry.cs x)) ⟨Cv.lstM (f:=Gu.av) (g:=Ga.av) Gu.pl Gu.cvl x.Columns,Cv.lstM (f:=H5.av) (g:=Gm.av) H5.pl H5.cvl x.Covers,.same,.same,.same,.same,Cv.lst0 x.Rows,Cv.lst0 x.Frames,Cv.lstM (f:=Hd.av) (g:=Gw.av) Hd.pl Hd.cvl x.Tanks,.same,.same,.same,.same,ø⟩) (Gi Jd G G G)) G (JLh (.agg (J0.cs y)) (Gi Jd G G G) G ?_))
 obtain⟨r3,hr3,h⟩:=Gf h
 refine JLh (BL r3) (Gs (args:=[.agg [E5 (x.Columns.1.map Gu.pl),E4 (x.Covers.1.map H5.pl),G1 x.Light.Kilos,G1 x.Light.X,G1 x.Light.Y,G1 x.Light.Z,E7 x.Rows.1,E6 x.Frames.1,E8 (x.Tanks.1.map Hd.pl),G1 x.G7.Tolerance,G1 x.G7.Trim,G1 x.G7.List_,G1 x.G7.Stability],.agg (J0.cs y)]) G (H22 (J0.mk (x.Columns.1.map Gu.pl) (x.Covers.1.map H5.pl) x.Light x.Rows.1 x.Frames.1 (x.Tanks.1.map Hd.pl) x.G7) y r3 hr3) Jfd ⟨G,G,G,G,ø⟩) G (JLh (BL r3) (G4 G G) G (Gd (u:=Em x) [] G G G .sct ø (fun hc=>Ge Hw G G G) ?_))
 refine Gd (u:=LT 12 Gu.av x.Columns) [(9,Em x)] G G G .sct ⟨.all id,ø⟩ (fun hc=>Gk J8 G G G) ?_
 refine Gd (u:=Ed y) [] G G G .sct ø (fun hc=>Ge Hw G G G) ?_
 refine Gd (u:=E5 y.Columns) [(11,Ed y)] G G G .sct ⟨.all id,ø⟩ (fun hc=>Gk J8 G G G) ?_
 obtain⟨r4,hr4,h⟩:=Gf h
 refine Gd (u:=BL r4) [(10,LT 12 Gu.av x.Columns),(12,E5 y.Columns)] G G G .sct ⟨.all id,.all id,ø⟩ (fun hc=>Gs (args:=[LT 12 Gu.av x.Columns,E5 y.Columns]) G (Gdc x.Columns y.Columns r4 (Gy hc hr4)) Jfc ⟨G,G,G,G,ø⟩) ?_
 refine JLh (BL (r3&&r4)) (J7 G G G G) G (JLh (BL (r3&&r4)) (G4 G G) G (Gd (u:=.dptr ((Ry.cs x).drop 1)) [] G G G .sct ø (fun hc=>Ge Qs G G G) ?_))
 refine Gd (u:=LT 2 H5.av x.Covers) [(16,.dptr ((Ry.cs x).drop 1))] G G G .sct ⟨.all id,ø⟩ (fun hc=>Gk Rw G G G) ?_
 refine Gd (u:=.dptr ((J0.cs y).drop 1)) [] G G G .sct ø (fun hc=>Ge Qs G G G) ?_
 refine Gd (u:=E4 y.Covers) [(18,.dptr ((J0.cs y).drop 1))] G G G .sct ⟨.all id,ø⟩ (fun hc=>Gk Rw G G G) ?_
 obtain⟨r5,hr5,h⟩:=Gf h
 refine Gd (u:=BL r5) [(17,LT 2 H5.av x.Covers),(19,E4 y.Covers)] G G G .sct ⟨.all id,.all id,ø⟩ (fun hc=>Gs (args:=[LT 2 H5.av x.Covers,E4 y.Covers]) G (Gf0 x.Covers y.Covers r5 (Gy hc hr5)) Jfb ⟨G,G,G,G,ø⟩) ?_
 refine JLh (BL ((r3&&r4)&&r5)) (J7 G G G G) G (JLh (BL ((r3&&r4)&&r5)) (G4 G G) G (Gd (u:=.dptr ((Ry.cs x).drop 6)) [] G G G .sct ø (fun hc=>Ge G56 G G G) ?_))
 refine Gd (u:=LT 5 Row.av x.Rows) [(23,.dptr ((Ry.cs x).drop 6))] G G G .sct ⟨.all id,ø⟩ (fun hc=>Gk Ga5 G G G) ?_
 refine Gd (u:=.dptr ((J0.cs y).drop 6)) [] G G G .sct ø (fun hc=>Ge G56 G G G) ?_
 refine Gd (u:=E7 y.Rows) [(25,.dptr ((J0.cs y).drop 6))] G G G .sct ⟨.all id,ø⟩ (fun hc=>Gk Ga5 G G G) ?_
 obtain⟨r6,hr6,h⟩:=Gf h
 refine Gd (u:=BL r6) [(24,LT 5 Row.av x.Rows),(26,E7 y.Rows)] G G G .sct ⟨.all id,.all id,ø⟩ (fun hc=>Gs (args:=[LT 5 Row.av x.Rows,E7 y.Rows]) G (H29 x.Rows y.Rows r6 (Gy hc hr6)) Jfa ⟨G,G,G,G,ø⟩) ?_
 refine JLh (BL (((r3&&r4)&&r5)&&r6)) (J7 G G G G) G (JLh (BL (((r3&&r4)&&r5)&&r6)) (G4 G G) G (Gd (u:=.dptr ((Ry.cs x).drop 7)) [] G G G .sct ø (fun hc=>Ge G55 G G G) ?_))
 refine Gd (u:=LT 5 Frame.av x.Frames) [(30,.dptr ((Ry.cs x).drop 7))] G G G .sct ⟨.all id,ø⟩ (fun hc=>Gk Ga4 G G G) ?_
 refine Gd (u:=.dptr ((J0.cs y).drop 7)) [] G G G .sct ø (fun hc=>Ge G55 G G G) ?_
 refine Gd (u:=E6 y.Frames) [(32,.dptr ((J0.cs y).drop 7))] G G G .sct ⟨.all id,ø⟩ (fun hc=>Gk Ga4 G G G) ?_
 obtain⟨r7,hr7,h⟩:=Gf h
 refine Gd (u:=BL r7) [(31,LT 5 Frame.av x.Frames),(33,E6 y.Frames)] G G G .sct ⟨.all id,.all id,ø⟩ (fun hc=>Gs (args:=[LT 5 Frame.av x.Frames,E6 y.Frames]) G (Gef x.Frames y.Frames r7 (Gy hc hr7)) Jf9 ⟨G,G,G,G,ø⟩) ?_
 refine JLh (BL ((((r3&&r4)&&r5)&&r6)&&r7)) (J7 G G G G) G (JLh (BL ((((r3&&r4)&&r5)&&r6)&&r7)) (G4 G G) G (Gd (u:=.dptr ((Ry.cs x).drop 8)) [] G G G .sct ø (fun hc=>Ge G54 G G G) ?_))
 refine Gd (u:=LT 6 Hd.av x.Tanks) [(37,.dptr ((Ry.cs x).drop 8))] G G G .sct ⟨.all id,ø⟩ (fun hc=>Gk Ga3 G G G) ?_
 refine Gd (u:=.dptr ((J0.cs y).drop 8)) [] G G G .sct ø (fun hc=>Ge G54 G G G) ?_
 refine Gd (u:=E8 y.Tanks) [(39,.dptr ((J0.cs y).drop 8))] G G G .sct ⟨.all id,ø⟩ (fun hc=>Gk Ga3 G G G) ?_
 obtain⟨r8,hr8,h⟩:=Gf h
 refine Gd (u:=BL r8) [(38,LT 6 Hd.av x.Tanks),(40,E8 y.Tanks)] G G G .sct ⟨.all id,.all id,ø⟩ (fun hc=>Gs (args:=[LT 6 Hd.av x.Tanks,E8 y.Tanks]) G (H15 x.Tanks y.Tanks r8 (Gy hc hr8)) Jf8 ⟨G,G,G,G,ø⟩) ?_
 refine JLh (BL (((((r3&&r4)&&r5)&&r6)&&r7)&&r8)) (J7 G G G G) G (JLh (BL (((((r3&&r4)&&r5)&&r6)&&r7)&&r8)) (G8 G G) G (G9 (hK2 _ _ (Gx (⟨[BL (((((r3&&r4)&&r5)&&r6)&&r7)&&r8)],[],ø,G,⟨⟨_,G,.conv (.same G)⟩,ø⟩,G,congrArg (fun r:Bool=>(BL r:AV)) (Option.some.inj h)⟩)))))

def Rk (k:Int) (i:Int):Option H4:=
 bnd (Jf k i) fun r3=>
 some (H4.mk r3 ByteArray.empty 0 false 0 0 0 0 false)
theorem G84 (k:Int) (i:Int) (r:H4) (h:Rk k i=some r):Pure Tryz.prog 68 [G1 k,G1 i] (·=.agg (H4.cs r)):=by
 unfold Rk at h
 refine H1 [.cell 4 117] Tryz.func68 G G (G5 fun K1 hK1=>G3 (JLh (.ptr 1057 0) (G15 1057 [G1 0,ST ByteArray.empty,U8 0,BL false,G1 0,G1 0,G1 0,U8 0,BL false] [.int .i64 0,.string ByteArray.empty,.int .u8 0,.bool false,.int .i64 0,.int .i64 0,.int .i64 0,.int .u8 0,.bool false] G46 ⟨.inl G,.inl G,.inl G,.inl G,.inl G,.inl G,.inl G,.inl G,.inl G,ø⟩ G G) G (G9 (hK1 _ _ (G5 fun K2 hK2=>G3 (JLh (G1 k) (G4 G G) G (JLh (G1 i) (G4 G G) G ?_)))))))
 obtain⟨r3,hr3,h⟩:=Gf h
 refine JLh (G1 r3) (Gs (args:=[G1 k,G1 i]) G (Qf k i r3 hr3) G31 ⟨G,G,G,G,ø⟩) G (JLh (.agg [G1 r3,ST ByteArray.empty,U8 0,BL false,G1 0,G1 0,G1 0,U8 0,BL false]) (Q0 (cs:=[G1 r3,ST ByteArray.empty,U8 0,BL false,G1 0,G1 0,G1 0,U8 0,BL false]) [(0,1),(1,1),(2,1),(3,1),(4,1),(5,1),(6,1),(7,1),(8,1)] [G1 0,ST ByteArray.empty,U8 0,BL false,G1 0,G1 0,G1 0,U8 0,BL false] [.int .i64 0,.string ByteArray.empty,.int .u8 0,.bool false,.int .i64 0,.int .i64 0,.int .i64 0,.int .u8 0,.bool false] G36 G46 ⟨.inl G,.inl G,.inl G,.inl G,.inl G,.inl G,.inl G,.inl G,.inl G,ø⟩ G G) G (Jb (u:=.junk) (J4 (u:=.agg [G1 r3,ST ByteArray.empty,U8 0,BL false,G1 0,G1 0,G1 0,U8 0,BL false]) (ds:=[G1 r3,ST ByteArray.empty,U8 0,BL false,G1 0,G1 0,G1 0,U8 0,BL false]) Gc9 G G G G G G G G) (G9 (hK2 _ _ ?_))))
 refine Gx (⟨[.agg [G1 r3,ST ByteArray.empty,U8 0,BL false,G1 0,G1 0,G1 0,U8 0,BL false]],[],ø,G,⟨⟨_,⟨_,_,_,_,G,G,G,.inl ⟨G62,G⟩⟩,.conv (.same G)⟩,ø⟩,G,congrArg (fun r:H4=>(.agg (H4.cs r):AV)) (Option.some.inj h)⟩)

def Yr (l:List H4):Option (Ln H4):=
 Rm ((l.length:Int)+12) fun v3=>
 bnd (G9b v3) fun m4=>
 need (decide (64*m4≤281474976710656∧m4≤maxLen)) <|
 need (decide ((([]:List H4).length+l.length)*64≤140737488355328∧([]:List H4).length+l.length≤maxLen)) <|
 need (decide (12≤9223372036854775807)) <|
 upto (fun i19 (s19:(List H4)) nx19=>
  bnd (Rk 1 (i19:Int)) fun r23=>
  need (decide ((s19.length+[r23].length)*64≤140737488355328∧s19.length+[r23].length≤maxLen)) <|
  nx19 (s19++[r23]))
 (fun(s19:(List H4))=>
  bnd (G10 (l.length:Int) s19.length) fun m26=>
  some (s19.take m26,s19.drop m26)) (12:Int).toNat 0 (([]:List H4)++l)
theorem H14 (l:List H4) (r:(Ln H4)) (h:Yr l=some r):Pure Tryz.prog 13 [E2 l] (·=LT 9 H4.av r):=by
 unfold Yr at h
 refine H1 [.tmp 2] Tryz.func13 G G (G5 fun K1 hK1=>G3 (JLh (E2 ([]:List H4)) (Rs 9 G G) G (G9 (hK1 _ _ (G5 fun K2 hK2=>G3 (JLh (E2 l) (G4 G G) G (H0 (f:=H4.av) (xs:=l) Ht G G (fun hm6=>?_) G G G)))))))
 obtain⟨v3,hv3,h⟩:=Hf h
 refine JLh (G1 v3) (Hj hv3 G G G) G ?_
 obtain⟨m4,hm4,h⟩:=Gf h
 obtain⟨ha5,h⟩:=Hr h
 refine JLh (OW 1008 9 H4.av ([]:List H4)) (G72 1008 G G G G Ht H91 G (Jt hm4) ha5) G (JLh (OW 1008 9 H4.av ([]:List H4)) (G8 G G) G (G9 (hK2 _ _ (G5 fun K6 hK6=>G3 (JLh (OW 1008 9 H4.av ([]:List H4)) (G4 G G) G (JLh (E2 l) (G4 G G) G ?_))))))
 obtain⟨ha7,h⟩:=Hr h
 refine JLh (OW 1008 9 H4.av (([]:List H4)++l)) (Gf9 (f:=H4.av) (xs:=([]:List H4)) (ys:=l) G G G G Ht H91 ha7 (fun _=>G) (.inl G)) G (JLh (OW 1008 9 H4.av (([]:List H4)++l)) (G8 G G) G (G9 (hK6 _ _ (G5 (fun K8 hK8=>G5 fun K9 hK9=>G3 (JLh (G1 0) (G8 G G) G (G9 (hK9 _ _ (Gn ?_)))))))))
 obtain⟨hx19,h⟩:=Hr h
 obtain⟨b19,kx19,hb19,hkx19,h⟩:=G59 h
 refine H7 (fun i19 (s19:(List H4))=>upto b19 kx19 ((12:Int).toNat - i19) i19 s19=some r) (fun i19 s19=>[(0,E2 l),(3,OW 1008 9 H4.av s19),(4,En i19)]) (fun i19 s19=>[(1008,.spare 117 9 s19.length s19.length)]) (fun i19=>(12:Int).toNat - i19) 0 (([]:List H4)++l) h ⟨⟨.same G,.same G,.same G,ø⟩,⟨⟨_,G,.same⟩,ø⟩,G⟩ ?_
 clear h
 intro i19 s19 hi19 K19 e19
 refine G5 (fun K20 hK20=>G5 fun K21 hK21=>G3 (JLh (En i19) (G4 G G) G (JLh (BL (decide ((i19:Int) < 12))) (Hx G G G) G (G9 (hK21 _ _ (Gp G (fun hb=>?_) (fun hb=>?_)))))))
 ·
  have hk19:=G33 hb
  obtain⟨nx19,hn19,h⟩:=G2f hi19 hk19
  replace h:=H82 hb19 h
  refine Gq (hK20 _ _ (G5 (fun K22 hK22=>Gn (G3 (JLh (OW 1008 9 H4.av s19) (G4 G G) G (JLh (En i19) (G4 G G) G ?_))))))
  obtain⟨r23,hr23,h⟩:=Gf h
  refine JLh (.agg (H4.cs r23)) (Gs (args:=[G1 1,En i19]) G (G84 1 (i19:Int) r23 hr23) J75 ⟨G,G,G,G,ø⟩) G (JLh (E2 [r23]) (Hs (xs:=[.agg (H4.cs r23)]) G ⟨G,G,ø⟩ Ht G49 G G G G) G ?_)
  obtain⟨ha24,h⟩:=Hr h
  refine JLh (OW 1008 9 H4.av (s19++[r23])) (Qx (f:=H4.av) (xs:=s19) (ys:=[r23]) G G G G Ht H91 ha24 (fun _=>G) (.inl G) G) G (JLh (OW 1008 9 H4.av (s19++[r23])) (G8 G G) G (G9 (hK22 _ _ (G3 (JLh (En i19) (G4 G G) G (JLh (G1 ((i19+1:Nat):Int)) (Hj (Hi hk19 (G07 hx19)) G G G) G (JLh (G1 ((i19+1:Nat):Int)) (G8 G G) G (G9 (e19 _ _ (i19+1) (s19++[r23]) (app1 hn19 h) (by omega) ⟨⟨.same rfl,.same rfl,.same rfl,ø⟩,⟨⟨_,rfl,.same⟩,ø⟩,rfl⟩)))))))))
 ·
  have h:=app1 hkx19 (G30 hi19 (Rx hb))
  refine Hc (hK8 _ _ (G5 fun K25 hK25=>G3 (JLh (OW 1008 9 H4.av s19) (G4 G G) G (JLh (E2 l) (G4 G G) G (H0 (f:=H4.av) (xs:=l) Ht G G (fun hm23=>?_) G G G)))))
  obtain⟨m26,hm26,h⟩:=Gf h
  refine JLh (LT 9 H4.av (s19.take m26,s19.drop m26)) (Hfa (f:=H4.av) (xs:=s19) G G G Ht (Qn hm26)) G (JLh (LT 9 H4.av (s19.take m26,s19.drop m26)) (G8 G G) G (G9 (hK25 _ _ (Gx (⟨[LT 9 H4.av (s19.take m26,s19.drop m26)],[],ø,G,⟨⟨_,G,.conv (.same G)⟩,ø⟩,G,congrArg (fun r:(Ln H4)=>(LT 9 H4.av r:AV)) (Option.some.inj h)⟩)))))

def Ys (out:Ln H4) (l:List H4):Option Bool:=
 bif decide ((out.1.length:Int)≠(l.length:Int)) then
 (some false)
 else
 (Rm ((l.length:Int)+12) fun v6=>
  bnd (G10 v6 (out.1++out.2).length) fun m7=>
  each (fun y29 i29 (s29:Unit) nx29=>
   bnd (bif decide ((i29:Int) < (l.length:Int)) then Qe l (i29:Int) some else some default) fun y34=>
   bnd (bif ((!((decide ((i29:Int) < (l.length:Int)))&&(!(decide (y29=y34)))))&&(decide ((l.length:Int)≤(i29:Int)))) then Rm ((i29:Int) - (l.length:Int)) some else some 0) fun v35=>
   bnd (bif ((!((decide ((i29:Int) < (l.length:Int)))&&(!(decide (y29=y34)))))&&(decide ((l.length:Int)≤(i29:Int)))) then Rk 1 v35 else some default) fun r36=>
   bif (((decide ((i29:Int) < (l.length:Int)))&&(!(decide (y29=y34))))||((decide ((l.length:Int)≤(i29:Int)))&&(!(decide (y29=r36))))) then
   (some false)
   else
   (nx29 ()))
  (fun(s29:Unit)=>
   some true) ((out.1++out.2).take m7) 0 ())
theorem H17 (out:Ln H4) (l:List H4) (r:Bool) (h:Ys out l=some r):Pure Tryz.prog 27 [LT 9 H4.av out,E2 l] (·=BL r):=by
 unfold Ys at h
 refine H1 [.tmp 4] Tryz.func27 G G (G5 fun K1 hK1=>G3 (JLh (BL false) (G8 G G) G (G9 (hK1 _ _ (G5 (fun K2 hK2=>G5 fun K3 hK3=>G3 (JLh (LT 9 H4.av out) (G4 G G) G (H0 (f:=H4.av) (xs:=out.1) Ht G G (fun hm8=>?_) G G G))))))))
 refine JLh (E2 l) (G4 G G) G (H0 (f:=H4.av) (xs:=l) Ht G G (fun hm10=>?_) G G G)
 refine JLh (BL (decide ((out.1.length:Int)≠(l.length:Int)))) (G14 G G G) G (G9 (hK3 _ _ (Gp G (fun hb=>?_) (fun hb=>?_))))
 ·
  replace h:=Gy hb h
  refine G5 fun K4 hK4=>G3 (JLh (BL false) (G8 G G) G (G9 (hK4 _ _ (Gx (⟨[BL false],[],ø,G,⟨⟨_,G,.conv (.same G)⟩,ø⟩,G,congrArg (fun r:Bool=>(BL r:AV)) (Option.some.inj h)⟩)))))
 ·
  replace h:=Hp hb h
  refine Gq (hK2 _ _ (G5 fun K5 hK5=>G3 (JLh (LT 9 H4.av out) (G4 G G) G (JLh (E2 l) (G4 G G) G (H0 (f:=H4.av) (xs:=l) Ht G G (fun hm14=>?_) G G G)))))
  obtain⟨v6,hv6,h⟩:=Hf h
  refine JLh (G1 v6) (Hj hv6 G G G) G ?_
  obtain⟨m7,hm7,h⟩:=Gf h
  refine JLh (E2 ((out.1++out.2).take m7)) (Gf3 (f:=H4.av) (e:=out) G G G Ht (Qn hm7)) G (JLh (E2 ((out.1++out.2).take m7)) (G8 G G) G (G9 (hK5 _ _ (G5 (fun K8 hK8=>G5 fun K9 hK9=>G3 (JLh (G1 0) (G8 G G) G (G9 (hK9 _ _ (Gn ?_)))))))))
  obtain⟨b29,kx29,hb29,hkx29,h⟩:=J9 h
  refine H7 (fun i29 (s29:Unit)=>each b29 kx29 (List.drop i29 ((out.1++out.2).take m7)) i29 s29=some r) (fun i29 s29=>[(1,E2 l),(5,E2 ((out.1++out.2).take m7)),(6,En i29)]) (fun i29 s29=>[]) (fun i29=>((out.1++out.2).take m7).length - i29) 0 () h ⟨⟨.same G,.same G,.same G,ø⟩,ø,G⟩ ?_
  clear h
  intro i29 s29 hi29 K29 e29
  refine G5 (fun K30 hK30=>G5 fun K31 hK31=>G3 (JLh (En i29) (G4 G G) G (JLh (E2 ((out.1++out.2).take m7)) (G4 G G) G (H0 (f:=H4.av) (xs:=((out.1++out.2).take m7)) Ht G G (fun hm19=>?_) G G G))))
  refine JLh (BL (decide ((i29:Int) < (((out.1++out.2).take m7).length:Int)))) (Hx G G G) G (G9 (hK31 _ _ (Gp G (fun hb=>?_) (fun hb=>?_))))
  ·
   have hk29:=Jm hb
   obtain⟨y29,nx29,hy29,hn29,h⟩:=Hy hi29 hk29
   replace h:=Zn hb29 h
   refine Gq (hK30 _ _ (G5 (fun K32 hK32=>Gn (G5 (fun K33 hK33=>?_)))))
   obtain⟨y34,hy34,h⟩:=Gf h
   obtain⟨v35,hv35,h⟩:=Gf h
   obtain⟨r36,hr36,h⟩:=Gf h
   refine Jc [] [0,0,0,0,0,0,0,0,0,0,0,0,0,0,0,0,0,0,0,0,0,0,0,0,0,0,0,0,0,0,0,0,0,0,0] [0,0,0,0,0,0,0,0,0,0,0,0,0,0,0,0,0,0,0,0,0,0,0,0,0,0,0,0,0,0,0,0,0,0,0] [[]] J3 (by kernel_rfl) rfl rfl ?_
   refine Gb (u:=En i29) G G ⟨Gh (G4 G G) G,ø⟩ (Gb (u:=E2 l) G G ⟨Gh (G4 G G) G,ø⟩ (Gb (u:=En l.length) G G ⟨Gh (Jp (f:=H4.av) (xs:=l) Ht G G) G,ø⟩ (Gb (u:=BL (decide ((i29:Int) < (l.length:Int)))) G G ⟨Gh (Hx G G G) G,ø⟩ (Gb (u:=BL (decide ((i29:Int) < (l.length:Int)))) G G ⟨Gh (G4 G G) G,ø⟩ (Gb (u:=.opt (decide ((i29:Int) < (l.length:Int))) (E2 ((out.1++out.2).take m7))) G G ⟨Gg [] G G G .sct ø (fun hc=>G4 G G) G,ø⟩ (Gb (u:=.opt (decide ((i29:Int) < (l.length:Int))) (En i29)) G G ⟨Gg [] G G G .sct ø (fun hc=>G4 G G) G,ø⟩ (Gb (u:=.opt (decide ((i29:Int) < (l.length:Int))) (Eg y29)) G G ⟨Gg [(28,E2 ((out.1++out.2).take m7)),(29,En i29)] G G G .sct ⟨.all id,.all id,ø⟩ (fun hc=>Gv (f:=H4.av) (xs:=((out.1++out.2).take m7)) (y:=y29) G G G Ht hy29 G) G,ø⟩ (Gb (u:=.opt (decide ((i29:Int) < (l.length:Int))) (.agg (H4.cs y29))) G G ⟨Gg [(30,Eg y29)] G G G .sct ⟨.all id,ø⟩ (fun hc=>Gi G62 G G G) G,ø⟩ (Gb (u:=.opt (decide ((i29:Int) < (l.length:Int))) (E2 l)) G G ⟨Gg [] G G G .sct ø (fun hc=>G4 G G) G,ø⟩ (Gb (u:=.opt (decide ((i29:Int) < (l.length:Int))) (En i29)) G G ⟨Gg [] G G G .sct ø (fun hc=>G4 G G) G,ø⟩ (Gb (u:=.opt (decide ((i29:Int) < (l.length:Int))) (Eg y34)) G G ⟨Gg [(32,E2 l),(33,En i29)] G G G .sct ⟨.all id,.all id,ø⟩ (fun hc=>(match Q2 (Gy hc hy34) with | ⟨_,hm_,hy_⟩=>Gv (f:=H4.av) (xs:=l) (y:=y34) G G G Ht hy_ hm_)) G,ø⟩ (Gb (u:=.opt (decide ((i29:Int) < (l.length:Int))) (.agg (H4.cs y34))) G G ⟨Gg [(34,Eg y34)] G G G .sct ⟨.all id,ø⟩ (fun hc=>Gi G62 G G G) G,ø⟩ (Gb (u:=.opt (decide ((i29:Int) < (l.length:Int))) (BL (decide (y29=y34)))) G G ⟨Gg [(31,.agg (H4.cs y29)),(35,.agg (H4.cs y34))] G G G .sct ⟨.all id,.all id,ø⟩ (fun hc=>G73 (vs:=[.int .i64 y29.ID,.string y29.Number,.int .u8 y29.Size,.bool y29.High,.int .i64 y29.Kilos,.int .i64 y29.Load,.int .i64 y29.Discharge,.int .u8 y29.Class,.bool y29.Reefer]) (us:=[.int .i64 y34.ID,.string y34.Number,.int .u8 y34.Size,.bool y34.High,.int .i64 y34.Kilos,.int .i64 y34.Load,.int .i64 y34.Discharge,.int .u8 y34.Class,.bool y34.Reefer]) 4 G (tq_117 y29 y34) Hda J70 G G G) G,ø⟩ ?_)))))))))))))
   refine Gb (u:=.opt (decide ((i29:Int) < (l.length:Int))) (BL (!(decide (y29=y34))))) G G ⟨Gg [(36,BL (decide (y29=y34)))] G G G .sct ⟨.all id,ø⟩ (fun hc=>Yu (b:=decide (y29=y34)) G G) G,ø⟩ (Gb (u:=BL ((decide ((i29:Int) < (l.length:Int)))&&(!(decide (y29=y34))))) G G ⟨Gh (J7 G G G G) G,ø⟩ (Gb (u:=BL ((decide ((i29:Int) < (l.length:Int)))&&(!(decide (y29=y34))))) G G ⟨Gh (G4 G G) G,ø⟩ (Gb (u:=.opt (!((decide ((i29:Int) < (l.length:Int)))&&(!(decide (y29=y34))))) (En i29)) G G ⟨Gg [] G G G .scf ø (fun hc=>G4 G G) G,ø⟩ (Gb (u:=.opt (!((decide ((i29:Int) < (l.length:Int)))&&(!(decide (y29=y34))))) (E2 l)) G G ⟨Gg [] G G G .scf ø (fun hc=>G4 G G) G,ø⟩ (Gb (u:=.opt (!((decide ((i29:Int) < (l.length:Int)))&&(!(decide (y29=y34))))) (En l.length)) G G ⟨Gg [(41,E2 l)] G G G .scf ⟨.all id,ø⟩ (fun hc=>Jp (f:=H4.av) (xs:=l) Ht G G) G,ø⟩ (Gb (u:=.opt (!((decide ((i29:Int) < (l.length:Int)))&&(!(decide (y29=y34))))) (BL (decide ((l.length:Int)≤(i29:Int))))) G G ⟨Gg [(40,En i29),(42,En l.length)] G G G .scf ⟨.all id,.all id,ø⟩ (fun hc=>G28 G G G) G,ø⟩ (Gb (u:=.opt (!((decide ((i29:Int) < (l.length:Int)))&&(!(decide (y29=y34))))) (BL (decide ((l.length:Int)≤(i29:Int))))) G G ⟨Gg [(43,BL (decide ((l.length:Int)≤(i29:Int))))] G G G .scf ⟨.all id,ø⟩ (fun hc=>G4 G G) G,ø⟩ (Gb (u:=.opt ((!((decide ((i29:Int) < (l.length:Int)))&&(!(decide (y29=y34)))))&&(decide ((l.length:Int)≤(i29:Int)))) (E2 ((out.1++out.2).take m7))) G G ⟨Gg [] G G G .optt ø (fun hc=>G4 G G) G,ø⟩ (Gb (u:=.opt ((!((decide ((i29:Int) < (l.length:Int)))&&(!(decide (y29=y34)))))&&(decide ((l.length:Int)≤(i29:Int)))) (En i29)) G G ⟨Gg [] G G G .optt ø (fun hc=>G4 G G) G,ø⟩ (Gb (u:=.opt ((!((decide ((i29:Int) < (l.length:Int)))&&(!(decide (y29=y34)))))&&(decide ((l.length:Int)≤(i29:Int)))) (Eg y29)) G G ⟨Gg [(45,E2 ((out.1++out.2).take m7)),(46,En i29)] G G G .optt ⟨.all id,.all id,ø⟩ (fun hc=>Gv (f:=H4.av) (xs:=((out.1++out.2).take m7)) (y:=y29) G G G Ht hy29 G) G,ø⟩ (Gb (u:=.opt ((!((decide ((i29:Int) < (l.length:Int)))&&(!(decide (y29=y34)))))&&(decide ((l.length:Int)≤(i29:Int)))) (.agg (H4.cs y29))) G G ⟨Gg [(47,Eg y29)] G G G .optt ⟨.all id,ø⟩ (fun hc=>Gi G62 G G G) G,ø⟩ (Gb (u:=.opt ((!((decide ((i29:Int) < (l.length:Int)))&&(!(decide (y29=y34)))))&&(decide ((l.length:Int)≤(i29:Int)))) (En i29)) G G ⟨Gg [] G G G .optt ø (fun hc=>G4 G G) G,ø⟩ (Gb (u:=.opt ((!((decide ((i29:Int) < (l.length:Int)))&&(!(decide (y29=y34)))))&&(decide ((l.length:Int)≤(i29:Int)))) (E2 l)) G G ⟨Gg [] G G G .optt ø (fun hc=>G4 G G) G,ø⟩ ?_)))))))))))))
   refine Gb (u:=.opt ((!((decide ((i29:Int) < (l.length:Int)))&&(!(decide (y29=y34)))))&&(decide ((l.length:Int)≤(i29:Int)))) (En l.length)) G G ⟨Gg [(50,E2 l)] G G G .optt ⟨.all id,ø⟩ (fun hc=>Jp (f:=H4.av) (xs:=l) Ht G G) G,ø⟩ (Gb (u:=.opt ((!((decide ((i29:Int) < (l.length:Int)))&&(!(decide (y29=y34)))))&&(decide ((l.length:Int)≤(i29:Int)))) (G1 v35)) G G ⟨Gg [(49,En i29),(51,En l.length)] G G G .optt ⟨.all id,.all id,ø⟩ (fun hc=>G1e (G02 (Gy hc hv35)) G G G) G,ø⟩ (Gb (u:=.opt ((!((decide ((i29:Int) < (l.length:Int)))&&(!(decide (y29=y34)))))&&(decide ((l.length:Int)≤(i29:Int)))) (.agg (H4.cs r36))) G G ⟨Gg [(52,G1 v35)] G G G .optt ⟨.all id,ø⟩ (fun hc=>Gs (args:=[G1 1,G1 v35]) G (G84 1 v35 r36 (Gy hc hr36)) J75 ⟨G,G,G,G,ø⟩) G,ø⟩ (Gb (u:=.opt ((!((decide ((i29:Int) < (l.length:Int)))&&(!(decide (y29=y34)))))&&(decide ((l.length:Int)≤(i29:Int)))) (BL (decide (y29=r36)))) G G ⟨Gg [(48,.agg (H4.cs y29)),(53,.agg (H4.cs r36))] G G G .optt ⟨.all id,.all id,ø⟩ (fun hc=>G73 (vs:=[.int .i64 y29.ID,.string y29.Number,.int .u8 y29.Size,.bool y29.High,.int .i64 y29.Kilos,.int .i64 y29.Load,.int .i64 y29.Discharge,.int .u8 y29.Class,.bool y29.Reefer]) (us:=[.int .i64 r36.ID,.string r36.Number,.int .u8 r36.Size,.bool r36.High,.int .i64 r36.Kilos,.int .i64 r36.Load,.int .i64 r36.Discharge,.int .u8 r36.Class,.bool r36.Reefer]) 4 G (tq_117 y29 r36) Hda J70 G G G) G,ø⟩ (Gb (u:=.opt ((!((decide ((i29:Int) < (l.length:Int)))&&(!(decide (y29=y34)))))&&(decide ((l.length:Int)≤(i29:Int)))) (BL (!(decide (y29=r36))))) G G ⟨Gg [(54,BL (decide (y29=r36)))] G G G .optt ⟨.all id,ø⟩ (fun hc=>Yu (b:=decide (y29=r36)) G G) G,ø⟩ (Gb (u:=.opt (!((decide ((i29:Int) < (l.length:Int)))&&(!(decide (y29=y34))))) (BL ((decide ((l.length:Int)≤(i29:Int)))&&(!(decide (y29=r36)))))) G G ⟨Gg [(44,BL (decide ((l.length:Int)≤(i29:Int)))),(55,_)] G G G .scf ⟨.all id,.part,ø⟩ (fun hc=>J7 G G G G) G,ø⟩ (Gb (u:=BL (((decide ((i29:Int) < (l.length:Int)))&&(!(decide (y29=y34))))||((decide ((l.length:Int)≤(i29:Int)))&&(!(decide (y29=r36)))))) G G ⟨Gh (Z5 G G G G) G,ø⟩ (Rb ?_)))))))
   refine hK33 _ _ (Gp G (fun hb=>?_) (fun hb=>?_))
   ·
    replace h:=Gy hb h
    refine G5 fun K37 hK37=>G3 (JLh (BL false) (G8 G G) G (G9 (hK37 _ _ (Gx (⟨[BL false],[],ø,G,⟨⟨_,G,.conv (.same G)⟩,ø⟩,G,congrArg (fun r:Bool=>(BL r:AV)) (Option.some.inj h)⟩)))))
   ·
    replace h:=Hp hb h
    refine Gq (hK32 _ _ (G3 (JLh (En i29) (G4 G G) G (JLh (G1 ((i29+1:Nat):Int)) (Hj (Hi hk29 hm19) G G G) G (JLh (G1 ((i29+1:Nat):Int)) (G8 G G) G (G9 (e29 _ _ (i29+1) () (app1 hn29 h) (by omega) ⟨⟨.same rfl,.same rfl,.same rfl,ø⟩,ø,rfl⟩)))))))
  ·
   have h:=app1 hkx29 (Hz hi29 (Hg hb))
   refine Hc (hK8 _ _ (G5 fun K38 hK38=>G3 (JLh (BL true) (G8 G G) G (G9 (hK38 _ _ (Gx (⟨[BL true],[],ø,G,⟨⟨_,G,.conv (.same G)⟩,ø⟩,G,congrArg (fun r:Bool=>(BL r:AV)) (Option.some.inj h)⟩)))))))

def Qc (k:Int) (i:Int):Option G6:=
 bnd (Jf k i) fun r3=>
 some (G6.mk r3 0)
theorem G23 (k:Int) (i:Int) (r:G6) (h:Qc k i=some r):Pure Tryz.prog 213 [G1 k,G1 i] (·=.agg [G1 r.Load,G1 r.Discharge]):=by
 unfold Qc at h
 refine H1 [.cell 4 72] Tryz.func213 G G (G5 fun K1 hK1=>G3 (JLh (.ptr 1128 0) (G15 1128 [G1 0,G1 0] [.int .i64 0,.int .i64 0] G5e ⟨.inl G,.inl G,ø⟩ G G) G (G9 (hK1 _ _ (G5 fun K2 hK2=>G3 (JLh (G1 k) (G4 G G) G (JLh (G1 i) (G4 G G) G ?_)))))))
 obtain⟨r3,hr3,h⟩:=Gf h
 refine JLh (G1 r3) (Gs (args:=[G1 k,G1 i]) G (Qf k i r3 hr3) G31 ⟨G,G,G,G,ø⟩) G (JLh (.agg [G1 r3,G1 0]) (Q0 (cs:=[G1 r3,G1 0]) [(0,1),(1,1)] [G1 0,G1 0] [.int .i64 0,.int .i64 0] G4b G5e ⟨.inl G,.inl G,ø⟩ G G) G (Jb (u:=.junk) (J4 (u:=.agg [G1 r3,G1 0]) (ds:=[G1 r3,G1 0]) G5f G G G G G G G G) (G9 (hK2 _ _ (Gx (⟨[.agg [G1 r3,G1 0]],[],ø,G,⟨⟨_,⟨_,_,_,_,G,G,G,.inl ⟨Ho,G⟩⟩,.conv (.same G)⟩,ø⟩,G,congrArg (fun r:G6=>(.agg [G1 r.Load,G1 r.Discharge]:AV)) (Option.some.inj h)⟩))))))

def Ye (l:List G6):Option (Ln G6):=
 Rm ((l.length:Int)+12) fun v3=>
 bnd (G9b v3) fun m4=>
 need (decide (16*m4≤281474976710656∧m4≤maxLen)) <|
 need (decide ((([]:List G6).length+l.length)*16≤140737488355328∧([]:List G6).length+l.length≤maxLen)) <|
 need (decide (12≤9223372036854775807)) <|
 upto (fun i19 (s19:(List G6)) nx19=>
  bnd (Qc 1 (i19:Int)) fun r23=>
  need (decide ((s19.length+[r23].length)*16≤140737488355328∧s19.length+[r23].length≤maxLen)) <|
  nx19 (s19++[r23]))
 (fun(s19:(List G6))=>
  bnd (G10 (l.length:Int) s19.length) fun m26=>
  some (s19.take m26,s19.drop m26)) (12:Int).toNat 0 (([]:List G6)++l)
theorem Gea (l:List G6) (r:(Ln G6)) (h:Ye l=some r):Pure Tryz.prog 100 [E1 l] (·=LT 2 G6.av r):=by
 unfold Ye at h
 refine H1 [.tmp 2] Tryz.func100 G G (G5 fun K1 hK1=>G3 (JLh (E1 ([]:List G6)) (Rs 2 G G) G (G9 (hK1 _ _ (G5 fun K2 hK2=>G3 (JLh (E1 l) (G4 G G) G (H0 (f:=G6.av) (xs:=l) Ha G G (fun hm6=>?_) G G G)))))))
 obtain⟨v3,hv3,h⟩:=Hf h
 refine JLh (G1 v3) (Hj hv3 G G G) G ?_
 obtain⟨m4,hm4,h⟩:=Gf h
 obtain⟨ha5,h⟩:=Hr h
 refine JLh (OW 1070 2 G6.av ([]:List G6)) (G72 1070 G G G G Ha Gfc G (Jt hm4) ha5) G (JLh (OW 1070 2 G6.av ([]:List G6)) (G8 G G) G (G9 (hK2 _ _ (G5 fun K6 hK6=>G3 (JLh (OW 1070 2 G6.av ([]:List G6)) (G4 G G) G (JLh (E1 l) (G4 G G) G ?_))))))
 obtain⟨ha7,h⟩:=Hr h
 refine JLh (OW 1070 2 G6.av (([]:List G6)++l)) (Gf9 (f:=G6.av) (xs:=([]:List G6)) (ys:=l) G G G G Ha Gfc ha7 (fun _=>G) (.inl G)) G (JLh (OW 1070 2 G6.av (([]:List G6)++l)) (G8 G G) G (G9 (hK6 _ _ (G5 (fun K8 hK8=>G5 fun K9 hK9=>G3 (JLh (G1 0) (G8 G G) G (G9 (hK9 _ _ (Gn ?_)))))))))
 obtain⟨hx19,h⟩:=Hr h
 obtain⟨b19,kx19,hb19,hkx19,h⟩:=G59 h
 refine H7 (fun i19 (s19:(List G6))=>upto b19 kx19 ((12:Int).toNat - i19) i19 s19=some r) (fun i19 s19=>[(0,E1 l),(3,OW 1070 2 G6.av s19),(4,En i19)]) (fun i19 s19=>[(1070,.spare 72 2 s19.length s19.length)]) (fun i19=>(12:Int).toNat - i19) 0 (([]:List G6)++l) h ⟨⟨.same G,.same G,.same G,ø⟩,⟨⟨_,G,.same⟩,ø⟩,G⟩ ?_
 clear h
 intro i19 s19 hi19 K19 e19
 refine G5 (fun K20 hK20=>G5 fun K21 hK21=>G3 (JLh (En i19) (G4 G G) G (JLh (BL (decide ((i19:Int) < 12))) (Hx G G G) G (G9 (hK21 _ _ (Gp G (fun hb=>?_) (fun hb=>?_)))))))
 ·
  have hk19:=G33 hb
  obtain⟨nx19,hn19,h⟩:=G2f hi19 hk19
  replace h:=H82 hb19 h
  refine Gq (hK20 _ _ (G5 (fun K22 hK22=>Gn (G3 (JLh (OW 1070 2 G6.av s19) (G4 G G) G (JLh (En i19) (G4 G G) G ?_))))))
  obtain⟨r23,hr23,h⟩:=Gf h
  refine JLh (.agg [G1 r23.Load,G1 r23.Discharge]) (Gs (args:=[G1 1,En i19]) G (G23 1 (i19:Int) r23 hr23) H93 ⟨G,G,G,G,ø⟩) G (JLh (E1 [r23]) (Hs (xs:=[.agg [G1 r23.Load,G1 r23.Discharge]]) G ⟨G,G,ø⟩ Ha Zx G G G G) G ?_)
  obtain⟨ha24,h⟩:=Hr h
  refine JLh (OW 1070 2 G6.av (s19++[r23])) (Qx (f:=G6.av) (xs:=s19) (ys:=[r23]) G G G G Ha Gfc ha24 (fun _=>G) (.inl G) G) G (JLh (OW 1070 2 G6.av (s19++[r23])) (G8 G G) G (G9 (hK22 _ _ (G3 (JLh (En i19) (G4 G G) G (JLh (G1 ((i19+1:Nat):Int)) (Hj (Hi hk19 (G07 hx19)) G G G) G (JLh (G1 ((i19+1:Nat):Int)) (G8 G G) G (G9 (e19 _ _ (i19+1) (s19++[r23]) (app1 hn19 h) (by omega) ⟨⟨.same rfl,.same rfl,.same rfl,ø⟩,⟨⟨_,rfl,.same⟩,ø⟩,rfl⟩)))))))))
 ·
  have h:=app1 hkx19 (G30 hi19 (Rx hb))
  refine Hc (hK8 _ _ (G5 fun K25 hK25=>G3 (JLh (OW 1070 2 G6.av s19) (G4 G G) G (JLh (E1 l) (G4 G G) G (H0 (f:=G6.av) (xs:=l) Ha G G (fun hm23=>?_) G G G)))))
  obtain⟨m26,hm26,h⟩:=Gf h
  refine JLh (LT 2 G6.av (s19.take m26,s19.drop m26)) (Hfa (f:=G6.av) (xs:=s19) G G G Ha (Qn hm26)) G (JLh (LT 2 G6.av (s19.take m26,s19.drop m26)) (G8 G G) G (G9 (hK25 _ _ (Gx (⟨[LT 2 G6.av (s19.take m26,s19.drop m26)],[],ø,G,⟨⟨_,G,.conv (.same G)⟩,ø⟩,G,congrArg (fun r:(Ln G6)=>(LT 2 G6.av r:AV)) (Option.some.inj h)⟩)))))

def Qj (k:Int) (i:Int):Option (List G6):=
 bnd (Qc k i) fun r3=>
 some [r3]
theorem G5a (k:Int) (i:Int) (r:(List G6)) (h:Qj k i=some r):Pure Tryz.prog 101 [G1 k,G1 i] (·=E1 r):=by
 unfold Qj at h
 refine H1 [.tmp 4] Tryz.func101 G G (G5 fun K1 hK1=>G3 (JLh (E1 ([]:List G6)) (Rs 2 G G) G (G9 (hK1 _ _ (G5 fun K2 hK2=>G3 (JLh (G1 k) (G4 G G) G (JLh (G1 i) (G4 G G) G ?_)))))))
 obtain⟨r3,hr3,h⟩:=Gf h
 refine JLh (.agg [G1 r3.Load,G1 r3.Discharge]) (Gs (args:=[G1 k,G1 i]) G (G23 k i r3 hr3) H93 ⟨G,G,G,G,ø⟩) G (JLh (E1 [r3]) (Hs (xs:=[.agg [G1 r3.Load,G1 r3.Discharge]]) G ⟨G,G,ø⟩ Ha Zx G G G G) G (JLh (E1 [r3]) (G8 G G) G (G9 (hK2 _ _ (Gx (⟨[E1 [r3]],[],ø,G,⟨⟨_,G,.conv (.same G)⟩,ø⟩,G,congrArg (fun r:(List G6)=>(E1 r:AV)) (Option.some.inj h)⟩))))))

def Rz (l:List (List G6)):Option (Ln (Ln G6)):=
 Rm ((l.length:Int)+12) fun v3=>
 bnd (G9b v3) fun m4=>
 need (decide (24*m4≤281474976710656∧m4≤maxLen)) <|
 each (fun y23 i23 (s23:(List (Ln G6))) nx23=>
  bnd (Ye y23) fun r28=>
  need (decide ((s23.length+[r28].length)*24≤140737488355328∧s23.length+[r28].length≤maxLen)) <|
  nx23 (s23++[r28]))
 (fun(s23:(List (Ln G6)))=>
  need (decide (12≤9223372036854775807)) <|
  upto (fun i41 (s41:(List (Ln G6))) nx41=>
   bnd (Qj 1 (i41:Int)) fun r45=>
   need (decide ((s41.length+[(r45,([]:List G6))].length)*24≤140737488355328∧s41.length+[(r45,([]:List G6))].length≤maxLen)) <|
   nx41 (s41++[(r45,([]:List G6))]))
  (fun(s41:(List (Ln G6)))=>
   bnd (G10 (l.length:Int) s41.length) fun m48=>
   some (s41.take m48,s41.drop m48)) (12:Int).toNat 0 s23) l 0 []
theorem Gcf (l:List (List G6)) (r:(Ln (Ln G6))) (h:Rz l=some r):Pure Tryz.prog 36 [LS 1 (E1) l] (·=LT 1 (LT 2 G6.av) r):=by
 unfold Rz at h
 refine H1 [.tmp 2] Tryz.func36 G G (G5 fun K1 hK1=>G3 (JLh (LS 1 (E1) ([]:List (List G6))) (Rs 1 G G) G (G9 (hK1 _ _ (G5 fun K2 hK2=>G3 (JLh (LS 1 (E1) l) (G4 G G) G (H0 (f:=(E1)) (xs:=l) J1 G G (fun hm8=>?_) G G G)))))))
 obtain⟨v3,hv3,h⟩:=Hf h
 refine JLh (G1 v3) (Hj hv3 G G G) G ?_
 obtain⟨m4,hm4,h⟩:=Gf h
 obtain⟨ha5,h⟩:=Hr h
 refine JLh (OW 1016 1 (LT 2 G6.av) ([]:List (Ln G6))) (G72 1016 G G G G J1 H60 G (Jt hm4) ha5) G (JLh (OW 1016 1 (LT 2 G6.av) ([]:List (Ln G6))) (G8 G G) G (G9 (hK2 _ _ (G5 (fun K6 hK6=>G5 fun K7 hK7=>G3 (JLh (G1 0) (G8 G G) G (G9 (hK7 _ _ (Gn ?_)))))))))
 obtain⟨b23,kx23,hb23,hkx23,h⟩:=J9 h
 refine H7 (fun i23 (s23:(List (Ln G6)))=>each b23 kx23 (List.drop i23 l) i23 s23=some r) (fun i23 s23=>[(0,LS 1 (E1) l),(3,OW 1016 1 (LT 2 G6.av) s23),(4,En i23)]) (fun i23 s23=>[(1016,.spare 88 1 s23.length s23.length)]) (fun i23=>l.length - i23) 0 [] h ⟨⟨.same G,.same G,.same G,ø⟩,⟨⟨_,G,.same⟩,ø⟩,G⟩ ?_
 clear h
 intro i23 s23 hi23 K23 e23
 refine G5 (fun K24 hK24=>G5 fun K25 hK25=>G3 (JLh (En i23) (G4 G G) G (JLh (LS 1 (E1) l) (G4 G G) G (H0 (f:=(E1)) (xs:=l) J1 G G (fun hm13=>?_) G G G))))
 refine JLh (BL (decide ((i23:Int) < (l.length:Int)))) (Hx G G G) G (G9 (hK25 _ _ (Gp G (fun hb=>?_) (fun hb=>?_))))
 ·
  have hk23:=Jm hb
  obtain⟨y23,nx23,hy23,hn23,h⟩:=Hy hi23 hk23
  replace h:=Zn hb23 h
  refine Gq (hK24 _ _ (G5 (fun K26 hK26=>Gn (G5 fun K27 hK27=>G3 (JLh (LS 1 (E1) l) (G4 G G) G (JLh (En i23) (G4 G G) G (JLh (.dptr [E1 y23]) (Gv (f:=(E1)) (xs:=l) (y:=y23) G G G J1 hy23 G) G (JLh (E1 y23) (Gk Rv G G G) G ?_))))))))
  obtain⟨r28,hr28,h⟩:=Gf h
  refine JLh (LT 2 G6.av r28) (Gs (args:=[E1 y23]) G (Gea y23 r28 hr28) Je7 ⟨G,G,ø⟩) G (JLh (LT 2 G6.av r28) (G8 G G) G (G9 (hK27 _ _ (G3 (JLh (OW 1016 1 (LT 2 G6.av) s23) (G4 G G) G (JLh (LT 2 G6.av r28) (G4 G G) G (JLh (LS 1 (LT 2 G6.av) [r28]) (Hs (xs:=[LT 2 G6.av r28]) G ⟨G,G,ø⟩ J1 H2e G G G G) G ?_)))))))
  obtain⟨ha29,h⟩:=Hr h
  refine JLh (OW 1016 1 (LT 2 G6.av) (s23++[r28])) (Qx (f:=(LT 2 G6.av)) (xs:=s23) (ys:=[r28]) G G G G J1 H60 ha29 (fun _=>G) (.inl G) G) G (JLh (OW 1016 1 (LT 2 G6.av) (s23++[r28])) (G8 G G) G (G9 (hK26 _ _ (G3 (JLh (En i23) (G4 G G) G (JLh (G1 ((i23+1:Nat):Int)) (Hj (Hi hk23 hm13) G G G) G (JLh (G1 ((i23+1:Nat):Int)) (G8 G G) G (G9 (e23 _ _ (i23+1) (s23++[r28]) (app1 hn23 h) (by omega) ⟨⟨.same rfl,.same rfl,.same rfl,ø⟩,⟨⟨_,rfl,.same⟩,ø⟩,rfl⟩)))))))))
 ·
  have h:=app1 hkx23 (Hz hi23 (Hg hb))
  refine Hc (hK6 _ _ (G5 (fun K30 hK30=>G5 fun K31 hK31=>G3 (JLh (G1 0) (G8 G G) G (G9 (hK31 _ _ (Gn ?_)))))))
  obtain⟨hx41,h⟩:=Hr h
  obtain⟨b41,kx41,hb41,hkx41,h⟩:=G59 h
  refine H7 (fun i41 (s41:(List (Ln G6)))=>upto b41 kx41 ((12:Int).toNat - i41) i41 s41=some r) (fun i41 s41=>[(0,LS 1 (E1) l),(3,OW 1016 1 (LT 2 G6.av) s41),(6,En i41)]) (fun i41 s41=>[(1016,.spare 88 1 s41.length s41.length)]) (fun i41=>(12:Int).toNat - i41) 0 s23 h ⟨⟨.same G,.same G,.same G,ø⟩,⟨⟨_,G,.same⟩,ø⟩,G⟩ ?_
  clear h
  intro i41 s41 hi41 K41 e41
  refine G5 (fun K42 hK42=>G5 fun K43 hK43=>G3 (JLh (En i41) (G4 G G) G (JLh (BL (decide ((i41:Int) < 12))) (Hx G G G) G (G9 (hK43 _ _ (Gp G (fun hb=>?_) (fun hb=>?_)))))))
  ·
   have hk41:=G33 hb
   obtain⟨nx41,hn41,h⟩:=G2f hi41 hk41
   replace h:=H82 hb41 h
   refine Gq (hK42 _ _ (G5 (fun K44 hK44=>Gn (G3 (JLh (OW 1016 1 (LT 2 G6.av) s41) (G4 G G) G (JLh (En i41) (G4 G G) G ?_))))))
   obtain⟨r45,hr45,h⟩:=Gf h
   refine JLh (LT 2 G6.av (r45,([]:List G6))) (H2.cv (Cv.of0 r45) (Gs (args:=[G1 1,En i41]) G (G5a 1 (i41:Int) r45 hr45) J35 ⟨G,G,G,G,ø⟩)) G (JLh (LS 1 (LT 2 G6.av) ([(r45,([]:List G6))])) (Hs (xs:=[LT 2 G6.av (r45,([]:List G6))]) G ⟨G,G,ø⟩ J1 H2e G G G G) G ?_)
   obtain⟨ha46,h⟩:=Hr h
   refine JLh (OW 1016 1 (LT 2 G6.av) (s41++[(r45,([]:List G6))])) (Qx (f:=(LT 2 G6.av)) (xs:=s41) (ys:=[(r45,([]:List G6))]) G G G G J1 H60 ha46 (fun _=>G) (.inl G) G) G (JLh (OW 1016 1 (LT 2 G6.av) (s41++[(r45,([]:List G6))])) (G8 G G) G (G9 (hK44 _ _ (G3 (JLh (En i41) (G4 G G) G (JLh (G1 ((i41+1:Nat):Int)) (Hj (Hi hk41 (G07 hx41)) G G G) G (JLh (G1 ((i41+1:Nat):Int)) (G8 G G) G (G9 (e41 _ _ (i41+1) (s41++[(r45,([]:List G6))]) (app1 hn41 h) (by omega) ⟨⟨.same rfl,.same rfl,.same rfl,ø⟩,⟨⟨_,rfl,.same⟩,ø⟩,rfl⟩)))))))))
  ·
   have h:=app1 hkx41 (G30 hi41 (Rx hb))
   refine Hc (hK30 _ _ (G5 fun K47 hK47=>G3 (JLh (OW 1016 1 (LT 2 G6.av) s41) (G4 G G) G (JLh (LS 1 (E1) l) (G4 G G) G (H0 (f:=(E1)) (xs:=l) J1 G G (fun hm37=>?_) G G G)))))
   obtain⟨m48,hm48,h⟩:=Gf h
   refine JLh (LT 1 (LT 2 G6.av) (s41.take m48,s41.drop m48)) (Hfa (f:=(LT 2 G6.av)) (xs:=s41) G G G J1 (Qn hm48)) G (JLh (LT 1 (LT 2 G6.av) (s41.take m48,s41.drop m48)) (G8 G G) G (G9 (hK47 _ _ (Gx (⟨[LT 1 (LT 2 G6.av) (s41.take m48,s41.drop m48)],[],ø,G,⟨⟨_,G,.conv (.same G)⟩,ø⟩,G,congrArg (fun r:(Ln (Ln G6))=>(LT 1 (LT 2 G6.av) r:AV)) (Option.some.inj h)⟩)))))

def Rc (out:Ln G6) (l:List G6):Option Bool:=
 bif decide ((out.1.length:Int)≠(l.length:Int)) then
 (some false)
 else
 (Rm ((l.length:Int)+12) fun v6=>
  bnd (G10 v6 (out.1++out.2).length) fun m7=>
  each (fun y29 i29 (s29:Unit) nx29=>
   bnd (bif decide ((i29:Int) < (l.length:Int)) then Qe l (i29:Int) some else some default) fun y34=>
   bnd (bif ((!((decide ((i29:Int) < (l.length:Int)))&&(!(decide (y29=y34)))))&&(decide ((l.length:Int)≤(i29:Int)))) then Rm ((i29:Int) - (l.length:Int)) some else some 0) fun v35=>
   bnd (bif ((!((decide ((i29:Int) < (l.length:Int)))&&(!(decide (y29=y34)))))&&(decide ((l.length:Int)≤(i29:Int)))) then Qc 1 v35 else some default) fun r36=>
   bif (((decide ((i29:Int) < (l.length:Int)))&&(!(decide (y29=y34))))||((decide ((l.length:Int)≤(i29:Int)))&&(!(decide (y29=r36))))) then
   (some false)
   else
   (nx29 ()))
  (fun(s29:Unit)=>
   some true) ((out.1++out.2).take m7) 0 ())
theorem Gee (out:Ln G6) (l:List G6) (r:Bool) (h:Rc out l=some r):Pure Tryz.prog 116 [LT 2 G6.av out,E1 l] (·=BL r):=by
 unfold Rc at h
 refine H1 [.tmp 4] Tryz.func116 G G (G5 fun K1 hK1=>G3 (JLh (BL false) (G8 G G) G (G9 (hK1 _ _ (G5 (fun K2 hK2=>G5 fun K3 hK3=>G3 (JLh (LT 2 G6.av out) (G4 G G) G (H0 (f:=G6.av) (xs:=out.1) Ha G G (fun hm8=>?_) G G G))))))))
 refine JLh (E1 l) (G4 G G) G (H0 (f:=G6.av) (xs:=l) Ha G G (fun hm10=>?_) G G G)
 refine JLh (BL (decide ((out.1.length:Int)≠(l.length:Int)))) (G14 G G G) G (G9 (hK3 _ _ (Gp G (fun hb=>?_) (fun hb=>?_))))
 ·
  replace h:=Gy hb h
  refine G5 fun K4 hK4=>G3 (JLh (BL false) (G8 G G) G (G9 (hK4 _ _ (Gx (⟨[BL false],[],ø,G,⟨⟨_,G,.conv (.same G)⟩,ø⟩,G,congrArg (fun r:Bool=>(BL r:AV)) (Option.some.inj h)⟩)))))
 ·
  replace h:=Hp hb h
  refine Gq (hK2 _ _ (G5 fun K5 hK5=>G3 (JLh (LT 2 G6.av out) (G4 G G) G (JLh (E1 l) (G4 G G) G (H0 (f:=G6.av) (xs:=l) Ha G G (fun hm14=>?_) G G G)))))
  obtain⟨v6,hv6,h⟩:=Hf h
  refine JLh (G1 v6) (Hj hv6 G G G) G ?_
  obtain⟨m7,hm7,h⟩:=Gf h
  refine JLh (E1 ((out.1++out.2).take m7)) (Gf3 (f:=G6.av) (e:=out) G G G Ha (Qn hm7)) G (JLh (E1 ((out.1++out.2).take m7)) (G8 G G) G (G9 (hK5 _ _ (G5 (fun K8 hK8=>G5 fun K9 hK9=>G3 (JLh (G1 0) (G8 G G) G (G9 (hK9 _ _ (Gn ?_)))))))))
  obtain⟨b29,kx29,hb29,hkx29,h⟩:=J9 h
  refine H7 (fun i29 (s29:Unit)=>each b29 kx29 (List.drop i29 ((out.1++out.2).take m7)) i29 s29=some r) (fun i29 s29=>[(1,E1 l),(5,E1 ((out.1++out.2).take m7)),(6,En i29)]) (fun i29 s29=>[]) (fun i29=>((out.1++out.2).take m7).length - i29) 0 () h ⟨⟨.same G,.same G,.same G,ø⟩,ø,G⟩ ?_
  clear h
  intro i29 s29 hi29 K29 e29
  refine G5 (fun K30 hK30=>G5 fun K31 hK31=>G3 (JLh (En i29) (G4 G G) G (JLh (E1 ((out.1++out.2).take m7)) (G4 G G) G (H0 (f:=G6.av) (xs:=((out.1++out.2).take m7)) Ha G G (fun hm19=>?_) G G G))))
  refine JLh (BL (decide ((i29:Int) < (((out.1++out.2).take m7).length:Int)))) (Hx G G G) G (G9 (hK31 _ _ (Gp G (fun hb=>?_) (fun hb=>?_))))
  ·
   have hk29:=Jm hb
   obtain⟨y29,nx29,hy29,hn29,h⟩:=Hy hi29 hk29
   replace h:=Zn hb29 h
   refine Gq (hK30 _ _ (G5 (fun K32 hK32=>Gn (G5 (fun K33 hK33=>?_)))))
   obtain⟨y34,hy34,h⟩:=Gf h
   obtain⟨v35,hv35,h⟩:=Gf h
   obtain⟨r36,hr36,h⟩:=Gf h
   refine Jc [] [0,0,0,0,0,0,0,0,0,0,0,0,0,0,0,0,0,0,0,0,0,0,0,0,0,0,0,0,0,0,0,0,0,0,0] [0,0,0,0,0,0,0,0,0,0,0,0,0,0,0,0,0,0,0,0,0,0,0,0,0,0,0,0,0,0,0,0,0,0,0] [[]] J3 (by kernel_rfl) rfl rfl ?_
   refine Gb (u:=En i29) G G ⟨Gh (G4 G G) G,ø⟩ (Gb (u:=E1 l) G G ⟨Gh (G4 G G) G,ø⟩ (Gb (u:=En l.length) G G ⟨Gh (Jp (f:=G6.av) (xs:=l) Ha G G) G,ø⟩ (Gb (u:=BL (decide ((i29:Int) < (l.length:Int)))) G G ⟨Gh (Hx G G G) G,ø⟩ (Gb (u:=BL (decide ((i29:Int) < (l.length:Int)))) G G ⟨Gh (G4 G G) G,ø⟩ (Gb (u:=.opt (decide ((i29:Int) < (l.length:Int))) (E1 ((out.1++out.2).take m7))) G G ⟨Gg [] G G G .sct ø (fun hc=>G4 G G) G,ø⟩ (Gb (u:=.opt (decide ((i29:Int) < (l.length:Int))) (En i29)) G G ⟨Gg [] G G G .sct ø (fun hc=>G4 G G) G,ø⟩ (Gb (u:=.opt (decide ((i29:Int) < (l.length:Int))) (.dptr [G1 y29.Load,G1 y29.Discharge])) G G ⟨Gg [(28,E1 ((out.1++out.2).take m7)),(29,En i29)] G G G .sct ⟨.all id,.all id,ø⟩ (fun hc=>Gv (f:=G6.av) (xs:=((out.1++out.2).take m7)) (y:=y29) G G G Ha hy29 G) G,ø⟩ (Gb (u:=.opt (decide ((i29:Int) < (l.length:Int))) (.agg [G1 y29.Load,G1 y29.Discharge])) G G ⟨Gg [(30,.dptr [G1 y29.Load,G1 y29.Discharge])] G G G .sct ⟨.all id,ø⟩ (fun hc=>Gi Ho G G G) G,ø⟩ (Gb (u:=.opt (decide ((i29:Int) < (l.length:Int))) (E1 l)) G G ⟨Gg [] G G G .sct ø (fun hc=>G4 G G) G,ø⟩ (Gb (u:=.opt (decide ((i29:Int) < (l.length:Int))) (En i29)) G G ⟨Gg [] G G G .sct ø (fun hc=>G4 G G) G,ø⟩ (Gb (u:=.opt (decide ((i29:Int) < (l.length:Int))) (.dptr [G1 y34.Load,G1 y34.Discharge])) G G ⟨Gg [(32,E1 l),(33,En i29)] G G G .sct ⟨.all id,.all id,ø⟩ (fun hc=>(match Q2 (Gy hc hy34) with | ⟨_,hm_,hy_⟩=>Gv (f:=G6.av) (xs:=l) (y:=y34) G G G Ha hy_ hm_)) G,ø⟩ (Gb (u:=.opt (decide ((i29:Int) < (l.length:Int))) (.agg [G1 y34.Load,G1 y34.Discharge])) G G ⟨Gg [(34,.dptr [G1 y34.Load,G1 y34.Discharge])] G G G .sct ⟨.all id,ø⟩ (fun hc=>Gi Ho G G G) G,ø⟩ (Gb (u:=.opt (decide ((i29:Int) < (l.length:Int))) (BL (decide (y29=y34)))) G G ⟨Gg [(31,.agg [G1 y29.Load,G1 y29.Discharge]),(35,.agg [G1 y34.Load,G1 y34.Discharge])] G G G .sct ⟨.all id,.all id,ø⟩ (fun hc=>G73 (vs:=[.int .i64 y29.Load,.int .i64 y29.Discharge]) (us:=[.int .i64 y34.Load,.int .i64 y34.Discharge]) 4 G (J6b y29 y34) G9a Gf4 G G G) G,ø⟩ ?_)))))))))))))
   refine Gb (u:=.opt (decide ((i29:Int) < (l.length:Int))) (BL (!(decide (y29=y34))))) G G ⟨Gg [(36,BL (decide (y29=y34)))] G G G .sct ⟨.all id,ø⟩ (fun hc=>Yu (b:=decide (y29=y34)) G G) G,ø⟩ (Gb (u:=BL ((decide ((i29:Int) < (l.length:Int)))&&(!(decide (y29=y34))))) G G ⟨Gh (J7 G G G G) G,ø⟩ (Gb (u:=BL ((decide ((i29:Int) < (l.length:Int)))&&(!(decide (y29=y34))))) G G ⟨Gh (G4 G G) G,ø⟩ (Gb (u:=.opt (!((decide ((i29:Int) < (l.length:Int)))&&(!(decide (y29=y34))))) (En i29)) G G ⟨Gg [] G G G .scf ø (fun hc=>G4 G G) G,ø⟩ (Gb (u:=.opt (!((decide ((i29:Int) < (l.length:Int)))&&(!(decide (y29=y34))))) (E1 l)) G G ⟨Gg [] G G G .scf ø (fun hc=>G4 G G) G,ø⟩ (Gb (u:=.opt (!((decide ((i29:Int) < (l.length:Int)))&&(!(decide (y29=y34))))) (En l.length)) G G ⟨Gg [(41,E1 l)] G G G .scf ⟨.all id,ø⟩ (fun hc=>Jp (f:=G6.av) (xs:=l) Ha G G) G,ø⟩ (Gb (u:=.opt (!((decide ((i29:Int) < (l.length:Int)))&&(!(decide (y29=y34))))) (BL (decide ((l.length:Int)≤(i29:Int))))) G G ⟨Gg [(40,En i29),(42,En l.length)] G G G .scf ⟨.all id,.all id,ø⟩ (fun hc=>G28 G G G) G,ø⟩ (Gb (u:=.opt (!((decide ((i29:Int) < (l.length:Int)))&&(!(decide (y29=y34))))) (BL (decide ((l.length:Int)≤(i29:Int))))) G G ⟨Gg [(43,BL (decide ((l.length:Int)≤(i29:Int))))] G G G .scf ⟨.all id,ø⟩ (fun hc=>G4 G G) G,ø⟩ (Gb (u:=.opt ((!((decide ((i29:Int) < (l.length:Int)))&&(!(decide (y29=y34)))))&&(decide ((l.length:Int)≤(i29:Int)))) (E1 ((out.1++out.2).take m7))) G G ⟨Gg [] G G G .optt ø (fun hc=>G4 G G) G,ø⟩ (Gb (u:=.opt ((!((decide ((i29:Int) < (l.length:Int)))&&(!(decide (y29=y34)))))&&(decide ((l.length:Int)≤(i29:Int)))) (En i29)) G G ⟨Gg [] G G G .optt ø (fun hc=>G4 G G) G,ø⟩ (Gb (u:=.opt ((!((decide ((i29:Int) < (l.length:Int)))&&(!(decide (y29=y34)))))&&(decide ((l.length:Int)≤(i29:Int)))) (.dptr [G1 y29.Load,G1 y29.Discharge])) G G ⟨Gg [(45,E1 ((out.1++out.2).take m7)),(46,En i29)] G G G .optt ⟨.all id,.all id,ø⟩ (fun hc=>Gv (f:=G6.av) (xs:=((out.1++out.2).take m7)) (y:=y29) G G G Ha hy29 G) G,ø⟩ (Gb (u:=.opt ((!((decide ((i29:Int) < (l.length:Int)))&&(!(decide (y29=y34)))))&&(decide ((l.length:Int)≤(i29:Int)))) (.agg [G1 y29.Load,G1 y29.Discharge])) G G ⟨Gg [(47,.dptr [G1 y29.Load,G1 y29.Discharge])] G G G .optt ⟨.all id,ø⟩ (fun hc=>Gi Ho G G G) G,ø⟩ (Gb (u:=.opt ((!((decide ((i29:Int) < (l.length:Int)))&&(!(decide (y29=y34)))))&&(decide ((l.length:Int)≤(i29:Int)))) (En i29)) G G ⟨Gg [] G G G .optt ø (fun hc=>G4 G G) G,ø⟩ (Gb (u:=.opt ((!((decide ((i29:Int) < (l.length:Int)))&&(!(decide (y29=y34)))))&&(decide ((l.length:Int)≤(i29:Int)))) (E1 l)) G G ⟨Gg [] G G G .optt ø (fun hc=>G4 G G) G,ø⟩ ?_)))))))))))))
   refine Gb (u:=.opt ((!((decide ((i29:Int) < (l.length:Int)))&&(!(decide (y29=y34)))))&&(decide ((l.length:Int)≤(i29:Int)))) (En l.length)) G G ⟨Gg [(50,E1 l)] G G G .optt ⟨.all id,ø⟩ (fun hc=>Jp (f:=G6.av) (xs:=l) Ha G G) G,ø⟩ (Gb (u:=.opt ((!((decide ((i29:Int) < (l.length:Int)))&&(!(decide (y29=y34)))))&&(decide ((l.length:Int)≤(i29:Int)))) (G1 v35)) G G ⟨Gg [(49,En i29),(51,En l.length)] G G G .optt ⟨.all id,.all id,ø⟩ (fun hc=>G1e (G02 (Gy hc hv35)) G G G) G,ø⟩ (Gb (u:=.opt ((!((decide ((i29:Int) < (l.length:Int)))&&(!(decide (y29=y34)))))&&(decide ((l.length:Int)≤(i29:Int)))) (.agg [G1 r36.Load,G1 r36.Discharge])) G G ⟨Gg [(52,G1 v35)] G G G .optt ⟨.all id,ø⟩ (fun hc=>Gs (args:=[G1 1,G1 v35]) G (G23 1 v35 r36 (Gy hc hr36)) H93 ⟨G,G,G,G,ø⟩) G,ø⟩ (Gb (u:=.opt ((!((decide ((i29:Int) < (l.length:Int)))&&(!(decide (y29=y34)))))&&(decide ((l.length:Int)≤(i29:Int)))) (BL (decide (y29=r36)))) G G ⟨Gg [(48,.agg [G1 y29.Load,G1 y29.Discharge]),(53,.agg [G1 r36.Load,G1 r36.Discharge])] G G G .optt ⟨.all id,.all id,ø⟩ (fun hc=>G73 (vs:=[.int .i64 y29.Load,.int .i64 y29.Discharge]) (us:=[.int .i64 r36.Load,.int .i64 r36.Discharge]) 4 G (J6b y29 r36) G9a Gf4 G G G) G,ø⟩ (Gb (u:=.opt ((!((decide ((i29:Int) < (l.length:Int)))&&(!(decide (y29=y34)))))&&(decide ((l.length:Int)≤(i29:Int)))) (BL (!(decide (y29=r36))))) G G ⟨Gg [(54,BL (decide (y29=r36)))] G G G .optt ⟨.all id,ø⟩ (fun hc=>Yu (b:=decide (y29=r36)) G G) G,ø⟩ (Gb (u:=.opt (!((decide ((i29:Int) < (l.length:Int)))&&(!(decide (y29=y34))))) (BL ((decide ((l.length:Int)≤(i29:Int)))&&(!(decide (y29=r36)))))) G G ⟨Gg [(44,BL (decide ((l.length:Int)≤(i29:Int)))),(55,_)] G G G .scf ⟨.all id,.part,ø⟩ (fun hc=>J7 G G G G) G,ø⟩ (Gb (u:=BL (((decide ((i29:Int) < (l.length:Int)))&&(!(decide (y29=y34))))||((decide ((l.length:Int)≤(i29:Int)))&&(!(decide (y29=r36)))))) G G ⟨Gh (Z5 G G G G) G,ø⟩ (Rb ?_)))))))
   refine hK33 _ _ (Gp G (fun hb=>?_) (fun hb=>?_))
   ·
    replace h:=Gy hb h
    refine G5 fun K37 hK37=>G3 (JLh (BL false) (G8 G G) G (G9 (hK37 _ _ (Gx (⟨[BL false],[],ø,G,⟨⟨_,G,.conv (.same G)⟩,ø⟩,G,congrArg (fun r:Bool=>(BL r:AV)) (Option.some.inj h)⟩)))))
   ·
    replace h:=Hp hb h
    refine Gq (hK32 _ _ (G3 (JLh (En i29) (G4 G G) G (JLh (G1 ((i29+1:Nat):Int)) (Hj (Hi hk29 hm19) G G G) G (JLh (G1 ((i29+1:Nat):Int)) (G8 G G) G (G9 (e29 _ _ (i29+1) () (app1 hn29 h) (by omega) ⟨⟨.same rfl,.same rfl,.same rfl,ø⟩,ø,rfl⟩)))))))
  ·
   have h:=app1 hkx29 (Hz hi29 (Hg hb))
   refine Hc (hK8 _ _ (G5 fun K38 hK38=>G3 (JLh (BL true) (G8 G G) G (G9 (hK38 _ _ (Gx (⟨[BL true],[],ø,G,⟨⟨_,G,.conv (.same G)⟩,ø⟩,G,congrArg (fun r:Bool=>(BL r:AV)) (Option.some.inj h)⟩)))))))

def Qm (a:List G6) (b:List G6):Option Bool:=
 bif decide ((a.length:Int)≠(b.length:Int)) then
 (some false)
 else
 (each (fun y24 i24 (s24:Unit) nx24=>
   Qe b (i24:Int) fun y29=>
   bif (!decide (y24=y29)) then
   (some false)
   else
   (nx24 ()))
  (fun(s24:Unit)=>
   some true) a 0 ())
theorem G5c (a:List G6) (b:List G6) (r:Bool) (h:Qm a b=some r):Pure Tryz.prog 99 [E1 a,E1 b] (·=BL r):=by
 unfold Qm at h
 refine H1 [.tmp 4] Tryz.func99 G G (G5 fun K1 hK1=>G3 (JLh (BL false) (G8 G G) G (G9 (hK1 _ _ (G5 (fun K2 hK2=>G5 fun K3 hK3=>G3 (JLh (E1 a) (G4 G G) G (H0 (f:=G6.av) (xs:=a) Ha G G (fun hm7=>?_) G G G))))))))
 refine JLh (E1 b) (G4 G G) G (H0 (f:=G6.av) (xs:=b) Ha G G (fun hm9=>?_) G G G)
 refine JLh (BL (decide ((a.length:Int)≠(b.length:Int)))) (G14 G G G) G (G9 (hK3 _ _ (Gp G (fun hb=>?_) (fun hb=>?_))))
 ·
  replace h:=Gy hb h
  refine G5 fun K4 hK4=>G3 (JLh (BL false) (G8 G G) G (G9 (hK4 _ _ (Gx (⟨[BL false],[],ø,G,⟨⟨_,G,.conv (.same G)⟩,ø⟩,G,congrArg (fun r:Bool=>(BL r:AV)) (Option.some.inj h)⟩)))))
 ·
  replace h:=Hp hb h
  refine Gq (hK2 _ _ (G5 (fun K5 hK5=>G5 fun K6 hK6=>G3 (JLh (G1 0) (G8 G G) G (G9 (hK6 _ _ (Gn ?_)))))))
  obtain⟨b24,kx24,hb24,hkx24,h⟩:=J9 h
  refine H7 (fun i24 (s24:Unit)=>each b24 kx24 (List.drop i24 a) i24 s24=some r) (fun i24 s24=>[(0,E1 a),(1,E1 b),(5,En i24)]) (fun i24 s24=>[]) (fun i24=>a.length - i24) 0 () h ⟨⟨.same G,.same G,.same G,ø⟩,ø,G⟩ ?_
  clear h
  intro i24 s24 hi24 K24 e24
  refine G5 (fun K25 hK25=>G5 fun K26 hK26=>G3 (JLh (En i24) (G4 G G) G (JLh (E1 a) (G4 G G) G (H0 (f:=G6.av) (xs:=a) Ha G G (fun hm13=>?_) G G G))))
  refine JLh (BL (decide ((i24:Int) < (a.length:Int)))) (Hx G G G) G (G9 (hK26 _ _ (Gp G (fun hb=>?_) (fun hb=>?_))))
  ·
   have hk24:=Jm hb
   obtain⟨y24,nx24,hy24,hn24,h⟩:=Hy hi24 hk24
   replace h:=Zn hb24 h
   refine Gq (hK25 _ _ (G5 (fun K27 hK27=>Gn (G5 (fun K28 hK28=>?_)))))
   obtain⟨m30,y29,hm30,hy29,h⟩:=Q6 h
   refine Jc [] [0,0,0,0,0,0,0,0,0] [0,0,0,0,0,0,0,0,0] [[]] J3 (by kernel_rfl) rfl rfl ?_
   refine Gb (u:=E1 a) G G ⟨Gh (G4 G G) G,ø⟩ (Gb (u:=En i24) G G ⟨Gh (G4 G G) G,ø⟩ (Gb (u:=.dptr [G1 y24.Load,G1 y24.Discharge]) G G ⟨Gh (Gv (f:=G6.av) (xs:=a) (y:=y24) G G G Ha hy24 G) G,ø⟩ (Gb (u:=.agg [G1 y24.Load,G1 y24.Discharge]) G G ⟨Gh (Gi Ho G G G) G,ø⟩ (Gb (u:=E1 b) G G ⟨Gh (G4 G G) G,ø⟩ (Gb (u:=En i24) G G ⟨Gh (G4 G G) G,ø⟩ (Gb (u:=.dptr [G1 y29.Load,G1 y29.Discharge]) G G ⟨Gh (Gv (f:=G6.av) (xs:=b) (y:=y29) G G G Ha hy29 hm30) G,ø⟩ (Gb (u:=.agg [G1 y29.Load,G1 y29.Discharge]) G G ⟨Gh (Gi Ho G G G) G,ø⟩ (Gb (u:=BL (!decide (y24=y29))) G G ⟨Gh (J66 (vs:=[.int .i64 y24.Load,.int .i64 y24.Discharge]) (us:=[.int .i64 y29.Load,.int .i64 y29.Discharge]) 4 G (J6b y24 y29) G9a Gf4 G G G) G,ø⟩ (Rb ?_)))))))))
   refine hK28 _ _ (Gp G (fun hb=>?_) (fun hb=>?_))
   ·
    replace h:=Gy hb h
    refine G5 fun K31 hK31=>G3 (JLh (BL false) (G8 G G) G (G9 (hK31 _ _ (Gx (⟨[BL false],[],ø,G,⟨⟨_,G,.conv (.same G)⟩,ø⟩,G,congrArg (fun r:Bool=>(BL r:AV)) (Option.some.inj h)⟩)))))
   ·
    replace h:=Hp hb h
    refine Gq (hK27 _ _ (G3 (JLh (En i24) (G4 G G) G (JLh (G1 ((i24+1:Nat):Int)) (Hj (Hi hk24 hm13) G G G) G (JLh (G1 ((i24+1:Nat):Int)) (G8 G G) G (G9 (e24 _ _ (i24+1) () (app1 hn24 h) (by omega) ⟨⟨.same rfl,.same rfl,.same rfl,ø⟩,ø,rfl⟩)))))))
  ·
   have h:=app1 hkx24 (Hz hi24 (Hg hb))
   refine Hc (hK5 _ _ (G5 fun K32 hK32=>G3 (JLh (BL true) (G8 G G) G (G9 (hK32 _ _ (Gx (⟨[BL true],[],ø,G,⟨⟨_,G,.conv (.same G)⟩,ø⟩,G,congrArg (fun r:Bool=>(BL r:AV)) (Option.some.inj h)⟩)))))))

def Y0 (out:Ln (Ln G6)) (l:List (List G6)):Option Bool:=
 bif decide ((out.1.length:Int)≠(l.length:Int)) then
 (some false)
 else
 (Rm ((l.length:Int)+12) fun v6=>
  bnd (G10 v6 (out.1++out.2).length) fun m7=>
  each (fun y33 i33 (s33:Unit) nx33=>
   bnd (bif decide ((i33:Int) < (l.length:Int)) then Qe l (i33:Int) some else some default) fun y38=>
   bnd (bif decide ((i33:Int) < (l.length:Int)) then Rc y33 y38 else some default) fun r39=>
   bnd (bif ((!((decide ((i33:Int) < (l.length:Int)))&&(!r39)))&&(decide ((l.length:Int)≤(i33:Int)))) then Rm ((i33:Int) - (l.length:Int)) some else some 0) fun v40=>
   bnd (bif ((!((decide ((i33:Int) < (l.length:Int)))&&(!r39)))&&(decide ((l.length:Int)≤(i33:Int)))) then Qj 1 v40 else some default) fun r41=>
   bnd (bif ((!((decide ((i33:Int) < (l.length:Int)))&&(!r39)))&&(decide ((l.length:Int)≤(i33:Int)))) then Qm y33.1 r41 else some default) fun r42=>
   bif (((decide ((i33:Int) < (l.length:Int)))&&(!r39))||((decide ((l.length:Int)≤(i33:Int)))&&(!r42))) then
   (some false)
   else
   (nx33 ()))
  (fun(s33:Unit)=>
   some true) ((out.1++out.2).take m7) 0 ())
theorem Gd0 (out:Ln (Ln G6)) (l:List (List G6)) (r:Bool) (h:Y0 out l=some r):Pure Tryz.prog 47 [LT 1 (LT 2 G6.av) out,LS 1 (E1) l] (·=BL r):=by
 unfold Y0 at h
 refine H1 [.tmp 4] Tryz.func47 G G (G5 fun K1 hK1=>G3 (JLh (BL false) (G8 G G) G (G9 (hK1 _ _ (G5 (fun K2 hK2=>G5 fun K3 hK3=>G3 (JLh (LT 1 (LT 2 G6.av) out) (G4 G G) G (H0 (f:=(LT 2 G6.av)) (xs:=out.1) J1 G G (fun hm8=>?_) G G G))))))))
 refine JLh (LS 1 (E1) l) (G4 G G) G (H0 (f:=(E1)) (xs:=l) J1 G G (fun hm10=>?_) G G G)
 refine JLh (BL (decide ((out.1.length:Int)≠(l.length:Int)))) (G14 G G G) G (G9 (hK3 _ _ (Gp G (fun hb=>?_) (fun hb=>?_))))
 ·
  replace h:=Gy hb h
  refine G5 fun K4 hK4=>G3 (JLh (BL false) (G8 G G) G (G9 (hK4 _ _ (Gx (⟨[BL false],[],ø,G,⟨⟨_,G,.conv (.same G)⟩,ø⟩,G,congrArg (fun r:Bool=>(BL r:AV)) (Option.some.inj h)⟩)))))
 ·
  replace h:=Hp hb h
  refine Gq (hK2 _ _ (G5 fun K5 hK5=>G3 (JLh (LT 1 (LT 2 G6.av) out) (G4 G G) G (JLh (LS 1 (E1) l) (G4 G G) G (H0 (f:=(E1)) (xs:=l) J1 G G (fun hm14=>?_) G G G)))))
  obtain⟨v6,hv6,h⟩:=Hf h
  refine JLh (G1 v6) (Hj hv6 G G G) G ?_
  obtain⟨m7,hm7,h⟩:=Gf h
  refine JLh (LS 1 (LT 2 G6.av) ((out.1++out.2).take m7)) (Gf3 (f:=(LT 2 G6.av)) (e:=out) G G G J1 (Qn hm7)) G (JLh (LS 1 (LT 2 G6.av) ((out.1++out.2).take m7)) (G8 G G) G (G9 (hK5 _ _ (G5 (fun K8 hK8=>G5 fun K9 hK9=>G3 (JLh (G1 0) (G8 G G) G (G9 (hK9 _ _ (Gn ?_)))))))))
  obtain⟨b33,kx33,hb33,hkx33,h⟩:=J9 h
  refine H7 (fun i33 (s33:Unit)=>each b33 kx33 (List.drop i33 ((out.1++out.2).take m7)) i33 s33=some r) (fun i33 s33=>[(1,LS 1 (E1) l),(5,LS 1 (LT 2 G6.av) ((out.1++out.2).take m7)),(6,En i33)]) (fun i33 s33=>[]) (fun i33=>((out.1++out.2).take m7).length - i33) 0 () h ⟨⟨.same G,.same G,.same G,ø⟩,ø,G⟩ ?_
  clear h
  intro i33 s33 hi33 K33 e33
  refine G5 (fun K34 hK34=>G5 fun K35 hK35=>G3 (JLh (En i33) (G4 G G) G (JLh (LS 1 (LT 2 G6.av) ((out.1++out.2).take m7)) (G4 G G) G (H0 (f:=(LT 2 G6.av)) (xs:=((out.1++out.2).take m7)) J1 G G (fun hm19=>?_) G G G))))
  refine JLh (BL (decide ((i33:Int) < (((out.1++out.2).take m7).length:Int)))) (Hx G G G) G (G9 (hK35 _ _ (Gp G (fun hb=>?_) (fun hb=>?_))))
  ·
   have hk33:=Jm hb
   obtain⟨y33,nx33,hy33,hn33,h⟩:=Hy hi33 hk33
   replace h:=Zn hb33 h
   refine Gq (hK34 _ _ (G5 (fun K36 hK36=>Gn (G5 (fun K37 hK37=>?_)))))
   obtain⟨y38,hy38,h⟩:=Gf h
   obtain⟨r39,hr39,h⟩:=Gf h
   obtain⟨v40,hv40,h⟩:=Gf h
   obtain⟨r41,hr41,h⟩:=Gf h
   obtain⟨r42,hr42,h⟩:=Gf h
   refine Jc [] [0,0,0,0,0,0,0,0,0,0,0,0,0,0,0,0,0,0,0,0,0,0,0,0,0,0,0,0,0,0,0,0,0,0,0] [0,0,0,0,0,0,0,0,0,0,0,0,0,0,0,0,0,0,0,0,0,0,0,0,0,0,0,0,0,0,0,0,0,0,0] [[]] J3 (by kernel_rfl) rfl rfl ?_
   refine Gb (u:=En i33) G G ⟨Gh (G4 G G) G,ø⟩ (Gb (u:=LS 1 (E1) l) G G ⟨Gh (G4 G G) G,ø⟩ (Gb (u:=En l.length) G G ⟨Gh (Jp (f:=(E1)) (xs:=l) J1 G G) G,ø⟩ (Gb (u:=BL (decide ((i33:Int) < (l.length:Int)))) G G ⟨Gh (Hx G G G) G,ø⟩ (Gb (u:=BL (decide ((i33:Int) < (l.length:Int)))) G G ⟨Gh (G4 G G) G,ø⟩ (Gb (u:=.opt (decide ((i33:Int) < (l.length:Int))) (LS 1 (LT 2 G6.av) ((out.1++out.2).take m7))) G G ⟨Gg [] G G G .sct ø (fun hc=>G4 G G) G,ø⟩ (Gb (u:=.opt (decide ((i33:Int) < (l.length:Int))) (En i33)) G G ⟨Gg [] G G G .sct ø (fun hc=>G4 G G) G,ø⟩ (Gb (u:=.opt (decide ((i33:Int) < (l.length:Int))) (.dptr [LT 2 G6.av y33])) G G ⟨Gg [(28,LS 1 (LT 2 G6.av) ((out.1++out.2).take m7)),(29,En i33)] G G G .sct ⟨.all id,.all id,ø⟩ (fun hc=>Gv (f:=(LT 2 G6.av)) (xs:=((out.1++out.2).take m7)) (y:=y33) G G G J1 hy33 G) G,ø⟩ (Gb (u:=.opt (decide ((i33:Int) < (l.length:Int))) (LT 2 G6.av y33)) G G ⟨Gg [(30,.dptr [LT 2 G6.av y33])] G G G .sct ⟨.all id,ø⟩ (fun hc=>Gk Rv G G G) G,ø⟩ (Gb (u:=.opt (decide ((i33:Int) < (l.length:Int))) (LS 1 (E1) l)) G G ⟨Gg [] G G G .sct ø (fun hc=>G4 G G) G,ø⟩ (Gb (u:=.opt (decide ((i33:Int) < (l.length:Int))) (En i33)) G G ⟨Gg [] G G G .sct ø (fun hc=>G4 G G) G,ø⟩ (Gb (u:=.opt (decide ((i33:Int) < (l.length:Int))) (.dptr [E1 y38])) G G ⟨Gg [(32,LS 1 (E1) l),(33,En i33)] G G G .sct ⟨.all id,.all id,ø⟩ (fun hc=>(match Q2 (Gy hc hy38) with | ⟨_,hm_,hy_⟩=>Gv (f:=(E1)) (xs:=l) (y:=y38) G G G J1 hy_ hm_)) G,ø⟩ (Gb (u:=.opt (decide ((i33:Int) < (l.length:Int))) (E1 y38)) G G ⟨Gg [(34,.dptr [E1 y38])] G G G .sct ⟨.all id,ø⟩ (fun hc=>Gk Rv G G G) G,ø⟩ (Gb (u:=.opt (decide ((i33:Int) < (l.length:Int))) (BL r39)) G G ⟨Gg [(31,LT 2 G6.av y33),(35,E1 y38)] G G G .sct ⟨.all id,.all id,ø⟩ (fun hc=>Gs (args:=[LT 2 G6.av y33,E1 y38]) G (Gee y33 y38 r39 (Gy hc hr39)) Je5 ⟨G,G,G,G,ø⟩) G,ø⟩ ?_)))))))))))))
   refine Gb (u:=.opt (decide ((i33:Int) < (l.length:Int))) (BL (!r39))) G G ⟨Gg [(36,BL r39)] G G G .sct ⟨.all id,ø⟩ (fun hc=>Yu (b:=r39) G G) G,ø⟩ (Gb (u:=BL ((decide ((i33:Int) < (l.length:Int)))&&(!r39))) G G ⟨Gh (J7 G G G G) G,ø⟩ (Gb (u:=BL ((decide ((i33:Int) < (l.length:Int)))&&(!r39))) G G ⟨Gh (G4 G G) G,ø⟩ (Gb (u:=.opt (!((decide ((i33:Int) < (l.length:Int)))&&(!r39))) (En i33)) G G ⟨Gg [] G G G .scf ø (fun hc=>G4 G G) G,ø⟩ (Gb (u:=.opt (!((decide ((i33:Int) < (l.length:Int)))&&(!r39))) (LS 1 (E1) l)) G G ⟨Gg [] G G G .scf ø (fun hc=>G4 G G) G,ø⟩ (Gb (u:=.opt (!((decide ((i33:Int) < (l.length:Int)))&&(!r39))) (En l.length)) G G ⟨Gg [(41,LS 1 (E1) l)] G G G .scf ⟨.all id,ø⟩ (fun hc=>Jp (f:=(E1)) (xs:=l) J1 G G) G,ø⟩ (Gb (u:=.opt (!((decide ((i33:Int) < (l.length:Int)))&&(!r39))) (BL (decide ((l.length:Int)≤(i33:Int))))) G G ⟨Gg [(40,En i33),(42,En l.length)] G G G .scf ⟨.all id,.all id,ø⟩ (fun hc=>G28 G G G) G,ø⟩ (Gb (u:=.opt (!((decide ((i33:Int) < (l.length:Int)))&&(!r39))) (BL (decide ((l.length:Int)≤(i33:Int))))) G G ⟨Gg [(43,BL (decide ((l.length:Int)≤(i33:Int))))] G G G .scf ⟨.all id,ø⟩ (fun hc=>G4 G G) G,ø⟩ (Gb (u:=.opt ((!((decide ((i33:Int) < (l.length:Int)))&&(!r39)))&&(decide ((l.length:Int)≤(i33:Int)))) (LS 1 (LT 2 G6.av) ((out.1++out.2).take m7))) G G ⟨Gg [] G G G .optt ø (fun hc=>G4 G G) G,ø⟩ (Gb (u:=.opt ((!((decide ((i33:Int) < (l.length:Int)))&&(!r39)))&&(decide ((l.length:Int)≤(i33:Int)))) (En i33)) G G ⟨Gg [] G G G .optt ø (fun hc=>G4 G G) G,ø⟩ (Gb (u:=.opt ((!((decide ((i33:Int) < (l.length:Int)))&&(!r39)))&&(decide ((l.length:Int)≤(i33:Int)))) (.dptr [LT 2 G6.av y33])) G G ⟨Gg [(45,LS 1 (LT 2 G6.av) ((out.1++out.2).take m7)),(46,En i33)] G G G .optt ⟨.all id,.all id,ø⟩ (fun hc=>Gv (f:=(LT 2 G6.av)) (xs:=((out.1++out.2).take m7)) (y:=y33) G G G J1 hy33 G) G,ø⟩ (Gb (u:=.opt ((!((decide ((i33:Int) < (l.length:Int)))&&(!r39)))&&(decide ((l.length:Int)≤(i33:Int)))) (E1 y33.1)) G G ⟨Gg [(47,.dptr [LT 2 G6.av y33])] G G G .optt ⟨.all id,ø⟩ (fun hc=>H2.cv (Cv.lst0 y33) (Gk Rv G G G)) G,ø⟩ (Gb (u:=.opt ((!((decide ((i33:Int) < (l.length:Int)))&&(!r39)))&&(decide ((l.length:Int)≤(i33:Int)))) (En i33)) G G ⟨Gg [] G G G .optt ø (fun hc=>G4 G G) G,ø⟩ (Gb (u:=.opt ((!((decide ((i33:Int) < (l.length:Int)))&&(!r39)))&&(decide ((l.length:Int)≤(i33:Int)))) (LS 1 (E1) l)) G G ⟨Gg [] G G G .optt ø (fun hc=>G4 G G) G,ø⟩ ?_)))))))))))))
   refine Gb (u:=.opt ((!((decide ((i33:Int) < (l.length:Int)))&&(!r39)))&&(decide ((l.length:Int)≤(i33:Int)))) (En l.length)) G G ⟨Gg [(50,LS 1 (E1) l)] G G G .optt ⟨.all id,ø⟩ (fun hc=>Jp (f:=(E1)) (xs:=l) J1 G G) G,ø⟩ (Gb (u:=.opt ((!((decide ((i33:Int) < (l.length:Int)))&&(!r39)))&&(decide ((l.length:Int)≤(i33:Int)))) (G1 v40)) G G ⟨Gg [(49,En i33),(51,En l.length)] G G G .optt ⟨.all id,.all id,ø⟩ (fun hc=>G1e (G02 (Gy hc hv40)) G G G) G,ø⟩ (Gb (u:=.opt ((!((decide ((i33:Int) < (l.length:Int)))&&(!r39)))&&(decide ((l.length:Int)≤(i33:Int)))) (E1 r41)) G G ⟨Gg [(52,G1 v40)] G G G .optt ⟨.all id,ø⟩ (fun hc=>Gs (args:=[G1 1,G1 v40]) G (G5a 1 v40 r41 (Gy hc hr41)) J35 ⟨G,G,G,G,ø⟩) G,ø⟩ (Gb (u:=.opt ((!((decide ((i33:Int) < (l.length:Int)))&&(!r39)))&&(decide ((l.length:Int)≤(i33:Int)))) (BL r42)) G G ⟨Gg [(48,E1 y33.1),(53,E1 r41)] G G G .optt ⟨.all id,.all id,ø⟩ (fun hc=>Gs (args:=[E1 y33.1,E1 r41]) G (G5c y33.1 r41 r42 (Gy hc hr42)) J72 ⟨G,G,G,G,ø⟩) G,ø⟩ (Gb (u:=.opt ((!((decide ((i33:Int) < (l.length:Int)))&&(!r39)))&&(decide ((l.length:Int)≤(i33:Int)))) (BL (!r42))) G G ⟨Gg [(54,BL r42)] G G G .optt ⟨.all id,ø⟩ (fun hc=>Yu (b:=r42) G G) G,ø⟩ (Gb (u:=.opt (!((decide ((i33:Int) < (l.length:Int)))&&(!r39))) (BL ((decide ((l.length:Int)≤(i33:Int)))&&(!r42)))) G G ⟨Gg [(44,BL (decide ((l.length:Int)≤(i33:Int)))),(55,_)] G G G .scf ⟨.all id,.part,ø⟩ (fun hc=>J7 G G G G) G,ø⟩ (Gb (u:=BL (((decide ((i33:Int) < (l.length:Int)))&&(!r39))||((decide ((l.length:Int)≤(i33:Int)))&&(!r42)))) G G ⟨Gh (Z5 G G G G) G,ø⟩ (Rb ?_)))))))
   refine hK37 _ _ (Gp G (fun hb=>?_) (fun hb=>?_))
   ·
    replace h:=Gy hb h
    refine G5 fun K43 hK43=>G3 (JLh (BL false) (G8 G G) G (G9 (hK43 _ _ (Gx (⟨[BL false],[],ø,G,⟨⟨_,G,.conv (.same G)⟩,ø⟩,G,congrArg (fun r:Bool=>(BL r:AV)) (Option.some.inj h)⟩)))))
   ·
    replace h:=Hp hb h
    refine Gq (hK36 _ _ (G3 (JLh (En i33) (G4 G G) G (JLh (G1 ((i33+1:Nat):Int)) (Hj (Hi hk33 hm19) G G G) G (JLh (G1 ((i33+1:Nat):Int)) (G8 G G) G (G9 (e33 _ _ (i33+1) () (app1 hn33 h) (by omega) ⟨⟨.same rfl,.same rfl,.same rfl,ø⟩,ø,rfl⟩)))))))
  ·
   have h:=app1 hkx33 (Hz hi33 (Hg hb))
   refine Hc (hK8 _ _ (G5 fun K44 hK44=>G3 (JLh (BL true) (G8 G G) G (G9 (hK44 _ _ (Gx (⟨[BL true],[],ø,G,⟨⟨_,G,.conv (.same G)⟩,ø⟩,G,congrArg (fun r:Bool=>(BL r:AV)) (Option.some.inj h)⟩)))))))
end
end Go.Proofs.YtfkilljboodoaaaGreat
