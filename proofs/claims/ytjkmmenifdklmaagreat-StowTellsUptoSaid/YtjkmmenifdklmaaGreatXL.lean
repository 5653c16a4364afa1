/-
 Models of functions of the program,and that they return what the models say.
-/
import Derived.Test.YtjkmmenifdklmaaGreatXLa
set_option maxRecDepth 100000
set_option linter.unusedVariables false
set_option linter.unusedSimpArgs false
namespace Go.Proofs.YtjkmmenifdklmaaGreat
open Go.RowKit
noncomputable section
open XAF
open XLF

def R1 (out:Ln H7) (l:List Gc):Option Bool:=
 bif decide ((out.1.length:Int)≠(l.length:Int)) then
 (some false)
 else
 (G1f ((l.length:Int)+12) fun v6=>
  bnd (G36 v6 (out.1++out.2).length) fun m7=>
  each (fun y33 i33 (s33:Unit) nx33=>
   bnd (bif decide ((i33:Int) < (l.length:Int)) then Qm l (i33:Int) some else some default) fun y38=>
   bnd (bif decide ((i33:Int) < (l.length:Int)) then R8 y33 y38 else some default) fun r39=>
   bnd (bif ((!((decide ((i33:Int) < (l.length:Int)))&&(!r39)))&&(decide ((l.length:Int)≤(i33:Int)))) then G1f ((i33:Int) - (l.length:Int)) some else some 0) fun v40=>
   bnd (bif ((!((decide ((i33:Int) < (l.length:Int)))&&(!r39)))&&(decide ((l.length:Int)≤(i33:Int)))) then Qo 1 v40 else some default) fun r41=>
   bnd (bif ((!((decide ((i33:Int) < (l.length:Int)))&&(!r39)))&&(decide ((l.length:Int)≤(i33:Int)))) then Jp (Gc.mk y33.Bay y33.Rows.1) r41 else some default) fun r42=>
   bif (((decide ((i33:Int) < (l.length:Int)))&&(!r39))||((decide ((l.length:Int)≤(i33:Int)))&&(!r42))) then
   (some false)
   else
   (nx33 ()))
  (fun(s33:Unit)=>
   some true) ((out.1++out.2).take m7) 0 ())
theorem Gf3 (out:Ln H7) (l:List Gc) (r:Bool) (h:R1 out l=some r):Pure Eh 77 [LT 2 H7.av out,E3 l] (·=BL r):=by
 unfold R1 at h
 refine Gy [.tmp 4] Tryz.func77 O O (Jr fun hK1=>(Yy (BL false) O (G7 (hK1 (Js fun hK2=>Jr fun hK3=>(Yy (LT 2 H7.av out) O (JLl Hh O O O fun hm8=>(Yy (E3 l) O (JLl Hh O O O fun hm10=>(JLh (BL (decide ((out.1.length:Int)≠(l.length:Int)))) (G3d O O O) O (G7 (hK3 (JCc O h (fun h hb=>?_) (fun h hb=>?_))))))))))))))
 ·
  refine Jr fun hK4=>(Yy (BL false) O (G7 (hK4 (Gr (fin1 BL h)))))
 ·
  refine Gp (hK2 (Jr fun hK5=>(Yy (LT 2 H7.av out) O (Yy (E3 l) O (JLl Hh O O O fun hm14=>?_)))))
  obtain⟨v6,hv6,h⟩:=Qq h
  refine JLh (G0 v6) (Hs hv6 O O O) O ?_
  obtain⟨m7,hm7,h⟩:=Ge h
  refine JLh (LS 2 H7.av ((out.1++out.2).take m7)) (H38 (f:=H7.av) (e:=out) O O O Hh (Yo hm7)) O (Yy (LS 2 H7.av ((out.1++out.2).take m7)) O (G7 (hK5 (Js fun hK8=>Jr fun hK9=>(Yy (G0 0) O (G7 (hK9 (Gs ?_))))))))
  obtain⟨b33,kx33,hb33,hkx33,h⟩:=J5 h
  refine Hc (fun i33 (s33:Unit)=>each b33 kx33 (List.drop i33 ((out.1++out.2).take m7)) i33 s33=some r) (fun i33 s33=>[(1,E3 l),(5,LS 2 H7.av ((out.1++out.2).take m7)),(6,Eg i33)]) (fun i33 s33=>[]) (fun i33=>((out.1++out.2).take m7).length - i33) 0 () h ⟨⟨.same O,.same O,.same O,G⟩,G,O⟩ ?_
  clear h
  intro i33 s33 hi33 K33 e33
  refine Js fun hK34=>Jr fun hK35=>(Yy (Eg i33) O (Yy (LS 2 H7.av ((out.1++out.2).take m7)) O (JLl Hh O O O fun hm19=>(JLh (BL (decide ((i33:Int) < (((out.1++out.2).take m7).length:Int)))) (J4 O O O) O (G7 (hK35 (Gk O (fun hb=>?_) (fun hb=>?_))))))))
  ·
   have hk33:=Jj hb
   obtain⟨y33,nx33,hy33,hn33,h⟩:=Hq hi33 hk33
   replace h:=Z1 hb33 h
   refine Gp (hK34 (Js fun hK36=>Gs (Js fun hK37=>?_)))
   obtain⟨y38,hy38,h⟩:=Ge h
   obtain⟨r39,hr39,h⟩:=Ge h
   obtain⟨v40,hv40,h⟩:=Ge h
   obtain⟨r41,hr41,h⟩:=Ge h
   obtain⟨r42,hr42,h⟩:=Ge h
   refine JC_d0 J8 (by kernel_rfl) (Dq (Eg i33) (G5 O O) O (Dq (E3 l) (G5 O O) O (Dq (Eg l.length) (Qi (f:=Gc.av) (xs:=l) Hh O O) O (Dq (BL (decide ((i33:Int) < (l.length:Int)))) (J4 O O O) O (Dq (BL (decide ((i33:Int) < (l.length:Int)))) (G5 O O) O (Do (LS 2 H7.av ((out.1++out.2).take m7)) [] O .sct G (fun hc=>G5 O O) O (Do (Eg i33) [] O .sct G (fun hc=>G5 O O) O (Do (.dptr [G0 y33.Bay,LT 1 G0 y33.Rows]) [28,29] O .sct ⟨Ua,Ua,G⟩ (fun hc=>Gv (f:=H7.av) (xs:=((out.1++out.2).take m7)) (y:=y33) O O O Hh hy33 O) O (Do (.agg [G0 y33.Bay,LT 1 G0 y33.Rows]) [30] O .sct ⟨Ua,G⟩ (fun hc=>Gi Rs O O O) O (Do (E3 l) [] O .sct G (fun hc=>G5 O O) O (Do (Eg i33) [] O .sct G (fun hc=>G5 O O) O (Do (.dptr [G0 y38.Bay,E0 y38.Rows]) [32,33] O .sct ⟨Ua,Ua,G⟩ (fun hc=>(match Q3 (Gx hc hy38) with | ⟨_,hm_,hy_⟩=>Gv (f:=Gc.av) (xs:=l) (y:=y38) O O O Hh hy_ hm_)) O (Do (.agg [G0 y38.Bay,E0 y38.Rows]) [34] O .sct ⟨Ua,G⟩ (fun hc=>Gi Rs O O O) O ?_)))))))))))))
   refine Do (BL r39) [31,35] O .sct ⟨Ua,Ua,G⟩ (fun hc=>Gn (args:=[.agg [G0 y33.Bay,LT 1 G0 y33.Rows],.agg [G0 y38.Bay,E0 y38.Rows]]) O (H14 y33 y38 r39 (Gx hc hr39)) Q0a ⟨O,O,O,O,G⟩) O (Do (BL (!r39)) [36] O .sct ⟨Ua,G⟩ (fun hc=>R5 (b:=r39) O O) O (Dq (BL ((decide ((i33:Int) < (l.length:Int)))&&(!r39))) (Hx O O O O) O (Dq (BL ((decide ((i33:Int) < (l.length:Int)))&&(!r39))) (G5 O O) O (Do (Eg i33) [] O .scf G (fun hc=>G5 O O) O (Do (E3 l) [] O .scf G (fun hc=>G5 O O) O (Do (Eg l.length) [41] O .scf ⟨Ua,G⟩ (fun hc=>Qi (f:=Gc.av) (xs:=l) Hh O O) O (Do (BL (decide ((l.length:Int)≤(i33:Int)))) [40,42] O .scf ⟨Ua,Ua,G⟩ (fun hc=>G17 O O O) O (Do (BL (decide ((l.length:Int)≤(i33:Int)))) [43] O .scf ⟨Ua,G⟩ (fun hc=>G5 O O) O (Do (LS 2 H7.av ((out.1++out.2).take m7)) [] O .optt G (fun hc=>G5 O O) O (Do (Eg i33) [] O .optt G (fun hc=>G5 O O) O (Do (.dptr [G0 y33.Bay,LT 1 G0 y33.Rows]) [45,46] O .optt ⟨Ua,Ua,G⟩ (fun hc=>Gv (f:=H7.av) (xs:=((out.1++out.2).take m7)) (y:=y33) O O O Hh hy33 O) O (Do (.agg [G0 y33.Bay,E0 y33.Rows.1]) [47] O .optt ⟨Ua,G⟩ (fun hc=>H1.cv (Cv.aggL (cs:=[G0 y33.Bay,LT 1 G0 y33.Rows]) ⟨.same,Cv.lst0 y33.Rows,G⟩) (Gi Rs O O O)) O (Do (Eg i33) [] O .optt G (fun hc=>G5 O O) O ?_)))))))))))))
   refine Do (E3 l) [] O .optt G (fun hc=>G5 O O) O (Do (Eg l.length) [50] O .optt ⟨Ua,G⟩ (fun hc=>Qi (f:=Gc.av) (xs:=l) Hh O O) O (Do (G0 v40) [49,51] O .optt ⟨Ua,Ua,G⟩ (fun hc=>Gaf (Z7 (Gx hc hv40)) O O O) O (Do (.agg [G0 r41.Bay,E0 r41.Rows]) [52] O .optt ⟨Ua,G⟩ (fun hc=>Gn (args:=[G0 1,G0 v40]) O (G61 1 v40 r41 (Gx hc hr41)) J8a ⟨O,O,O,O,G⟩) O (Do (BL r42) [48,53] O .optt ⟨Ua,Ua,G⟩ (fun hc=>Gn (args:=[.agg [G0 y33.Bay,E0 y33.Rows.1],.agg [G0 r41.Bay,E0 r41.Rows]]) O (G1b (Gc.mk y33.Bay y33.Rows.1) r41 r42 (Gx hc hr42)) H8f ⟨O,O,O,O,G⟩) O (Do (BL (!r42)) [54] O .optt ⟨Ua,G⟩ (fun hc=>R5 (b:=r42) O O) O (Dg (.opt (!((decide ((i33:Int) < (l.length:Int)))&&(!r39))) (BL ((decide ((l.length:Int)≤(i33:Int)))&&(!r42)))) (Gf [(44,BL (decide ((l.length:Int)≤(i33:Int)))),(55,_)] O O O .scf ⟨.all id,.part,G⟩ (fun hc=>Hx O O O O) O) O (Dq (BL (((decide ((i33:Int) < (l.length:Int)))&&(!r39))||((decide ((l.length:Int)≤(i33:Int)))&&(!r42)))) (Yi O O O O) O (Dnil ?_))))))))
   refine hK37 (JCc O h (fun h hb=>?_) (fun h hb=>?_))
   ·
    refine Jr fun hK43=>(Yy (BL false) O (G7 (hK43 (Gr (fin1 BL h)))))
   ·
    refine Gp (hK36 (G3 (Yy (Eg i33) O (JLh (G0 ((i33+1:Nat):Int)) (Hs (He hk33 hm19) O O O) O (Yy (G0 ((i33+1:Nat):Int)) O (G7 (e33 _ _ (i33+1) () (app1 hn33 h) (by omega) ⟨⟨.same rfl,.same rfl,.same rfl,G⟩,G,rfl⟩)))))))
  ·
   have h:=app1 hkx33 (Hr hi33 (Ha hb))
   refine Hi (hK8 (Jr fun hK44=>(Yy (BL true) O (G7 (hK44 (Gr (fin1 BL h)))))))

def Ri (out:Ln Row) (l:List Row):Option Bool:=
 bif decide ((out.1.length:Int)≠(l.length:Int)) then
 (some false)
 else
 (G1f ((l.length:Int)+12) fun v6=>
  bnd (G36 v6 (out.1++out.2).length) fun m7=>
  each (fun y29 i29 (s29:Unit) nx29=>
   bnd (bif decide ((i29:Int) < (l.length:Int)) then Qm l (i29:Int) some else some default) fun y34=>
   bnd (bif ((!((decide ((i29:Int) < (l.length:Int)))&&(!(decide (y29=y34)))))&&(decide ((l.length:Int)≤(i29:Int)))) then G1f ((i29:Int) - (l.length:Int)) some else some 0) fun v35=>
   bnd (bif ((!((decide ((i29:Int) < (l.length:Int)))&&(!(decide (y29=y34)))))&&(decide ((l.length:Int)≤(i29:Int)))) then R3 1 v35 else some default) fun r36=>
   bif (((decide ((i29:Int) < (l.length:Int)))&&(!(decide (y29=y34))))||((decide ((l.length:Int)≤(i29:Int)))&&(!(decide (y29=r36))))) then
   (some false)
   else
   (nx29 ()))
  (fun(s29:Unit)=>
   some true) ((out.1++out.2).take m7) 0 ())
theorem H27 (out:Ln Row) (l:List Row) (r:Bool) (h:Ri out l=some r):Pure Eh 78 [LT 5 Row.av out,E6 l] (·=BL r):=by
 unfold Ri at h
 refine Gy [.tmp 4] Tryz.func78 O O (Jr fun hK1=>(Yy (BL false) O (G7 (hK1 (Js fun hK2=>Jr fun hK3=>(Yy (LT 5 Row.av out) O (JLl Q0 O O O fun hm8=>(Yy (E6 l) O (JLl Q0 O O O fun hm10=>(JLh (BL (decide ((out.1.length:Int)≠(l.length:Int)))) (G3d O O O) O (G7 (hK3 (JCc O h (fun h hb=>?_) (fun h hb=>?_))))))))))))))
 ·
  refine Jr fun hK4=>(Yy (BL false) O (G7 (hK4 (Gr (fin1 BL h)))))
 ·
  refine Gp (hK2 (Jr fun hK5=>(Yy (LT 5 Row.av out) O (Yy (E6 l) O (JLl Q0 O O O fun hm14=>?_)))))
  obtain⟨v6,hv6,h⟩:=Qq h
  refine JLh (G0 v6) (Hs hv6 O O O) O ?_
  obtain⟨m7,hm7,h⟩:=Ge h
  refine JLh (E6 ((out.1++out.2).take m7)) (H38 (f:=Row.av) (e:=out) O O O Q0 (Yo hm7)) O (Yy (E6 ((out.1++out.2).take m7)) O (G7 (hK5 (Js fun hK8=>Jr fun hK9=>(Yy (G0 0) O (G7 (hK9 (Gs ?_))))))))
  obtain⟨b29,kx29,hb29,hkx29,h⟩:=J5 h
  refine Hc (fun i29 (s29:Unit)=>each b29 kx29 (List.drop i29 ((out.1++out.2).take m7)) i29 s29=some r) (fun i29 s29=>[(1,E6 l),(5,E6 ((out.1++out.2).take m7)),(6,Eg i29)]) (fun i29 s29=>[]) (fun i29=>((out.1++out.2).take m7).length - i29) 0 () h ⟨⟨.same O,.same O,.same O,G⟩,G,O⟩ ?_
  clear h
  intro i29 s29 hi29 K29 e29
  refine Js fun hK30=>Jr fun hK31=>(Yy (Eg i29) O (Yy (E6 ((out.1++out.2).take m7)) O (JLl Q0 O O O fun hm19=>(JLh (BL (decide ((i29:Int) < (((out.1++out.2).take m7).length:Int)))) (J4 O O O) O (G7 (hK31 (Gk O (fun hb=>?_) (fun hb=>?_))))))))
  ·
   have hk29:=Jj hb
   obtain⟨y29,nx29,hy29,hn29,h⟩:=Hq hi29 hk29
   replace h:=Z1 hb29 h
   refine Gp (hK30 (Js fun hK32=>Gs (Js fun hK33=>?_)))
   obtain⟨y34,hy34,h⟩:=Ge h
   obtain⟨v35,hv35,h⟩:=Ge h
   obtain⟨r36,hr36,h⟩:=Ge h
   refine JC_d0 J8 (by kernel_rfl) (Dq (Eg i29) (G5 O O) O (Dq (E6 l) (G5 O O) O (Dq (Eg l.length) (Qi (f:=Row.av) (xs:=l) Q0 O O) O (Dq (BL (decide ((i29:Int) < (l.length:Int)))) (J4 O O O) O (Dq (BL (decide ((i29:Int) < (l.length:Int)))) (G5 O O) O (Do (E6 ((out.1++out.2).take m7)) [] O .sct G (fun hc=>G5 O O) O (Do (Eg i29) [] O .sct G (fun hc=>G5 O O) O (Do (.dptr (Row.cs y29)) [28,29] O .sct ⟨Ua,Ua,G⟩ (fun hc=>Gv (f:=Row.av) (xs:=((out.1++out.2).take m7)) (y:=y29) O O O Q0 hy29 O) O (Do (.agg (Row.cs y29)) [30] O .sct ⟨Ua,G⟩ (fun hc=>Gi Gba O O O) O (Do (E6 l) [] O .sct G (fun hc=>G5 O O) O (Do (Eg i29) [] O .sct G (fun hc=>G5 O O) O (Do (.dptr (Row.cs y34)) [32,33] O .sct ⟨Ua,Ua,G⟩ (fun hc=>(match Q3 (Gx hc hy34) with | ⟨_,hm_,hy_⟩=>Gv (f:=Row.av) (xs:=l) (y:=y34) O O O Q0 hy_ hm_)) O (Do (.agg (Row.cs y34)) [34] O .sct ⟨Ua,G⟩ (fun hc=>Gi Gba O O O) O ?_)))))))))))))
   refine Do (BL (decide (y29=y34))) [31,35] O .sct ⟨Ua,Ua,G⟩ (fun hc=>Gb1 (vs:=[.int .i64 y29.Draught,.int .i64 y29.Kilos,.int .i64 y29.Buoy,.int .i64 y29.Metacentre,.int .i64 y29.Ha8]) (us:=[.int .i64 y34.Draught,.int .i64 y34.Kilos,.int .i64 y34.Buoy,.int .i64 y34.Metacentre,.int .i64 y34.Ha8]) 4 O (tq_130 y29 y34) H69 Hda O O O) O (Do (BL (!(decide (y29=y34)))) [36] O .sct ⟨Ua,G⟩ (fun hc=>R5 (b:=decide (y29=y34)) O O) O (Dq (BL ((decide ((i29:Int) < (l.length:Int)))&&(!(decide (y29=y34))))) (Hx O O O O) O (Dq (BL ((decide ((i29:Int) < (l.length:Int)))&&(!(decide (y29=y34))))) (G5 O O) O (Do (Eg i29) [] O .scf G (fun hc=>G5 O O) O (Do (E6 l) [] O .scf G (fun hc=>G5 O O) O (Do (Eg l.length) [41] O .scf ⟨Ua,G⟩ (fun hc=>Qi (f:=Row.av) (xs:=l) Q0 O O) O (Do (BL (decide ((l.length:Int)≤(i29:Int)))) [40,42] O .scf ⟨Ua,Ua,G⟩ (fun hc=>G17 O O O) O (Do (BL (decide ((l.length:Int)≤(i29:Int)))) [43] O .scf ⟨Ua,G⟩ (fun hc=>G5 O O) O (Do (E6 ((out.1++out.2).take m7)) [] O .optt G (fun hc=>G5 O O) O (Do (Eg i29) [] O .optt G (fun hc=>G5 O O) O (Do (.dptr (Row.cs y29)) [45,46] O .optt ⟨Ua,Ua,G⟩ (fun hc=>Gv (f:=Row.av) (xs:=((out.1++out.2).take m7)) (y:=y29) O O O Q0 hy29 O) O (Do (.agg (Row.cs y29)) [47] O .optt ⟨Ua,G⟩ (fun hc=>Gi Gba O O O) O (Do (Eg i29) [] O .optt G (fun hc=>G5 O O) O ?_)))))))))))))
   refine Do (E6 l) [] O .optt G (fun hc=>G5 O O) O (Do (Eg l.length) [50] O .optt ⟨Ua,G⟩ (fun hc=>Qi (f:=Row.av) (xs:=l) Q0 O O) O (Do (G0 v35) [49,51] O .optt ⟨Ua,Ua,G⟩ (fun hc=>Gaf (Z7 (Gx hc hv35)) O O O) O (Do (.agg (Row.cs r36)) [52] O .optt ⟨Ua,G⟩ (fun hc=>Gn (args:=[G0 1,G0 v35]) O (G84 1 v35 r36 (Gx hc hr36)) J89 ⟨O,O,O,O,G⟩) O (Do (BL (decide (y29=r36))) [48,53] O .optt ⟨Ua,Ua,G⟩ (fun hc=>Gb1 (vs:=[.int .i64 y29.Draught,.int .i64 y29.Kilos,.int .i64 y29.Buoy,.int .i64 y29.Metacentre,.int .i64 y29.Ha8]) (us:=[.int .i64 r36.Draught,.int .i64 r36.Kilos,.int .i64 r36.Buoy,.int .i64 r36.Metacentre,.int .i64 r36.Ha8]) 4 O (tq_130 y29 r36) H69 Hda O O O) O (Do (BL (!(decide (y29=r36)))) [54] O .optt ⟨Ua,G⟩ (fun hc=>R5 (b:=decide (y29=r36)) O O) O (Dg (.opt (!((decide ((i29:Int) < (l.length:Int)))&&(!(decide (y29=y34))))) (BL ((decide ((l.length:Int)≤(i29:Int)))&&(!(decide (y29=r36)))))) (Gf [(44,BL (decide ((l.length:Int)≤(i29:Int)))),(55,_)] O O O .scf ⟨.all id,.part,G⟩ (fun hc=>Hx O O O O) O) O (Dq (BL (((decide ((i29:Int) < (l.length:Int)))&&(!(decide (y29=y34))))||((decide ((l.length:Int)≤(i29:Int)))&&(!(decide (y29=r36)))))) (Yi O O O O) O (Dnil ?_))))))))
   refine hK33 (JCc O h (fun h hb=>?_) (fun h hb=>?_))
   ·
    refine Jr fun hK37=>(Yy (BL false) O (G7 (hK37 (Gr (fin1 BL h)))))
   ·
    refine Gp (hK32 (G3 (Yy (Eg i29) O (JLh (G0 ((i29+1:Nat):Int)) (Hs (He hk29 hm19) O O O) O (Yy (G0 ((i29+1:Nat):Int)) O (G7 (e29 _ _ (i29+1) () (app1 hn29 h) (by omega) ⟨⟨.same rfl,.same rfl,.same rfl,G⟩,G,rfl⟩)))))))
  ·
   have h:=app1 hkx29 (Hr hi29 (Ha hb))
   refine Hi (hK8 (Jr fun hK38=>(Yy (BL true) O (G7 (hK38 (Gr (fin1 BL h)))))))

def R0 (out:Ln Frame) (l:List Frame):Option Bool:=
 bif decide ((out.1.length:Int)≠(l.length:Int)) then
 (some false)
 else
 (G1f ((l.length:Int)+12) fun v6=>
  bnd (G36 v6 (out.1++out.2).length) fun m7=>
  each (fun y29 i29 (s29:Unit) nx29=>
   bnd (bif decide ((i29:Int) < (l.length:Int)) then Qm l (i29:Int) some else some default) fun y34=>
   bnd (bif ((!((decide ((i29:Int) < (l.length:Int)))&&(!(decide (y29=y34)))))&&(decide ((l.length:Int)≤(i29:Int)))) then G1f ((i29:Int) - (l.length:Int)) some else some 0) fun v35=>
   bnd (bif ((!((decide ((i29:Int) < (l.length:Int)))&&(!(decide (y29=y34)))))&&(decide ((l.length:Int)≤(i29:Int)))) then Qn 1 v35 else some default) fun r36=>
   bif (((decide ((i29:Int) < (l.length:Int)))&&(!(decide (y29=y34))))||((decide ((l.length:Int)≤(i29:Int)))&&(!(decide (y29=r36))))) then
   (some false)
   else
   (nx29 ()))
  (fun(s29:Unit)=>
   some true) ((out.1++out.2).take m7) 0 ())
theorem Gf2 (out:Ln Frame) (l:List Frame) (r:Bool) (h:R0 out l=some r):Pure Eh 79 [LT 5 Frame.av out,E5 l] (·=BL r):=by
 unfold R0 at h
 refine Gy [.tmp 4] Tryz.func79 O O (Jr fun hK1=>(Yy (BL false) O (G7 (hK1 (Js fun hK2=>Jr fun hK3=>(Yy (LT 5 Frame.av out) O (JLl Jz O O O fun hm8=>(Yy (E5 l) O (JLl Jz O O O fun hm10=>(JLh (BL (decide ((out.1.length:Int)≠(l.length:Int)))) (G3d O O O) O (G7 (hK3 (JCc O h (fun h hb=>?_) (fun h hb=>?_))))))))))))))
 ·
  refine Jr fun hK4=>(Yy (BL false) O (G7 (hK4 (Gr (fin1 BL h)))))
 ·
  refine Gp (hK2 (Jr fun hK5=>(Yy (LT 5 Frame.av out) O (Yy (E5 l) O (JLl Jz O O O fun hm14=>?_)))))
  obtain⟨v6,hv6,h⟩:=Qq h
  refine JLh (G0 v6) (Hs hv6 O O O) O ?_
  obtain⟨m7,hm7,h⟩:=Ge h
  refine JLh (E5 ((out.1++out.2).take m7)) (H38 (f:=Frame.av) (e:=out) O O O Jz (Yo hm7)) O (Yy (E5 ((out.1++out.2).take m7)) O (G7 (hK5 (Js fun hK8=>Jr fun hK9=>(Yy (G0 0) O (G7 (hK9 (Gs ?_))))))))
  obtain⟨b29,kx29,hb29,hkx29,h⟩:=J5 h
  refine Hc (fun i29 (s29:Unit)=>each b29 kx29 (List.drop i29 ((out.1++out.2).take m7)) i29 s29=some r) (fun i29 s29=>[(1,E5 l),(5,E5 ((out.1++out.2).take m7)),(6,Eg i29)]) (fun i29 s29=>[]) (fun i29=>((out.1++out.2).take m7).length - i29) 0 () h ⟨⟨.same O,.same O,.same O,G⟩,G,O⟩ ?_
  clear h
  intro i29 s29 hi29 K29 e29
  refine Js fun hK30=>Jr fun hK31=>(Yy (Eg i29) O (Yy (E5 ((out.1++out.2).take m7)) O (JLl Jz O O O fun hm19=>(JLh (BL (decide ((i29:Int) < (((out.1++out.2).take m7).length:Int)))) (J4 O O O) O (G7 (hK31 (Gk O (fun hb=>?_) (fun hb=>?_))))))))
  ·
   have hk29:=Jj hb
   obtain⟨y29,nx29,hy29,hn29,h⟩:=Hq hi29 hk29
   replace h:=Z1 hb29 h
   refine Gp (hK30 (Js fun hK32=>Gs (Js fun hK33=>?_)))
   obtain⟨y34,hy34,h⟩:=Ge h
   obtain⟨v35,hv35,h⟩:=Ge h
   obtain⟨r36,hr36,h⟩:=Ge h
   refine JC_d0 J8 (by kernel_rfl) (Dq (Eg i29) (G5 O O) O (Dq (E5 l) (G5 O O) O (Dq (Eg l.length) (Qi (f:=Frame.av) (xs:=l) Jz O O) O (Dq (BL (decide ((i29:Int) < (l.length:Int)))) (J4 O O O) O (Dq (BL (decide ((i29:Int) < (l.length:Int)))) (G5 O O) O (Do (E5 ((out.1++out.2).take m7)) [] O .sct G (fun hc=>G5 O O) O (Do (Eg i29) [] O .sct G (fun hc=>G5 O O) O (Do (.dptr (Frame.cs y29)) [28,29] O .sct ⟨Ua,Ua,G⟩ (fun hc=>Gv (f:=Frame.av) (xs:=((out.1++out.2).take m7)) (y:=y29) O O O Jz hy29 O) O (Do (.agg (Frame.cs y29)) [30] O .sct ⟨Ua,G⟩ (fun hc=>Gi Gb9 O O O) O (Do (E5 l) [] O .sct G (fun hc=>G5 O O) O (Do (Eg i29) [] O .sct G (fun hc=>G5 O O) O (Do (.dptr (Frame.cs y34)) [32,33] O .sct ⟨Ua,Ua,G⟩ (fun hc=>(match Q3 (Gx hc hy34) with | ⟨_,hm_,hy_⟩=>Gv (f:=Frame.av) (xs:=l) (y:=y34) O O O Jz hy_ hm_)) O (Do (.agg (Frame.cs y34)) [34] O .sct ⟨Ua,G⟩ (fun hc=>Gi Gb9 O O O) O ?_)))))))))))))
   refine Do (BL (decide (y29=y34))) [31,35] O .sct ⟨Ua,Ua,G⟩ (fun hc=>Gb1 (vs:=[.int .i64 y29.X,.int .i64 y29.Light,.int .i64 y29.Share,.int .i64 y29.Shear,.int .i64 y29.Bend]) (us:=[.int .i64 y34.X,.int .i64 y34.Light,.int .i64 y34.Share,.int .i64 y34.Shear,.int .i64 y34.Bend]) 4 O (tq_133 y29 y34) H68 Hd9 O O O) O (Do (BL (!(decide (y29=y34)))) [36] O .sct ⟨Ua,G⟩ (fun hc=>R5 (b:=decide (y29=y34)) O O) O (Dq (BL ((decide ((i29:Int) < (l.length:Int)))&&(!(decide (y29=y34))))) (Hx O O O O) O (Dq (BL ((decide ((i29:Int) < (l.length:Int)))&&(!(decide (y29=y34))))) (G5 O O) O (Do (Eg i29) [] O .scf G (fun hc=>G5 O O) O (Do (E5 l) [] O .scf G (fun hc=>G5 O O) O (Do (Eg l.length) [41] O .scf ⟨Ua,G⟩ (fun hc=>Qi (f:=Frame.av) (xs:=l) Jz O O) O (Do (BL (decide ((l.length:Int)≤(i29:Int)))) [40,42] O .scf ⟨Ua,Ua,G⟩ (fun hc=>G17 O O O) O (Do (BL (decide ((l.length:Int)≤(i29:Int)))) [43] O .scf ⟨Ua,G⟩ (fun hc=>G5 O O) O (Do (E5 ((out.1++out.2).take m7)) [] O .optt G (fun hc=>G5 O O) O (Do (Eg i29) [] O .optt G (fun hc=>G5 O O) O (Do (.dptr (Frame.cs y29)) [45,46] O .optt ⟨Ua,Ua,G⟩ (fun hc=>Gv (f:=Frame.av) (xs:=((out.1++out.2).take m7)) (y:=y29) O O O Jz hy29 O) O (Do (.agg (Frame.cs y29)) [47] O .optt ⟨Ua,G⟩ (fun hc=>Gi Gb9 O O O) O (Do (Eg i29) [] O .optt G (fun hc=>G5 O O) O ?_)))))))))))))
   refine Do (E5 l) [] O .optt G (fun hc=>G5 O O) O (Do (Eg l.length) [50] O .optt ⟨Ua,G⟩ (fun hc=>Qi (f:=Frame.av) (xs:=l) Jz O O) O (Do (G0 v35) [49,51] O .optt ⟨Ua,Ua,G⟩ (fun hc=>Gaf (Z7 (Gx hc hv35)) O O O) O (Do (.agg (Frame.cs r36)) [52] O .optt ⟨Ua,G⟩ (fun hc=>Gn (args:=[G0 1,G0 v35]) O (G60 1 v35 r36 (Gx hc hr36)) J4a ⟨O,O,O,O,G⟩) O (Do (BL (decide (y29=r36))) [48,53] O .optt ⟨Ua,Ua,G⟩ (fun hc=>Gb1 (vs:=[.int .i64 y29.X,.int .i64 y29.Light,.int .i64 y29.Share,.int .i64 y29.Shear,.int .i64 y29.Bend]) (us:=[.int .i64 r36.X,.int .i64 r36.Light,.int .i64 r36.Share,.int .i64 r36.Shear,.int .i64 r36.Bend]) 4 O (tq_133 y29 r36) H68 Hd9 O O O) O (Do (BL (!(decide (y29=r36)))) [54] O .optt ⟨Ua,G⟩ (fun hc=>R5 (b:=decide (y29=r36)) O O) O (Dg (.opt (!((decide ((i29:Int) < (l.length:Int)))&&(!(decide (y29=y34))))) (BL ((decide ((l.length:Int)≤(i29:Int)))&&(!(decide (y29=r36)))))) (Gf [(44,BL (decide ((l.length:Int)≤(i29:Int)))),(55,_)] O O O .scf ⟨.all id,.part,G⟩ (fun hc=>Hx O O O O) O) O (Dq (BL (((decide ((i29:Int) < (l.length:Int)))&&(!(decide (y29=y34))))||((decide ((l.length:Int)≤(i29:Int)))&&(!(decide (y29=r36)))))) (Yi O O O O) O (Dnil ?_))))))))
   refine hK33 (JCc O h (fun h hb=>?_) (fun h hb=>?_))
   ·
    refine Jr fun hK37=>(Yy (BL false) O (G7 (hK37 (Gr (fin1 BL h)))))
   ·
    refine Gp (hK32 (G3 (Yy (Eg i29) O (JLh (G0 ((i29+1:Nat):Int)) (Hs (He hk29 hm19) O O O) O (Yy (G0 ((i29+1:Nat):Int)) O (G7 (e29 _ _ (i29+1) () (app1 hn29 h) (by omega) ⟨⟨.same rfl,.same rfl,.same rfl,G⟩,G,rfl⟩)))))))
  ·
   have h:=app1 hkx29 (Hr hi29 (Ha hb))
   refine Hi (hK8 (Jr fun hK38=>(Yy (BL true) O (G7 (hK38 (Gr (fin1 BL h)))))))

def Rh (x:Hb) (y:Gj):Option Bool:=
 bnd (Ju (Gj.mk x.Kilos x.X x.Y x.Z x.Surface x.Steps.1) y) fun r3=>
 bnd (bif r3 then J3 x.Steps y.Steps else some default) fun r4=>
 some (r3&&r4)
theorem H25 (x:Hb) (y:Gj) (r:Bool) (h:Rh x y=some r):Pure Eh 129 [.agg (Hb.cs x),.agg (Gj.cs y)] (·=BL r):=by
 unfold Rh at h
 refine Gy [.tmp 4] Tryz.func129 O O (Jr fun hK1=>(JLh (.ptr 1133 0) (Ji (cs:=[G0 x.Kilos,G0 x.X,G0 x.Y,G0 x.Z,G0 x.Surface,LT 1 G0 x.Steps]) 1133 O O O O O) O (JLh (.ptr 1134 0) (Ji (cs:=[G0 y.Kilos,G0 y.X,G0 y.Y,G0 y.Z,G0 y.Surface,E0 y.Steps]) 1134 O O O O O) O (Yy (BL false) O (G7 (hK1 (Gz [(2,.dptr (Hb.cs x)),(3,.ptr 1134 0)] [(1134,.box 136 [G0 y.Kilos,G0 y.X,G0 y.Y,G0 y.Z,G0 y.Surface,E0 y.Steps])] 1133 rfl rfl rfl ⟨⟨_,rfl,.boxEq rfl rfl⟩,G⟩ rfl (by exact⟨.ptr,.conv (.same rfl),G⟩) (Gz [(2,.dptr (Hb.cs x)),(3,Ef y)] [] 1134 rfl rfl rfl G rfl (by exact⟨.conv (.same rfl),.ptr,G⟩) ?_))))))))
 refine Jr fun hK2=>(JLh (.agg [G0 x.Kilos,G0 x.X,G0 x.Y,G0 x.Z,G0 x.Surface,E0 x.Steps.1]) (H1.cv (Cv.aggL (cs:=(Hb.cs x)) ⟨.same,.same,.same,.same,.same,Cv.lst0 x.Steps,G⟩) (Gi G09 O O O)) O (JLh (.agg (Gj.cs y)) (Gi G09 O O O) O ?_))
 obtain⟨r3,hr3,h⟩:=Ge h
 refine JLh (BL r3) (Gn O (G21 (Gj.mk x.Kilos x.X x.Y x.Z x.Surface x.Steps.1) y r3 hr3) H8e ⟨O,O,O,O,G⟩) O (Yy (BL r3) O (JLo (.dptr [LT 1 G0 x.Steps]) [] O .sct G (fun hc=>Ga G34 O O O) O (JLo (LT 1 G0 x.Steps) [9] O .sct ⟨Ua,G⟩ (fun hc=>Gg Ho O O O) O (JLo (.dptr [E0 y.Steps]) [] O .sct G (fun hc=>Ga G34 O O O) O (JLo (E0 y.Steps) [11] O .sct ⟨Ua,G⟩ (fun hc=>Gg Ho O O O) O ?_)))))
 obtain⟨r4,hr4,h⟩:=Ge h
 refine JLo (BL r4) [10,12] O .sct ⟨Ua,Ua,G⟩ (fun hc=>Gn (args:=[LT 1 G0 x.Steps,E0 y.Steps]) O (Zj x.Steps y.Steps r4 (Gx hc hr4)) H63 ⟨O,O,O,O,G⟩) O (JLh (BL (r3&&r4)) (Hx O O O O) O (Yy (BL (r3&&r4)) O (G7 (hK2 (Gr (fin1 BL h))))))

def R7 (out:Ln Hb) (l:List Gj):Option Bool:=
 bif decide ((out.1.length:Int)≠(l.length:Int)) then
 (some false)
 else
 (G1f ((l.length:Int)+12) fun v6=>
  bnd (G36 v6 (out.1++out.2).length) fun m7=>
  each (fun y33 i33 (s33:Unit) nx33=>
   bnd (bif decide ((i33:Int) < (l.length:Int)) then Qm l (i33:Int) some else some default) fun y38=>
   bnd (bif decide ((i33:Int) < (l.length:Int)) then Rh y33 y38 else some default) fun r39=>
   bnd (bif ((!((decide ((i33:Int) < (l.length:Int)))&&(!r39)))&&(decide ((l.length:Int)≤(i33:Int)))) then G1f ((i33:Int) - (l.length:Int)) some else some 0) fun v40=>
   bnd (bif ((!((decide ((i33:Int) < (l.length:Int)))&&(!r39)))&&(decide ((l.length:Int)≤(i33:Int)))) then Qu 1 v40 else some default) fun r41=>
   bnd (bif ((!((decide ((i33:Int) < (l.length:Int)))&&(!r39)))&&(decide ((l.length:Int)≤(i33:Int)))) then Ju (Gj.mk y33.Kilos y33.X y33.Y y33.Z y33.Surface y33.Steps.1) r41 else some default) fun r42=>
   bif (((decide ((i33:Int) < (l.length:Int)))&&(!r39))||((decide ((l.length:Int)≤(i33:Int)))&&(!r42))) then
   (some false)
   else
   (nx33 ()))
  (fun(s33:Unit)=>
   some true) ((out.1++out.2).take m7) 0 ())
theorem H13 (out:Ln Hb) (l:List Gj) (r:Bool) (h:R7 out l=some r):Pure Eh 80 [LT 6 Hb.av out,E7 l] (·=BL r):=by
 unfold R7 at h
 refine Gy [.tmp 4] Tryz.func80 O O (Jr fun hK1=>(Yy (BL false) O (G7 (hK1 (Js fun hK2=>Jr fun hK3=>(Yy (LT 6 Hb.av out) O (JLl Jn O O O fun hm8=>(Yy (E7 l) O (JLl Jn O O O fun hm10=>(JLh (BL (decide ((out.1.length:Int)≠(l.length:Int)))) (G3d O O O) O (G7 (hK3 (JCc O h (fun h hb=>?_) (fun h hb=>?_))))))))))))))
 ·
  refine Jr fun hK4=>(Yy (BL false) O (G7 (hK4 (Gr (fin1 BL h)))))
 ·
  refine Gp (hK2 (Jr fun hK5=>(Yy (LT 6 Hb.av out) O (Yy (E7 l) O (JLl Jn O O O fun hm14=>?_)))))
  obtain⟨v6,hv6,h⟩:=Qq h
  refine JLh (G0 v6) (Hs hv6 O O O) O ?_
  obtain⟨m7,hm7,h⟩:=Ge h
  refine JLh (LS 6 Hb.av ((out.1++out.2).take m7)) (H38 (f:=Hb.av) (e:=out) O O O Jn (Yo hm7)) O (Yy (LS 6 Hb.av ((out.1++out.2).take m7)) O (G7 (hK5 (Js fun hK8=>Jr fun hK9=>(Yy (G0 0) O (G7 (hK9 (Gs ?_))))))))
  obtain⟨b33,kx33,hb33,hkx33,h⟩:=J5 h
  refine Hc (fun i33 (s33:Unit)=>each b33 kx33 (List.drop i33 ((out.1++out.2).take m7)) i33 s33=some r) (fun i33 s33=>[(1,E7 l),(5,LS 6 Hb.av ((out.1++out.2).take m7)),(6,Eg i33)]) (fun i33 s33=>[]) (fun i33=>((out.1++out.2).take m7).length - i33) 0 () h ⟨⟨.same O,.same O,.same O,G⟩,G,O⟩ ?_
  clear h
  intro i33 s33 hi33 K33 e33
  refine Js fun hK34=>Jr fun hK35=>(Yy (Eg i33) O (Yy (LS 6 Hb.av ((out.1++out.2).take m7)) O (JLl Jn O O O fun hm19=>(JLh (BL (decide ((i33:Int) < (((out.1++out.2).take m7).length:Int)))) (J4 O O O) O (G7 (hK35 (Gk O (fun hb=>?_) (fun hb=>?_))))))))
  ·
   have hk33:=Jj hb
   obtain⟨y33,nx33,hy33,hn33,h⟩:=Hq hi33 hk33
   replace h:=Z1 hb33 h
   refine Gp (hK34 (Js fun hK36=>Gs (Js fun hK37=>?_)))
   obtain⟨y38,hy38,h⟩:=Ge h
   obtain⟨r39,hr39,h⟩:=Ge h
   obtain⟨v40,hv40,h⟩:=Ge h
   obtain⟨r41,hr41,h⟩:=Ge h
   obtain⟨r42,hr42,h⟩:=Ge h
   refine JC_d0 J8 (by kernel_rfl) (Dq (Eg i33) (G5 O O) O (Dq (E7 l) (G5 O O) O (Dq (Eg l.length) (Qi (f:=Gj.av) (xs:=l) Jn O O) O (Dq (BL (decide ((i33:Int) < (l.length:Int)))) (J4 O O O) O (Dq (BL (decide ((i33:Int) < (l.length:Int)))) (G5 O O) O (Do (LS 6 Hb.av ((out.1++out.2).take m7)) [] O .sct G (fun hc=>G5 O O) O (Do (Eg i33) [] O .sct G (fun hc=>G5 O O) O (Do (.dptr (Hb.cs y33)) [28,29] O .sct ⟨Ua,Ua,G⟩ (fun hc=>Gv (f:=Hb.av) (xs:=((out.1++out.2).take m7)) (y:=y33) O O O Jn hy33 O) O (Do (.agg (Hb.cs y33)) [30] O .sct ⟨Ua,G⟩ (fun hc=>Gi G09 O O O) O (Do (E7 l) [] O .sct G (fun hc=>G5 O O) O (Do (Eg i33) [] O .sct G (fun hc=>G5 O O) O (Do (Ef y38) [32,33] O .sct ⟨Ua,Ua,G⟩ (fun hc=>(match Q3 (Gx hc hy38) with | ⟨_,hm_,hy_⟩=>Gv (f:=Gj.av) (xs:=l) (y:=y38) O O O Jn hy_ hm_)) O (Do (.agg (Gj.cs y38)) [34] O .sct ⟨Ua,G⟩ (fun hc=>Gi G09 O O O) O ?_)))))))))))))
   refine Do (BL r39) [31,35] O .sct ⟨Ua,Ua,G⟩ (fun hc=>Gn (args:=[.agg (Hb.cs y33),.agg (Gj.cs y38)]) O (H25 y33 y38 r39 (Gx hc hr39)) Q09 ⟨O,O,O,O,G⟩) O (Do (BL (!r39)) [36] O .sct ⟨Ua,G⟩ (fun hc=>R5 (b:=r39) O O) O (Dq (BL ((decide ((i33:Int) < (l.length:Int)))&&(!r39))) (Hx O O O O) O (Dq (BL ((decide ((i33:Int) < (l.length:Int)))&&(!r39))) (G5 O O) O (Do (Eg i33) [] O .scf G (fun hc=>G5 O O) O (Do (E7 l) [] O .scf G (fun hc=>G5 O O) O (Do (Eg l.length) [41] O .scf ⟨Ua,G⟩ (fun hc=>Qi (f:=Gj.av) (xs:=l) Jn O O) O (Do (BL (decide ((l.length:Int)≤(i33:Int)))) [40,42] O .scf ⟨Ua,Ua,G⟩ (fun hc=>G17 O O O) O (Do (BL (decide ((l.length:Int)≤(i33:Int)))) [43] O .scf ⟨Ua,G⟩ (fun hc=>G5 O O) O (Do (LS 6 Hb.av ((out.1++out.2).take m7)) [] O .optt G (fun hc=>G5 O O) O (Do (Eg i33) [] O .optt G (fun hc=>G5 O O) O (Do (.dptr (Hb.cs y33)) [45,46] O .optt ⟨Ua,Ua,G⟩ (fun hc=>Gv (f:=Hb.av) (xs:=((out.1++out.2).take m7)) (y:=y33) O O O Jn hy33 O) O (Do (.agg [G0 y33.Kilos,G0 y33.X,G0 y33.Y,G0 y33.Z,G0 y33.Surface,E0 y33.Steps.1]) [47] O .optt ⟨Ua,G⟩ (fun hc=>H1.cv (Cv.aggL (cs:=(Hb.cs y33)) ⟨.same,.same,.same,.same,.same,Cv.lst0 y33.Steps,G⟩) (Gi G09 O O O)) O (Do (Eg i33) [] O .optt G (fun hc=>G5 O O) O ?_)))))))))))))
   refine Do (E7 l) [] O .optt G (fun hc=>G5 O O) O (Do (Eg l.length) [50] O .optt ⟨Ua,G⟩ (fun hc=>Qi (f:=Gj.av) (xs:=l) Jn O O) O (Do (G0 v40) [49,51] O .optt ⟨Ua,Ua,G⟩ (fun hc=>Gaf (Z7 (Gx hc hv40)) O O O) O (Do (.agg (Gj.cs r41)) [52] O .optt ⟨Ua,G⟩ (fun hc=>Gn (args:=[G0 1,G0 v40]) O (G77 1 v40 r41 (Gx hc hr41)) J49 ⟨O,O,O,O,G⟩) O (Do (BL r42) [48,53] O .optt ⟨Ua,Ua,G⟩ (fun hc=>Gn (args:=[.agg [G0 y33.Kilos,G0 y33.X,G0 y33.Y,G0 y33.Z,G0 y33.Surface,E0 y33.Steps.1],.agg (Gj.cs r41)]) O (G21 (Gj.mk y33.Kilos y33.X y33.Y y33.Z y33.Surface y33.Steps.1) r41 r42 (Gx hc hr42)) H8e ⟨O,O,O,O,G⟩) O (Do (BL (!r42)) [54] O .optt ⟨Ua,G⟩ (fun hc=>R5 (b:=r42) O O) O (Dg (.opt (!((decide ((i33:Int) < (l.length:Int)))&&(!r39))) (BL ((decide ((l.length:Int)≤(i33:Int)))&&(!r42)))) (Gf [(44,BL (decide ((l.length:Int)≤(i33:Int)))),(55,_)] O O O .scf ⟨.all id,.part,G⟩ (fun hc=>Hx O O O O) O) O (Dq (BL (((decide ((i33:Int) < (l.length:Int)))&&(!r39))||((decide ((l.length:Int)≤(i33:Int)))&&(!r42)))) (Yi O O O O) O (Dnil ?_))))))))
   refine hK37 (JCc O h (fun h hb=>?_) (fun h hb=>?_))
   ·
    refine Jr fun hK43=>(Yy (BL false) O (G7 (hK43 (Gr (fin1 BL h)))))
   ·
    refine Gp (hK36 (G3 (Yy (Eg i33) O (JLh (G0 ((i33+1:Nat):Int)) (Hs (He hk33 hm19) O O O) O (Yy (G0 ((i33+1:Nat):Int)) O (G7 (e33 _ _ (i33+1) () (app1 hn33 h) (by omega) ⟨⟨.same rfl,.same rfl,.same rfl,G⟩,G,rfl⟩)))))))
  ·
   have h:=app1 hkx33 (Hr hi33 (Ha hb))
   refine Hi (hK8 (Jr fun hK44=>(Yy (BL true) O (G7 (hK44 (Gr (fin1 BL h)))))))

def Yw (x:Rk) (y:H4):Option Bool:=
 bnd (Yr (H4.mk (x.Columns.1.map Gw.pl) (x.Covers.1.map H7.pl) x.Light x.Rows.1 x.Frames.1 (x.Tanks.1.map Hb.pl) x.G2) y) fun r3=>
 bnd (bif r3 then Qv x.Columns y.Columns else some default) fun r4=>
 bnd (bif (r3&&r4) then R1 x.Covers y.Covers else some default) fun r5=>
 bnd (bif ((r3&&r4)&&r5) then Ri x.Rows y.Rows else some default) fun r6=>
 bnd (bif (((r3&&r4)&&r5)&&r6) then R0 x.Frames y.Frames else some default) fun r7=>
 bnd (bif ((((r3&&r4)&&r5)&&r6)&&r7) then R7 x.Tanks y.Tanks else some default) fun r8=>
 some (((((r3&&r4)&&r5)&&r6)&&r7)&&r8)
theorem H26 (x:Rk) (y:H4) (r:Bool) (h:Yw x y=some r):Pure Eh 22 [.agg (Rk.cs x),.agg (H4.cs y)] (·=BL r):=by
 unfold Yw at h
 refine Gy [.tmp 4] Tryz.func22 O O (Jr fun hK1=>(JLh (.ptr 1039 0) (Ji (cs:=(Rk.cs x)) 1039 O O O O O) O (JLh (.ptr 1040 0) (Ji (cs:=(H4.cs y)) 1040 O O O O O) O (Yy (BL false) O (G7 (hK1 ?_))))))
 refine Gz [(2,.dptr (Rk.cs x)),(3,.ptr 1040 0)] [(1040,.box 32 (H4.cs y))] 1039 rfl rfl rfl ⟨⟨_,rfl,.boxEq rfl rfl⟩,G⟩ rfl (by exact⟨.ptr,.conv (.same rfl),G⟩) (Gz [(2,.dptr (Rk.cs x)),(3,Ea y)] [] 1040 rfl rfl rfl G rfl (by exact⟨.conv (.same rfl),.ptr,G⟩) ?_)
 refine Jr fun hK2=>(JLh (.agg [E4 (x.Columns.1.map Gw.pl),E3 (x.Covers.1.map H7.pl),G0 x.Light.Kilos,G0 x.Light.X,G0 x.Light.Y,G0 x.Light.Z,E6 x.Rows.1,E5 x.Frames.1,E7 (x.Tanks.1.map Hb.pl),G0 x.G2.Tolerance,G0 x.G2.Trim,G0 x.G2.List_,G0 x.G2.Stability]) (H1.cv (Cv.aggL (cs:=(Rk.cs x)) ⟨Cv.lstM (f:=Gw.av) (g:=G4.av) Gw.pl Gw.cvl x.Columns,Cv.lstM (f:=H7.av) (g:=Gc.av) H7.pl H7.cvl x.Covers,.same,.same,.same,.same,Cv.lst0 x.Rows,Cv.lst0 x.Frames,Cv.lstM (f:=Hb.av) (g:=Gj.av) Hb.pl Hb.cvl x.Tanks,.same,.same,.same,.same,G⟩) (Gi Hu O O O)) O (JLh (.agg (H4.cs y)) (Gi Hu O O O) O ?_))
 obtain⟨r3,hr3,h⟩:=Ge h
 refine JLh (BL r3) (Gn O (H20 (H4.mk (x.Columns.1.map Gw.pl) (x.Covers.1.map H7.pl) x.Light x.Rows.1 x.Frames.1 (x.Tanks.1.map Hb.pl) x.G2) y r3 hr3) Q40 ⟨O,O,O,O,G⟩) O (Yy (BL r3) O (JLo (.dptr (Rk.cs x)) [] O .sct G (fun hc=>Ga Hd O O O) O (JLo (LT 12 Gw.av x.Columns) [9] O .sct ⟨Ua,G⟩ (fun hc=>Gg Hm O O O) O (JLo (Ea y) [] O .sct G (fun hc=>Ga Hd O O O) O (JLo (E4 y.Columns) [11] O .sct ⟨Ua,G⟩ (fun hc=>Gg Hm O O O) O ?_)))))
 obtain⟨r4,hr4,h⟩:=Ge h
 refine JLo (BL r4) [10,12] O .sct ⟨Ua,Ua,G⟩ (fun hc=>Gn (args:=[LT 12 Gw.av x.Columns,E4 y.Columns]) O (Ge4 x.Columns y.Columns r4 (Gx hc hr4)) Q3f ⟨O,O,O,O,G⟩) O (JLh (BL (r3&&r4)) (Hx O O O O) O (Yy (BL (r3&&r4)) O (JLo (.dptr ((Rk.cs x).drop 1)) [] O .sct G (fun hc=>Ga Je O O O) O (JLo (LT 2 H7.av x.Covers) [16] O .sct ⟨Ua,G⟩ (fun hc=>Gg Jv O O O) O (JLo (.dptr ((H4.cs y).drop 1)) [] O .sct G (fun hc=>Ga Je O O O) O (JLo (E3 y.Covers) [18] O .sct ⟨Ua,G⟩ (fun hc=>Gg Jv O O O) O ?_))))))
 obtain⟨r5,hr5,h⟩:=Ge h
 refine JLo (BL r5) [17,19] O .sct ⟨Ua,Ua,G⟩ (fun hc=>Gn (args:=[LT 2 H7.av x.Covers,E3 y.Covers]) O (Gf3 x.Covers y.Covers r5 (Gx hc hr5)) Q3e ⟨O,O,O,O,G⟩) O (JLh (BL ((r3&&r4)&&r5)) (Hx O O O O) O (Yy (BL ((r3&&r4)&&r5)) O (JLo (.dptr ((Rk.cs x).drop 6)) [] O .sct G (fun hc=>Ga G4d O O O) O (JLo (LT 5 Row.av x.Rows) [23] O .sct ⟨Ua,G⟩ (fun hc=>Gg Ga5 O O O) O (JLo (.dptr ((H4.cs y).drop 6)) [] O .sct G (fun hc=>Ga G4d O O O) O (JLo (E6 y.Rows) [25] O .sct ⟨Ua,G⟩ (fun hc=>Gg Ga5 O O O) O ?_))))))
 obtain⟨r6,hr6,h⟩:=Ge h
 refine JLo (BL r6) [24,26] O .sct ⟨Ua,Ua,G⟩ (fun hc=>Gn (args:=[LT 5 Row.av x.Rows,E6 y.Rows]) O (H27 x.Rows y.Rows r6 (Gx hc hr6)) Q3d ⟨O,O,O,O,G⟩) O (JLh (BL (((r3&&r4)&&r5)&&r6)) (Hx O O O O) O (Yy (BL (((r3&&r4)&&r5)&&r6)) O (JLo (.dptr ((Rk.cs x).drop 7)) [] O .sct G (fun hc=>Ga G4c O O O) O (JLo (LT 5 Frame.av x.Frames) [30] O .sct ⟨Ua,G⟩ (fun hc=>Gg Ga4 O O O) O (JLo (.dptr ((H4.cs y).drop 7)) [] O .sct G (fun hc=>Ga G4c O O O) O (JLo (E5 y.Frames) [32] O .sct ⟨Ua,G⟩ (fun hc=>Gg Ga4 O O O) O ?_))))))
 obtain⟨r7,hr7,h⟩:=Ge h
 refine JLo (BL r7) [31,33] O .sct ⟨Ua,Ua,G⟩ (fun hc=>Gn (args:=[LT 5 Frame.av x.Frames,E5 y.Frames]) O (Gf2 x.Frames y.Frames r7 (Gx hc hr7)) Q3c ⟨O,O,O,O,G⟩) O (JLh (BL ((((r3&&r4)&&r5)&&r6)&&r7)) (Hx O O O O) O (Yy (BL ((((r3&&r4)&&r5)&&r6)&&r7)) O (JLo (.dptr ((Rk.cs x).drop 8)) [] O .sct G (fun hc=>Ga G4b O O O) O (JLo (LT 6 Hb.av x.Tanks) [37] O .sct ⟨Ua,G⟩ (fun hc=>Gg Ga3 O O O) O (JLo (.dptr ((H4.cs y).drop 8)) [] O .sct G (fun hc=>Ga G4b O O O) O (JLo (E7 y.Tanks) [39] O .sct ⟨Ua,G⟩ (fun hc=>Gg Ga3 O O O) O ?_))))))
 obtain⟨r8,hr8,h⟩:=Ge h
 refine JLo (BL r8) [38,40] O .sct ⟨Ua,Ua,G⟩ (fun hc=>Gn (args:=[LT 6 Hb.av x.Tanks,E7 y.Tanks]) O (H13 x.Tanks y.Tanks r8 (Gx hc hr8)) Q3b ⟨O,O,O,O,G⟩) O (JLh (BL (((((r3&&r4)&&r5)&&r6)&&r7)&&r8)) (Hx O O O O) O (Yy (BL (((((r3&&r4)&&r5)&&r6)&&r7)&&r8)) O (G7 (hK2 (Gr (fin1 BL h))))))

def R4 (k:Int) (i:Int):Option Gh:=
 bnd (Jf k i) fun r3=>
 some (Gh.mk r3 ByteArray.empty 0 false 0 0 0 0 false)
theorem G85 (k:Int) (i:Int) (r:Gh) (h:R4 k i=some r):Pure Eh 46 [G0 k,G0 i] (·=.agg (Gh.cs r)):=by
 unfold R4 at h
 refine Gy [.cell 4 43] Tryz.func46 O O (Jr fun hK1=>(JLh (.ptr 1057 0) (G1c 1057 [G0 0,ST ByteArray.empty,U8 0,BL false,G0 0,G0 0,G0 0,U8 0,BL false] [.int .i64 0,.string ByteArray.empty,.int .u8 0,.bool false,.int .i64 0,.int .i64 0,.int .i64 0,.int .u8 0,.bool false] Zp ⟨.inl O,.inl O,.inl O,.inl O,.inl O,.inl O,.inl O,.inl O,.inl O,G⟩ O O) O (G7 (hK1 (Jr fun hK2=>(Yy (G0 k) O (Yy (G0 i) O ?_)))))))
 obtain⟨r3,hr3,h⟩:=Ge h
 refine JLh (G0 r3) (Gn O (Qb k i r3 hr3) G3f ⟨O,O,O,O,G⟩) O (JLh (.agg [G0 r3,ST ByteArray.empty,U8 0,BL false,G0 0,G0 0,G0 0,U8 0,BL false]) (Jq (cs:=[G0 r3,ST ByteArray.empty,U8 0,BL false,G0 0,G0 0,G0 0,U8 0,BL false]) [(0,1),(1,1),(2,1),(3,1),(4,1),(5,1),(6,1),(7,1),(8,1)] [G0 0,ST ByteArray.empty,U8 0,BL false,G0 0,G0 0,G0 0,U8 0,BL false] [.int .i64 0,.string ByteArray.empty,.int .u8 0,.bool false,.int .i64 0,.int .i64 0,.int .i64 0,.int .u8 0,.bool false] Zr Zp ⟨.inl O,.inl O,.inl O,.inl O,.inl O,.inl O,.inl O,.inl O,.inl O,G⟩ O O) O (Jk (u:=.junk) (Jb (u:=.agg [G0 r3,ST ByteArray.empty,U8 0,BL false,G0 0,G0 0,G0 0,U8 0,BL false]) (ds:=[G0 r3,ST ByteArray.empty,U8 0,BL false,G0 0,G0 0,G0 0,U8 0,BL false]) G08 O O O O O O O O) (G7 (hK2 ?_))))
 refine Gr (⟨[.agg [G0 r3,ST ByteArray.empty,U8 0,BL false,G0 0,G0 0,G0 0,U8 0,BL false]],[],G,O,⟨⟨_,⟨_,_,_,_,O,O,O,.inl ⟨G05,O⟩⟩,.conv (.same O)⟩,G⟩,O,congrArg (fun r:Gh=>(.agg (Gh.cs r):AV)) (Option.some.inj h)⟩)

def Yd (l:List Gh):Option (Ln Gh):=
 G1f ((l.length:Int)+12) fun v3=>
 bnd (Gcd v3) fun m4=>
 need (decide (64*m4≤281474976710656∧m4≤maxLen)) <|
 need (decide ((([]:List Gh).length+l.length)*64≤140737488355328∧([]:List Gh).length+l.length≤maxLen)) <|
 need (decide (12≤9223372036854775807)) <|
 upto (fun i19 (s19:(List Gh)) nx19=>
  bnd (R4 1 (i19:Int)) fun r23=>
  need (decide ((s19.length+[r23].length)*64≤140737488355328∧s19.length+[r23].length≤maxLen)) <|
  nx19 (s19++[r23]))
 (fun(s19:(List Gh))=>
  bnd (G36 (l.length:Int) s19.length) fun m26=>
  some (s19.take m26,s19.drop m26)) (12:Int).toNat 0 (([]:List Gh)++l)
theorem H12 (l:List Gh) (r:(Ln Gh)) (h:Yd l=some r):Pure Eh 8 [E2 l] (·=LT 9 Gh.av r):=by
 unfold Yd at h
 refine Gy [.tmp 2] Tryz.func8 O O (Jr fun hK1=>(JLh (E2 ([]:List Gh)) (Hy 9 O O) O (G7 (hK1 (Jr fun hK2=>(Yy (E2 l) O (JLl Jm O O O fun hm6=>?_)))))))
 obtain⟨v3,hv3,h⟩:=Qq h
 refine JLh (G0 v3) (Hs hv3 O O O) O ?_
 obtain⟨m4,hm4,h⟩:=Ge h
 obtain⟨ha5,h⟩:=J2 h
 refine JLh (OW 1011 9 Gh.av ([]:List Gh)) (G9f 1011 O O O O Jm Hdd O (G4e hm4) ha5) O (Yy (OW 1011 9 Gh.av ([]:List Gh)) O (G7 (hK2 (Jr fun hK6=>(Yy (OW 1011 9 Gh.av ([]:List Gh)) O (Yy (E2 l) O ?_))))))
 obtain⟨ha7,h⟩:=J2 h
 refine JLh (OW 1011 9 Gh.av (([]:List Gh)++l)) (Gc2 (f:=Gh.av) (xs:=([]:List Gh)) (ys:=l) O O O O Jm Hdd ha7 (fun _=>O) (.inl O)) O (Yy (OW 1011 9 Gh.av (([]:List Gh)++l)) O (G7 (hK6 (Js fun hK8=>Jr fun hK9=>(Yy (G0 0) O (G7 (hK9 (Gs ?_))))))))
 obtain⟨hx19,h⟩:=J2 h
 obtain⟨b19,kx19,hb19,hkx19,h⟩:=G8d h
 refine Hc (fun i19 (s19:(List Gh))=>upto b19 kx19 ((12:Int).toNat - i19) i19 s19=some r) (fun i19 s19=>[(0,E2 l),(3,OW 1011 9 Gh.av s19),(4,Eg i19)]) (fun i19 s19=>[(1011,.spare 43 9 s19.length s19.length)]) (fun i19=>(12:Int).toNat - i19) 0 (([]:List Gh)++l) h ⟨⟨.same O,.same O,.same O,G⟩,⟨⟨_,O,.same⟩,G⟩,O⟩ ?_
 clear h
 intro i19 s19 hi19 K19 e19
 refine Js fun hK20=>Jr fun hK21=>(Yy (Eg i19) O (JLh (BL (decide ((i19:Int) < 12))) (J4 O O O) O (G7 (hK21 (Gk O (fun hb=>?_) (fun hb=>?_))))))
 ·
  have hk19:=G48 hb
  obtain⟨nx19,hn19,h⟩:=G45 hi19 hk19
  replace h:=J15 hb19 h
  refine Gp (hK20 (Js fun hK22=>Gs (G3 (Yy (OW 1011 9 Gh.av s19) O (Yy (Eg i19) O ?_)))))
  obtain⟨r23,hr23,h⟩:=Ge h
  refine JLh (.agg (Gh.cs r23)) (Gn O (G85 1 (i19:Int) r23 hr23) J97 ⟨O,O,O,O,G⟩) O (JLh (E2 [r23]) (Hn (xs:=[.agg (Gh.cs r23)]) O ⟨O,O,G⟩ Jm G24 O O O O) O ?_)
  obtain⟨ha24,h⟩:=J2 h
  refine JLh (OW 1011 9 Gh.av (s19++[r23])) (Rj (f:=Gh.av) (xs:=s19) (ys:=[r23]) O O O O Jm Hdd ha24 (fun _=>O) (.inl O) O) O (Yy (OW 1011 9 Gh.av (s19++[r23])) O (G7 (hK22 (G3 (Yy (Eg i19) O (JLh (G0 ((i19+1:Nat):Int)) (Hs (He hk19 (G23 hx19)) O O O) O (Yy (G0 ((i19+1:Nat):Int)) O (G7 (e19 _ _ (i19+1) (s19++[r23]) (app1 hn19 h) (by omega) ⟨⟨.same rfl,.same rfl,.same rfl,G⟩,⟨⟨_,rfl,.same⟩,G⟩,rfl⟩)))))))))
 ·
  have h:=app1 hkx19 (G46 hi19 (Yf hb))
  refine Hi (hK8 (Jr fun hK25=>(Yy (OW 1011 9 Gh.av s19) O (Yy (E2 l) O (JLl Jm O O O fun hm23=>?_)))))
  obtain⟨m26,hm26,h⟩:=Ge h
  refine JLh (LT 9 Gh.av (s19.take m26,s19.drop m26)) (J65 (f:=Gh.av) (xs:=s19) O O O Jm (Yo hm26)) O (Yy (LT 9 Gh.av (s19.take m26,s19.drop m26)) O (G7 (hK25 (Gr (fin1 (fun r:(Ln Gh)=>(LT 9 Gh.av r:AV)) h)))))

def Ye (out:Ln Gh) (l:List Gh):Option Bool:=
 bif decide ((out.1.length:Int)≠(l.length:Int)) then
 (some false)
 else
 (G1f ((l.length:Int)+12) fun v6=>
  bnd (G36 v6 (out.1++out.2).length) fun m7=>
  each (fun y29 i29 (s29:Unit) nx29=>
   bnd (bif decide ((i29:Int) < (l.length:Int)) then Qm l (i29:Int) some else some default) fun y34=>
   bnd (bif ((!((decide ((i29:Int) < (l.length:Int)))&&(!(decide (y29=y34)))))&&(decide ((l.length:Int)≤(i29:Int)))) then G1f ((i29:Int) - (l.length:Int)) some else some 0) fun v35=>
   bnd (bif ((!((decide ((i29:Int) < (l.length:Int)))&&(!(decide (y29=y34)))))&&(decide ((l.length:Int)≤(i29:Int)))) then R4 1 v35 else some default) fun r36=>
   bif (((decide ((i29:Int) < (l.length:Int)))&&(!(decide (y29=y34))))||((decide ((l.length:Int)≤(i29:Int)))&&(!(decide (y29=r36))))) then
   (some false)
   else
   (nx29 ()))
  (fun(s29:Unit)=>
   some true) ((out.1++out.2).take m7) 0 ())
theorem H15 (out:Ln Gh) (l:List Gh) (r:Bool) (h:Ye out l=some r):Pure Eh 23 [LT 9 Gh.av out,E2 l] (·=BL r):=by
 unfold Ye at h
 refine Gy [.tmp 4] Tryz.func23 O O (Jr fun hK1=>(Yy (BL false) O (G7 (hK1 (Js fun hK2=>Jr fun hK3=>(Yy (LT 9 Gh.av out) O (JLl Jm O O O fun hm8=>(Yy (E2 l) O (JLl Jm O O O fun hm10=>(JLh (BL (decide ((out.1.length:Int)≠(l.length:Int)))) (G3d O O O) O (G7 (hK3 (JCc O h (fun h hb=>?_) (fun h hb=>?_))))))))))))))
 ·
  refine Jr fun hK4=>(Yy (BL false) O (G7 (hK4 (Gr (fin1 BL h)))))
 ·
  refine Gp (hK2 (Jr fun hK5=>(Yy (LT 9 Gh.av out) O (Yy (E2 l) O (JLl Jm O O O fun hm14=>?_)))))
  obtain⟨v6,hv6,h⟩:=Qq h
  refine JLh (G0 v6) (Hs hv6 O O O) O ?_
  obtain⟨m7,hm7,h⟩:=Ge h
  refine JLh (E2 ((out.1++out.2).take m7)) (H38 (f:=Gh.av) (e:=out) O O O Jm (Yo hm7)) O (Yy (E2 ((out.1++out.2).take m7)) O (G7 (hK5 (Js fun hK8=>Jr fun hK9=>(Yy (G0 0) O (G7 (hK9 (Gs ?_))))))))
  obtain⟨b29,kx29,hb29,hkx29,h⟩:=J5 h
  refine Hc (fun i29 (s29:Unit)=>each b29 kx29 (List.drop i29 ((out.1++out.2).take m7)) i29 s29=some r) (fun i29 s29=>[(1,E2 l),(5,E2 ((out.1++out.2).take m7)),(6,Eg i29)]) (fun i29 s29=>[]) (fun i29=>((out.1++out.2).take m7).length - i29) 0 () h ⟨⟨.same O,.same O,.same O,G⟩,G,O⟩ ?_
  clear h
  intro i29 s29 hi29 K29 e29
  refine Js fun hK30=>Jr fun hK31=>(Yy (Eg i29) O (Yy (E2 ((out.1++out.2).take m7)) O (JLl Jm O O O fun hm19=>(JLh (BL (decide ((i29:Int) < (((out.1++out.2).take m7).length:Int)))) (J4 O O O) O (G7 (hK31 (Gk O (fun hb=>?_) (fun hb=>?_))))))))
  ·
   have hk29:=Jj hb
   obtain⟨y29,nx29,hy29,hn29,h⟩:=Hq hi29 hk29
   replace h:=Z1 hb29 h
   refine Gp (hK30 (Js fun hK32=>Gs (Js fun hK33=>?_)))
   obtain⟨y34,hy34,h⟩:=Ge h
   obtain⟨v35,hv35,h⟩:=Ge h
   obtain⟨r36,hr36,h⟩:=Ge h
   refine JC_d0 J8 (by kernel_rfl) (Dq (Eg i29) (G5 O O) O (Dq (E2 l) (G5 O O) O (Dq (Eg l.length) (Qi (f:=Gh.av) (xs:=l) Jm O O) O (Dq (BL (decide ((i29:Int) < (l.length:Int)))) (J4 O O O) O (Dq (BL (decide ((i29:Int) < (l.length:Int)))) (G5 O O) O (Do (E2 ((out.1++out.2).take m7)) [] O .sct G (fun hc=>G5 O O) O (Do (Eg i29) [] O .sct G (fun hc=>G5 O O) O (Do (Ed y29) [28,29] O .sct ⟨Ua,Ua,G⟩ (fun hc=>Gv (f:=Gh.av) (xs:=((out.1++out.2).take m7)) (y:=y29) O O O Jm hy29 O) O (Do (.agg (Gh.cs y29)) [30] O .sct ⟨Ua,G⟩ (fun hc=>Gi G05 O O O) O (Do (E2 l) [] O .sct G (fun hc=>G5 O O) O (Do (Eg i29) [] O .sct G (fun hc=>G5 O O) O (Do (Ed y34) [32,33] O .sct ⟨Ua,Ua,G⟩ (fun hc=>(match Q3 (Gx hc hy34) with | ⟨_,hm_,hy_⟩=>Gv (f:=Gh.av) (xs:=l) (y:=y34) O O O Jm hy_ hm_)) O (Do (.agg (Gh.cs y34)) [34] O .sct ⟨Ua,G⟩ (fun hc=>Gi G05 O O O) O ?_)))))))))))))
   refine Do (BL (decide (y29=y34))) [31,35] O .sct ⟨Ua,Ua,G⟩ (fun hc=>Gb1 (vs:=[.int .i64 y29.ID,.string y29.Number,.int .u8 y29.Size,.bool y29.High,.int .i64 y29.Kilos,.int .i64 y29.Load,.int .i64 y29.Discharge,.int .u8 y29.Class,.bool y29.Reefer]) (us:=[.int .i64 y34.ID,.string y34.Number,.int .u8 y34.Size,.bool y34.High,.int .i64 y34.Kilos,.int .i64 y34.Load,.int .i64 y34.Discharge,.int .u8 y34.Class,.bool y34.Reefer]) 4 O (tq_43 y29 y34) H92 J22 O O O) O (Do (BL (!(decide (y29=y34)))) [36] O .sct ⟨Ua,G⟩ (fun hc=>R5 (b:=decide (y29=y34)) O O) O (Dq (BL ((decide ((i29:Int) < (l.length:Int)))&&(!(decide (y29=y34))))) (Hx O O O O) O (Dq (BL ((decide ((i29:Int) < (l.length:Int)))&&(!(decide (y29=y34))))) (G5 O O) O (Do (Eg i29) [] O .scf G (fun hc=>G5 O O) O (Do (E2 l) [] O .scf G (fun hc=>G5 O O) O (Do (Eg l.length) [41] O .scf ⟨Ua,G⟩ (fun hc=>Qi (f:=Gh.av) (xs:=l) Jm O O) O (Do (BL (decide ((l.length:Int)≤(i29:Int)))) [40,42] O .scf ⟨Ua,Ua,G⟩ (fun hc=>G17 O O O) O (Do (BL (decide ((l.length:Int)≤(i29:Int)))) [43] O .scf ⟨Ua,G⟩ (fun hc=>G5 O O) O (Do (E2 ((out.1++out.2).take m7)) [] O .optt G (fun hc=>G5 O O) O (Do (Eg i29) [] O .optt G (fun hc=>G5 O O) O (Do (Ed y29) [45,46] O .optt ⟨Ua,Ua,G⟩ (fun hc=>Gv (f:=Gh.av) (xs:=((out.1++out.2).take m7)) (y:=y29) O O O Jm hy29 O) O (Do (.agg (Gh.cs y29)) [47] O .optt ⟨Ua,G⟩ (fun hc=>Gi G05 O O O) O (Do (Eg i29) [] O .optt G (fun hc=>G5 O O) O ?_)))))))))))))
   refine Do (E2 l) [] O .optt G (fun hc=>G5 O O) O (Do (Eg l.length) [50] O .optt ⟨Ua,G⟩ (fun hc=>Qi (f:=Gh.av) (xs:=l) Jm O O) O (Do (G0 v35) [49,51] O .optt ⟨Ua,Ua,G⟩ (fun hc=>Gaf (Z7 (Gx hc hv35)) O O O) O (Do (.agg (Gh.cs r36)) [52] O .optt ⟨Ua,G⟩ (fun hc=>Gn (args:=[G0 1,G0 v35]) O (G85 1 v35 r36 (Gx hc hr36)) J97 ⟨O,O,O,O,G⟩) O (Do (BL (decide (y29=r36))) [48,53] O .optt ⟨Ua,Ua,G⟩ (fun hc=>Gb1 (vs:=[.int .i64 y29.ID,.string y29.Number,.int .u8 y29.Size,.bool y29.High,.int .i64 y29.Kilos,.int .i64 y29.Load,.int .i64 y29.Discharge,.int .u8 y29.Class,.bool y29.Reefer]) (us:=[.int .i64 r36.ID,.string r36.Number,.int .u8 r36.Size,.bool r36.High,.int .i64 r36.Kilos,.int .i64 r36.Load,.int .i64 r36.Discharge,.int .u8 r36.Class,.bool r36.Reefer]) 4 O (tq_43 y29 r36) H92 J22 O O O) O (Do (BL (!(decide (y29=r36)))) [54] O .optt ⟨Ua,G⟩ (fun hc=>R5 (b:=decide (y29=r36)) O O) O (Dg (.opt (!((decide ((i29:Int) < (l.length:Int)))&&(!(decide (y29=y34))))) (BL ((decide ((l.length:Int)≤(i29:Int)))&&(!(decide (y29=r36)))))) (Gf [(44,BL (decide ((l.length:Int)≤(i29:Int)))),(55,_)] O O O .scf ⟨.all id,.part,G⟩ (fun hc=>Hx O O O O) O) O (Dq (BL (((decide ((i29:Int) < (l.length:Int)))&&(!(decide (y29=y34))))||((decide ((l.length:Int)≤(i29:Int)))&&(!(decide (y29=r36)))))) (Yi O O O O) O (Dnil ?_))))))))
   refine hK33 (JCc O h (fun h hb=>?_) (fun h hb=>?_))
   ·
    refine Jr fun hK37=>(Yy (BL false) O (G7 (hK37 (Gr (fin1 BL h)))))
   ·
    refine Gp (hK32 (G3 (Yy (Eg i29) O (JLh (G0 ((i29+1:Nat):Int)) (Hs (He hk29 hm19) O O O) O (Yy (G0 ((i29+1:Nat):Int)) O (G7 (e29 _ _ (i29+1) () (app1 hn29 h) (by omega) ⟨⟨.same rfl,.same rfl,.same rfl,G⟩,G,rfl⟩)))))))
  ·
   have h:=app1 hkx29 (Hr hi29 (Ha hb))
   refine Hi (hK8 (Jr fun hK38=>(Yy (BL true) O (G7 (hK38 (Gr (fin1 BL h)))))))

def Qg (k:Int) (i:Int):Option Stowed:=
 bnd (Jf k i) fun r3=>
 some (Stowed.mk r3 (Slot.mk 0 0 0))
theorem G54 (k:Int) (i:Int) (r:Stowed) (h:Qg k i=some r):Pure Eh 47 [G0 k,G0 i] (·=.agg (Stowed.cs r)):=by
 unfold Qg at h
 refine Gy [.cell 4 63] Tryz.func47 O O (Jr fun hK1=>(JLh (.ptr 1058 0) (G1c 1058 [G0 0,G0 0,G0 0,U8 0] [.int .i64 0,.int .i64 0,.int .i64 0,.int .u8 0] H5f ⟨.inl O,.inl O,.inl O,.inl O,G⟩ O O) O (G7 (hK1 (Jr fun hK2=>(Yy (G0 k) O (Yy (G0 i) O ?_)))))))
 obtain⟨r3,hr3,h⟩:=Ge h
 refine JLh (G0 r3) (Gn O (Qb k i r3 hr3) G3f ⟨O,O,O,O,G⟩) O (JLh (.agg [G0 r3,G0 0,G0 0,U8 0]) (Jq (cs:=[G0 r3,G0 0,G0 0,U8 0]) [(0,1),(1,3)] [G0 0,G0 0,G0 0,U8 0] [.int .i64 0,.int .i64 0,.int .i64 0,.int .u8 0] J00 H5f ⟨.inl O,.inl O,.inl O,.inl O,G⟩ O O) O (Jk (u:=.junk) (Jb (u:=.agg [G0 r3,G0 0,G0 0,U8 0]) (ds:=[G0 r3,G0 0,G0 0,U8 0]) G92 O O O O O O O O) (G7 (hK2 (Gr (⟨[.agg [G0 r3,G0 0,G0 0,U8 0]],[],G,O,⟨⟨_,⟨_,_,_,_,O,O,O,.inl ⟨G19,O⟩⟩,.conv (.same O)⟩,G⟩,O,congrArg (fun r:Stowed=>(.agg (Stowed.cs r):AV)) (Option.some.inj h)⟩))))))

def Ro (l:List Stowed):Option (Ln Stowed):=
 G1f ((l.length:Int)+12) fun v3=>
 bnd (Gcd v3) fun m4=>
 need (decide (32*m4≤281474976710656∧m4≤maxLen)) <|
 need (decide ((([]:List Stowed).length+l.length)*32≤140737488355328∧([]:List Stowed).length+l.length≤maxLen)) <|
 need (decide (12≤9223372036854775807)) <|
 upto (fun i19 (s19:(List Stowed)) nx19=>
  bnd (Qg 1 (i19:Int)) fun r23=>
  need (decide ((s19.length+[r23].length)*32≤140737488355328∧s19.length+[r23].length≤maxLen)) <|
  nx19 (s19++[r23]))
 (fun(s19:(List Stowed))=>
  bnd (G36 (l.length:Int) s19.length) fun m26=>
  some (s19.take m26,s19.drop m26)) (12:Int).toNat 0 (([]:List Stowed)++l)
theorem Ge1 (l:List Stowed) (r:(Ln Stowed)) (h:Ro l=some r):Pure Eh 9 [E1 l] (·=LT 4 Stowed.av r):=by
 unfold Ro at h
 refine Gy [.tmp 2] Tryz.func9 O O (Jr fun hK1=>(JLh (E1 ([]:List Stowed)) (Hy 4 O O) O (G7 (hK1 (Jr fun hK2=>(Yy (E1 l) O (JLl H0 O O O fun hm6=>?_)))))))
 obtain⟨v3,hv3,h⟩:=Qq h
 refine JLh (G0 v3) (Hs hv3 O O O) O ?_
 obtain⟨m4,hm4,h⟩:=Ge h
 obtain⟨ha5,h⟩:=J2 h
 refine JLh (OW 1012 4 Stowed.av ([]:List Stowed)) (G9f 1012 O O O O H0 Gfd O (G4e hm4) ha5) O (Yy (OW 1012 4 Stowed.av ([]:List Stowed)) O (G7 (hK2 (Jr fun hK6=>(Yy (OW 1012 4 Stowed.av ([]:List Stowed)) O (Yy (E1 l) O ?_))))))
 obtain⟨ha7,h⟩:=J2 h
 refine JLh (OW 1012 4 Stowed.av (([]:List Stowed)++l)) (Gc2 (f:=Stowed.av) (xs:=([]:List Stowed)) (ys:=l) O O O O H0 Gfd ha7 (fun _=>O) (.inl O)) O (Yy (OW 1012 4 Stowed.av (([]:List Stowed)++l)) O (G7 (hK6 (Js fun hK8=>Jr fun hK9=>(Yy (G0 0) O (G7 (hK9 (Gs ?_))))))))
 obtain⟨hx19,h⟩:=J2 h
 obtain⟨b19,kx19,hb19,hkx19,h⟩:=G8d h
 refine Hc (fun i19 (s19:(List Stowed))=>upto b19 kx19 ((12:Int).toNat - i19) i19 s19=some r) (fun i19 s19=>[(0,E1 l),(3,OW 1012 4 Stowed.av s19),(4,Eg i19)]) (fun i19 s19=>[(1012,.spare 63 4 s19.length s19.length)]) (fun i19=>(12:Int).toNat - i19) 0 (([]:List Stowed)++l) h ⟨⟨.same O,.same O,.same O,G⟩,⟨⟨_,O,.same⟩,G⟩,O⟩ ?_
 clear h
 intro i19 s19 hi19 K19 e19
 refine Js fun hK20=>Jr fun hK21=>(Yy (Eg i19) O (JLh (BL (decide ((i19:Int) < 12))) (J4 O O O) O (G7 (hK21 (Gk O (fun hb=>?_) (fun hb=>?_))))))
 ·
  have hk19:=G48 hb
  obtain⟨nx19,hn19,h⟩:=G45 hi19 hk19
  replace h:=J15 hb19 h
  refine Gp (hK20 (Js fun hK22=>Gs (G3 (Yy (OW 1012 4 Stowed.av s19) O (Yy (Eg i19) O ?_)))))
  obtain⟨r23,hr23,h⟩:=Ge h
  refine JLh (.agg (Stowed.cs r23)) (Gn O (G54 1 (i19:Int) r23 hr23) J96 ⟨O,O,O,O,G⟩) O (JLh (E1 [r23]) (Hn (xs:=[.agg (Stowed.cs r23)]) O ⟨O,O,G⟩ H0 G5a O O O O) O ?_)
  obtain⟨ha24,h⟩:=J2 h
  refine JLh (OW 1012 4 Stowed.av (s19++[r23])) (Rj (f:=Stowed.av) (xs:=s19) (ys:=[r23]) O O O O H0 Gfd ha24 (fun _=>O) (.inl O) O) O (Yy (OW 1012 4 Stowed.av (s19++[r23])) O (G7 (hK22 (G3 (Yy (Eg i19) O (JLh (G0 ((i19+1:Nat):Int)) (Hs (He hk19 (G23 hx19)) O O O) O (Yy (G0 ((i19+1:Nat):Int)) O (G7 (e19 _ _ (i19+1) (s19++[r23]) (app1 hn19 h) (by omega) ⟨⟨.same rfl,.same rfl,.same rfl,G⟩,⟨⟨_,rfl,.same⟩,G⟩,rfl⟩)))))))))
 ·
  have h:=app1 hkx19 (G46 hi19 (Yf hb))
  refine Hi (hK8 (Jr fun hK25=>(Yy (OW 1012 4 Stowed.av s19) O (Yy (E1 l) O (JLl H0 O O O fun hm23=>?_)))))
  obtain⟨m26,hm26,h⟩:=Ge h
  refine JLh (LT 4 Stowed.av (s19.take m26,s19.drop m26)) (J65 (f:=Stowed.av) (xs:=s19) O O O H0 (Yo hm26)) O (Yy (LT 4 Stowed.av (s19.take m26,s19.drop m26)) O (G7 (hK25 (Gr (fin1 (fun r:(Ln Stowed)=>(LT 4 Stowed.av r:AV)) h)))))

def Rr (out:Ln Stowed) (l:List Stowed):Option Bool:=
 bif decide ((out.1.length:Int)≠(l.length:Int)) then
 (some false)
 else
 (G1f ((l.length:Int)+12) fun v6=>
  bnd (G36 v6 (out.1++out.2).length) fun m7=>
  each (fun y29 i29 (s29:Unit) nx29=>
   bnd (bif decide ((i29:Int) < (l.length:Int)) then Qm l (i29:Int) some else some default) fun y34=>
   bnd (bif ((!((decide ((i29:Int) < (l.length:Int)))&&(!(decide (y29=y34)))))&&(decide ((l.length:Int)≤(i29:Int)))) then G1f ((i29:Int) - (l.length:Int)) some else some 0) fun v35=>
   bnd (bif ((!((decide ((i29:Int) < (l.length:Int)))&&(!(decide (y29=y34)))))&&(decide ((l.length:Int)≤(i29:Int)))) then Qg 1 v35 else some default) fun r36=>
   bif (((decide ((i29:Int) < (l.length:Int)))&&(!(decide (y29=y34))))||((decide ((l.length:Int)≤(i29:Int)))&&(!(decide (y29=r36))))) then
   (some false)
   else
   (nx29 ()))
  (fun(s29:Unit)=>
   some true) ((out.1++out.2).take m7) 0 ())
theorem Ge3 (out:Ln Stowed) (l:List Stowed) (r:Bool) (h:Rr out l=some r):Pure Eh 24 [LT 4 Stowed.av out,E1 l] (·=BL r):=by
 unfold Rr at h
 refine Gy [.tmp 4] Tryz.func24 O O (Jr fun hK1=>(Yy (BL false) O (G7 (hK1 (Js fun hK2=>Jr fun hK3=>(Yy (LT 4 Stowed.av out) O (JLl H0 O O O fun hm8=>(Yy (E1 l) O (JLl H0 O O O fun hm10=>(JLh (BL (decide ((out.1.length:Int)≠(l.length:Int)))) (G3d O O O) O (G7 (hK3 (JCc O h (fun h hb=>?_) (fun h hb=>?_))))))))))))))
 ·
  refine Jr fun hK4=>(Yy (BL false) O (G7 (hK4 (Gr (fin1 BL h)))))
 ·
  refine Gp (hK2 (Jr fun hK5=>(Yy (LT 4 Stowed.av out) O (Yy (E1 l) O (JLl H0 O O O fun hm14=>?_)))))
  obtain⟨v6,hv6,h⟩:=Qq h
  refine JLh (G0 v6) (Hs hv6 O O O) O ?_
  obtain⟨m7,hm7,h⟩:=Ge h
  refine JLh (E1 ((out.1++out.2).take m7)) (H38 (f:=Stowed.av) (e:=out) O O O H0 (Yo hm7)) O (Yy (E1 ((out.1++out.2).take m7)) O (G7 (hK5 (Js fun hK8=>Jr fun hK9=>(Yy (G0 0) O (G7 (hK9 (Gs ?_))))))))
  obtain⟨b29,kx29,hb29,hkx29,h⟩:=J5 h
  refine Hc (fun i29 (s29:Unit)=>each b29 kx29 (List.drop i29 ((out.1++out.2).take m7)) i29 s29=some r) (fun i29 s29=>[(1,E1 l),(5,E1 ((out.1++out.2).take m7)),(6,Eg i29)]) (fun i29 s29=>[]) (fun i29=>((out.1++out.2).take m7).length - i29) 0 () h ⟨⟨.same O,.same O,.same O,G⟩,G,O⟩ ?_
  clear h
  intro i29 s29 hi29 K29 e29
  refine Js fun hK30=>Jr fun hK31=>(Yy (Eg i29) O (Yy (E1 ((out.1++out.2).take m7)) O (JLl H0 O O O fun hm19=>(JLh (BL (decide ((i29:Int) < (((out.1++out.2).take m7).length:Int)))) (J4 O O O) O (G7 (hK31 (Gk O (fun hb=>?_) (fun hb=>?_))))))))
  ·
   have hk29:=Jj hb
   obtain⟨y29,nx29,hy29,hn29,h⟩:=Hq hi29 hk29
   replace h:=Z1 hb29 h
   refine Gp (hK30 (Js fun hK32=>Gs (Js fun hK33=>?_)))
   obtain⟨y34,hy34,h⟩:=Ge h
   obtain⟨v35,hv35,h⟩:=Ge h
   obtain⟨r36,hr36,h⟩:=Ge h
   refine JC_d0 J8 (by kernel_rfl) (Dq (Eg i29) (G5 O O) O (Dq (E1 l) (G5 O O) O (Dq (Eg l.length) (Qi (f:=Stowed.av) (xs:=l) H0 O O) O (Dq (BL (decide ((i29:Int) < (l.length:Int)))) (J4 O O O) O (Dq (BL (decide ((i29:Int) < (l.length:Int)))) (G5 O O) O (Do (E1 ((out.1++out.2).take m7)) [] O .sct G (fun hc=>G5 O O) O (Do (Eg i29) [] O .sct G (fun hc=>G5 O O) O (Do (Eb y29) [28,29] O .sct ⟨Ua,Ua,G⟩ (fun hc=>Gv (f:=Stowed.av) (xs:=((out.1++out.2).take m7)) (y:=y29) O O O H0 hy29 O) O (Do (.agg (Stowed.cs y29)) [30] O .sct ⟨Ua,G⟩ (fun hc=>Gi G19 O O O) O (Do (E1 l) [] O .sct G (fun hc=>G5 O O) O (Do (Eg i29) [] O .sct G (fun hc=>G5 O O) O (Do (Eb y34) [32,33] O .sct ⟨Ua,Ua,G⟩ (fun hc=>(match Q3 (Gx hc hy34) with | ⟨_,hm_,hy_⟩=>Gv (f:=Stowed.av) (xs:=l) (y:=y34) O O O H0 hy_ hm_)) O (Do (.agg (Stowed.cs y34)) [34] O .sct ⟨Ua,G⟩ (fun hc=>Gi G19 O O O) O ?_)))))))))))))
   refine Do (BL (decide (y29=y34))) [31,35] O .sct ⟨Ua,Ua,G⟩ (fun hc=>Gb1 (vs:=[.int .i64 y29.Gh,.int .i64 y29.Slot.G4,.int .i64 y29.Slot.Tier,.int .u8 y29.Slot.Half]) (us:=[.int .i64 y34.Gh,.int .i64 y34.Slot.G4,.int .i64 y34.Slot.Tier,.int .u8 y34.Slot.Half]) 4 O (tq_63 y29 y34) J4b Jdb O O O) O (Do (BL (!(decide (y29=y34)))) [36] O .sct ⟨Ua,G⟩ (fun hc=>R5 (b:=decide (y29=y34)) O O) O (Dq (BL ((decide ((i29:Int) < (l.length:Int)))&&(!(decide (y29=y34))))) (Hx O O O O) O (Dq (BL ((decide ((i29:Int) < (l.length:Int)))&&(!(decide (y29=y34))))) (G5 O O) O (Do (Eg i29) [] O .scf G (fun hc=>G5 O O) O (Do (E1 l) [] O .scf G (fun hc=>G5 O O) O (Do (Eg l.length) [41] O .scf ⟨Ua,G⟩ (fun hc=>Qi (f:=Stowed.av) (xs:=l) H0 O O) O (Do (BL (decide ((l.length:Int)≤(i29:Int)))) [40,42] O .scf ⟨Ua,Ua,G⟩ (fun hc=>G17 O O O) O (Do (BL (decide ((l.length:Int)≤(i29:Int)))) [43] O .scf ⟨Ua,G⟩ (fun hc=>G5 O O) O (Do (E1 ((out.1++out.2).take m7)) [] O .optt G (fun hc=>G5 O O) O (Do (Eg i29) [] O .optt G (fun hc=>G5 O O) O (Do (Eb y29) [45,46] O .optt ⟨Ua,Ua,G⟩ (fun hc=>Gv (f:=Stowed.av) (xs:=((out.1++out.2).take m7)) (y:=y29) O O O H0 hy29 O) O (Do (.agg (Stowed.cs y29)) [47] O .optt ⟨Ua,G⟩ (fun hc=>Gi G19 O O O) O (Do (Eg i29) [] O .optt G (fun hc=>G5 O O) O ?_)))))))))))))
   refine Do (E1 l) [] O .optt G (fun hc=>G5 O O) O (Do (Eg l.length) [50] O .optt ⟨Ua,G⟩ (fun hc=>Qi (f:=Stowed.av) (xs:=l) H0 O O) O (Do (G0 v35) [49,51] O .optt ⟨Ua,Ua,G⟩ (fun hc=>Gaf (Z7 (Gx hc hv35)) O O O) O (Do (.agg (Stowed.cs r36)) [52] O .optt ⟨Ua,G⟩ (fun hc=>Gn (args:=[G0 1,G0 v35]) O (G54 1 v35 r36 (Gx hc hr36)) J96 ⟨O,O,O,O,G⟩) O (Do (BL (decide (y29=r36))) [48,53] O .optt ⟨Ua,Ua,G⟩ (fun hc=>Gb1 (vs:=[.int .i64 y29.Gh,.int .i64 y29.Slot.G4,.int .i64 y29.Slot.Tier,.int .u8 y29.Slot.Half]) (us:=[.int .i64 r36.Gh,.int .i64 r36.Slot.G4,.int .i64 r36.Slot.Tier,.int .u8 r36.Slot.Half]) 4 O (tq_63 y29 r36) J4b Jdb O O O) O (Do (BL (!(decide (y29=r36)))) [54] O .optt ⟨Ua,G⟩ (fun hc=>R5 (b:=decide (y29=r36)) O O) O (Dg (.opt (!((decide ((i29:Int) < (l.length:Int)))&&(!(decide (y29=y34))))) (BL ((decide ((l.length:Int)≤(i29:Int)))&&(!(decide (y29=r36)))))) (Gf [(44,BL (decide ((l.length:Int)≤(i29:Int)))),(55,_)] O O O .scf ⟨.all id,.part,G⟩ (fun hc=>Hx O O O O) O) O (Dq (BL (((decide ((i29:Int) < (l.length:Int)))&&(!(decide (y29=y34))))||((decide ((l.length:Int)≤(i29:Int)))&&(!(decide (y29=r36)))))) (Yi O O O O) O (Dnil ?_))))))))
   refine hK33 (JCc O h (fun h hb=>?_) (fun h hb=>?_))
   ·
    refine Jr fun hK37=>(Yy (BL false) O (G7 (hK37 (Gr (fin1 BL h)))))
   ·
    refine Gp (hK32 (G3 (Yy (Eg i29) O (JLh (G0 ((i29+1:Nat):Int)) (Hs (He hk29 hm19) O O O) O (Yy (G0 ((i29+1:Nat):Int)) O (G7 (e29 _ _ (i29+1) () (app1 hn29 h) (by omega) ⟨⟨.same rfl,.same rfl,.same rfl,G⟩,G,rfl⟩)))))))
  ·
   have h:=app1 hkx29 (Hr hi29 (Ha hb))
   refine Hi (hK8 (Jr fun hK38=>(Yy (BL true) O (G7 (hK38 (Gr (fin1 BL h)))))))
end
end Go.Proofs.YtjkmmenifdklmaaGreat
