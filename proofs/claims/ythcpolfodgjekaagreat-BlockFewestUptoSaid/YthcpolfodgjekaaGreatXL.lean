/-
 Models of functions of the program,and that they return what the models say.
-/
import Derived.Test.YthcpolfodgjekaaGreatXLa
set_option maxRecDepth 100000
set_option maxHeartbeats 1000000
set_option linter.unusedVariables false
set_option linter.unusedSimpArgs false
namespace Go.Proofs.YthcpolfodgjekaaGreat
open Go.RowKit
noncomputable section
open XAF
open XLF

def Rw (out:Ln H9) (l:List G8):Option Bool:=
 bif decide ((out.1.length:Int)≠(l.length:Int)) then
 (some false)
 else
 (chk ((l.length:Int)+12) fun v6=>
  bnd (G70 v6 (out.1++out.2).length) fun m7=>
  each (fun y33 i33 (s33:Unit) nx33=>
   bnd (bif decide ((i33:Int) < (l.length:Int)) then Qm l (i33:Int) some else some default) fun y38=>
   bnd (bif decide ((i33:Int) < (l.length:Int)) then Yb y33 y38 else some default) fun r39=>
   bnd (bif ((!((decide ((i33:Int) < (l.length:Int)))&&(!r39)))&&(decide ((l.length:Int)≤(i33:Int)))) then chk ((i33:Int) - (l.length:Int)) some else some 0) fun v40=>
   bnd (bif ((!((decide ((i33:Int) < (l.length:Int)))&&(!r39)))&&(decide ((l.length:Int)≤(i33:Int)))) then R5 1 v40 else some default) fun r41=>
   bnd (bif ((!((decide ((i33:Int) < (l.length:Int)))&&(!r39)))&&(decide ((l.length:Int)≤(i33:Int)))) then Q6 (G8.mk y33.Bay y33.Rows.1) r41 else some default) fun r42=>
   bif (((decide ((i33:Int) < (l.length:Int)))&&(!r39))||((decide ((l.length:Int)≤(i33:Int)))&&(!r42))) then
   (some false)
   else
   (nx33 ()))
  (fun(s33:Unit)=>
   some true) ((out.1++out.2).take m7) 0 ())
theorem H44 (out:Ln H9) (l:List G8) (r:Bool) (h:Rw out l=some r):Pure Ej 45 [LT 2 H9.av out,E6 l] (·=BL r):=by
 unfold Rw at h
 refine Gy [.tmp 4] Tryz.func45 O O (Jr fun hK1=>(JLm (BL false) O (G7 (hK1 (Js fun hK2=>Jr fun hK3=>(JLm (LT 2 H9.av out) O (JLl Hq O O O fun hm8=>(JLm (E6 l) O (JLl Hq O O O fun hm10=>(JLh (BL (decide ((out.1.length:Int)≠(l.length:Int)))) (G1d O O O) O (G7 (hK3 (JCc O h (fun h hb=>?_) (fun h hb=>?_))))))))))))))
 ·
  refine Jr fun hK4=>(JLm (BL false) O (G7 (hK4 (Gq (fin1 BL h)))))
 ·
  refine Gm (hK2 (Jr fun hK5=>(JLm (LT 2 H9.av out) O (JLm (E6 l) O (JLl Hq O O O fun hm14=>?_)))))
  obtain⟨v6,hv6,h⟩:=Qk h
  refine JLh (I64 v6) (Ht hv6 O O O) O ?_
  obtain⟨m7,hm7,h⟩:=Gd h
  refine JLh (LS 2 H9.av ((out.1++out.2).take m7)) (H93 (f:=H9.av) (e:=out) O O O Hq (Zv hm7)) O (JLm (LS 2 H9.av ((out.1++out.2).take m7)) O (G7 (hK5 (Js fun hK8=>Jr fun hK9=>(JLm (I64 0) O (G7 (hK9 (Gp ?_))))))))
  obtain⟨b33,kx33,hb33,hkx33,h⟩:=Hv h
  refine Hc (fun i33 (s33:Unit)=>each b33 kx33 (List.drop i33 ((out.1++out.2).take m7)) i33 s33=some r) (fun i33 s33=>[(1,E6 l),(5,LS 2 H9.av ((out.1++out.2).take m7)),(6,Ei i33)]) (fun i33 s33=>[]) (fun i33=>((out.1++out.2).take m7).length - i33) 0 () h ⟨(.sm O O),G,O⟩ ?_
  clear h
  intro i33 s33 hi33 K33 e33
  refine Js fun hK34=>Jr fun hK35=>(JLm (Ei i33) O (JLm (LS 2 H9.av ((out.1++out.2).take m7)) O (JLl Hq O O O fun hm19=>(JLh (BL (decide ((i33:Int) < (((out.1++out.2).take m7).length:Int)))) (Hy O O O) O (G7 (hK35 (Gj O (fun hb=>?_) (fun hb=>?_))))))))
  ·
   have hk33:=J8 hb
   obtain⟨y33,nx33,hy33,hn33,h⟩:=Hj hi33 hk33
   replace h:=R8 hb33 h
   refine Gm (hK34 (Js fun hK36=>Gp (Js fun hK37=>?_)))
   obtain⟨y38,hy38,h⟩:=Gd h
   obtain⟨r39,hr39,h⟩:=Gd h
   obtain⟨v40,hv40,h⟩:=Gd h
   obtain⟨r41,hr41,h⟩:=Gd h
   obtain⟨r42,hr42,h⟩:=Gd h
   refine JC_d0 Jb (by kernel_rfl) (Dq (Ei i33) (G4 O O) O (Dq (E6 l) (G4 O O) O (Dq (Ei l.length) (Qs (f:=G8.av) (xs:=l) Hq O O) O (Dq (BL (decide ((i33:Int) < (l.length:Int)))) (Hy O O O) O (Dq (BL (decide ((i33:Int) < (l.length:Int)))) (G4 O O) O (Do (LS 2 H9.av ((out.1++out.2).take m7)) [] O .sct G (fun hc=>G4 O O) O (Do (Ei i33) [] O .sct G (fun hc=>G4 O O) O (Do (.dptr [I64 y33.Bay,LT 1 I64 y33.Rows]) [28,29] O .sct ⟨Ua,Ua,G⟩ (fun hc=>Gv (f:=H9.av) (xs:=((out.1++out.2).take m7)) (y:=y33) O O O Hq hy33 O) O (Do (.agg [I64 y33.Bay,LT 1 I64 y33.Rows]) [30] O .sct ⟨Ua,G⟩ (fun hc=>Gg Z0 O O O) O (Do (E6 l) [] O .sct G (fun hc=>G4 O O) O (Do (Ei i33) [] O .sct G (fun hc=>G4 O O) O (Do (.dptr [I64 y38.Bay,E1 y38.Rows]) [32,33] O .sct ⟨Ua,Ua,G⟩ (fun hc=>(match Q0 (Gw hc hy38) with | ⟨_,hm_,hy_⟩=>Gv (f:=G8.av) (xs:=l) (y:=y38) O O O Hq hy_ hm_)) O (Do (.agg [I64 y38.Bay,E1 y38.Rows]) [34] O .sct ⟨Ua,G⟩ (fun hc=>Gg Z0 O O O) O ?_)))))))))))))
   refine Do (BL r39) [31,35] O .sct ⟨Ua,Ua,G⟩ (fun hc=>Gi (args:=[.agg [I64 y33.Bay,LT 1 I64 y33.Rows],.agg [I64 y38.Bay,E1 y38.Rows]]) O (H71 y33 y38 r39 (Gw hc hr39)) R57 ⟨O,O,O,O,G⟩) O (Do (BL (!r39)) [36] O .sct ⟨Ua,G⟩ (fun hc=>Q3 (b:=r39) O O) O (Dq (BL ((decide ((i33:Int) < (l.length:Int)))&&(!r39))) (J4 O O O O) O (Dq (BL ((decide ((i33:Int) < (l.length:Int)))&&(!r39))) (G4 O O) O (Do (Ei i33) [] O .scf G (fun hc=>G4 O O) O (Do (E6 l) [] O .scf G (fun hc=>G4 O O) O (Do (Ei l.length) [41] O .scf ⟨Ua,G⟩ (fun hc=>Qs (f:=G8.av) (xs:=l) Hq O O) O (Do (BL (decide ((l.length:Int)≤(i33:Int)))) [40,42] O .scf ⟨Ua,Ua,G⟩ (fun hc=>G13 O O O) O (Do (BL (decide ((l.length:Int)≤(i33:Int)))) [43] O .scf ⟨Ua,G⟩ (fun hc=>G4 O O) O (Do (LS 2 H9.av ((out.1++out.2).take m7)) [] O .optt G (fun hc=>G4 O O) O (Do (Ei i33) [] O .optt G (fun hc=>G4 O O) O (Do (.dptr [I64 y33.Bay,LT 1 I64 y33.Rows]) [45,46] O .optt ⟨Ua,Ua,G⟩ (fun hc=>Gv (f:=H9.av) (xs:=((out.1++out.2).take m7)) (y:=y33) O O O Hq hy33 O) O (Do (.agg [I64 y33.Bay,E1 y33.Rows.1]) [47] O .optt ⟨Ua,G⟩ (fun hc=>H5.cv (Cv.aggL (cs:=[I64 y33.Bay,LT 1 I64 y33.Rows]) ⟨.same,Cv.lst0 y33.Rows,G⟩) (Gg Z0 O O O)) O (Do (Ei i33) [] O .optt G (fun hc=>G4 O O) O ?_)))))))))))))
   refine Do (E6 l) [] O .optt G (fun hc=>G4 O O) O (Do (Ei l.length) [50] O .optt ⟨Ua,G⟩ (fun hc=>Qs (f:=G8.av) (xs:=l) Hq O O) O (Do (I64 v40) [49,51] O .optt ⟨Ua,Ua,G⟩ (fun hc=>Ge4 (G2d (Gw hc hv40)) O O O) O (Do (.agg [I64 r41.Bay,E1 r41.Rows]) [52] O .optt ⟨Ua,G⟩ (fun hc=>Gi (args:=[I64 1,I64 v40]) O (G9f 1 v40 r41 (Gw hc hr41)) Q0e ⟨O,O,O,O,G⟩) O (Do (BL r42) [48,53] O .optt ⟨Ua,Ua,G⟩ (fun hc=>Gi (args:=[.agg [I64 y33.Bay,E1 y33.Rows.1],.agg [I64 r41.Bay,E1 r41.Rows]]) O (G4d (G8.mk y33.Bay y33.Rows.1) r41 r42 (Gw hc hr42)) J42 ⟨O,O,O,O,G⟩) O (Do (BL (!r42)) [54] O .optt ⟨Ua,G⟩ (fun hc=>Q3 (b:=r42) O O) O (Dg (.opt (!((decide ((i33:Int) < (l.length:Int)))&&(!r39))) (BL ((decide ((l.length:Int)≤(i33:Int)))&&(!r42)))) (Gh [(44,BL (decide ((l.length:Int)≤(i33:Int)))),(55,_)] O O O .scf ⟨.all id,.part,G⟩ (fun hc=>J4 O O O O) O) O (Dq (BL (((decide ((i33:Int) < (l.length:Int)))&&(!r39))||((decide ((l.length:Int)≤(i33:Int)))&&(!r42)))) (Rs O O O O) O (Dnil ?_))))))))
   refine hK37 (JCc O h (fun h hb=>?_) (fun h hb=>?_))
   ·
    refine Jr fun hK43=>(JLm (BL false) O (G7 (hK43 (Gq (fin1 BL h)))))
   ·
    refine Gm (hK36 (G2 (JLm (Ei i33) O (JLh (I64 ((i33+1:Nat):Int)) (Ht (Hb hk33 hm19) O O O) O (JLm (I64 ((i33+1:Nat):Int)) O (G7 (e33 _ _ (i33+1) () (app1 hn33 h) (by omega) ⟨(.sm O O),G,rfl⟩)))))))
  ·
   have h:=app1 hkx33 (Hk hi33 (H3 hb))
   refine Hi (hK8 (Jr fun hK44=>(JLm (BL true) O (G7 (hK44 (Gq (fin1 BL h)))))))

def Yr (out:Ln Row) (l:List Row):Option Bool:=
 bif decide ((out.1.length:Int)≠(l.length:Int)) then
 (some false)
 else
 (chk ((l.length:Int)+12) fun v6=>
  bnd (G70 v6 (out.1++out.2).length) fun m7=>
  each (fun y29 i29 (s29:Unit) nx29=>
   bnd (bif decide ((i29:Int) < (l.length:Int)) then Qm l (i29:Int) some else some default) fun y34=>
   bnd (bif ((!((decide ((i29:Int) < (l.length:Int)))&&(!(decide (y29=y34)))))&&(decide ((l.length:Int)≤(i29:Int)))) then chk ((i29:Int) - (l.length:Int)) some else some 0) fun v35=>
   bnd (bif ((!((decide ((i29:Int) < (l.length:Int)))&&(!(decide (y29=y34)))))&&(decide ((l.length:Int)≤(i29:Int)))) then Y1 1 v35 else some default) fun r36=>
   bif (((decide ((i29:Int) < (l.length:Int)))&&(!(decide (y29=y34))))||((decide ((l.length:Int)≤(i29:Int)))&&(!(decide (y29=r36))))) then
   (some false)
   else
   (nx29 ()))
  (fun(s29:Unit)=>
   some true) ((out.1++out.2).take m7) 0 ())
theorem H80 (out:Ln Row) (l:List Row) (r:Bool) (h:Yr out l=some r):Pure Ej 46 [LT 5 Row.av out,E8 l] (·=BL r):=by
 unfold Yr at h
 refine Gy [.tmp 4] Tryz.func46 O O (Jr fun hK1=>(JLm (BL false) O (G7 (hK1 (Js fun hK2=>Jr fun hK3=>(JLm (LT 5 Row.av out) O (JLl Qh O O O fun hm8=>(JLm (E8 l) O (JLl Qh O O O fun hm10=>(JLh (BL (decide ((out.1.length:Int)≠(l.length:Int)))) (G1d O O O) O (G7 (hK3 (JCc O h (fun h hb=>?_) (fun h hb=>?_))))))))))))))
 ·
  refine Jr fun hK4=>(JLm (BL false) O (G7 (hK4 (Gq (fin1 BL h)))))
 ·
  refine Gm (hK2 (Jr fun hK5=>(JLm (LT 5 Row.av out) O (JLm (E8 l) O (JLl Qh O O O fun hm14=>?_)))))
  obtain⟨v6,hv6,h⟩:=Qk h
  refine JLh (I64 v6) (Ht hv6 O O O) O ?_
  obtain⟨m7,hm7,h⟩:=Gd h
  refine JLh (E8 ((out.1++out.2).take m7)) (H93 (f:=Row.av) (e:=out) O O O Qh (Zv hm7)) O (JLm (E8 ((out.1++out.2).take m7)) O (G7 (hK5 (Js fun hK8=>Jr fun hK9=>(JLm (I64 0) O (G7 (hK9 (Gp ?_))))))))
  obtain⟨b29,kx29,hb29,hkx29,h⟩:=Hv h
  refine Hc (fun i29 (s29:Unit)=>each b29 kx29 (List.drop i29 ((out.1++out.2).take m7)) i29 s29=some r) (fun i29 s29=>[(1,E8 l),(5,E8 ((out.1++out.2).take m7)),(6,Ei i29)]) (fun i29 s29=>[]) (fun i29=>((out.1++out.2).take m7).length - i29) 0 () h ⟨(.sm O O),G,O⟩ ?_
  clear h
  intro i29 s29 hi29 K29 e29
  refine Js fun hK30=>Jr fun hK31=>(JLm (Ei i29) O (JLm (E8 ((out.1++out.2).take m7)) O (JLl Qh O O O fun hm19=>(JLh (BL (decide ((i29:Int) < (((out.1++out.2).take m7).length:Int)))) (Hy O O O) O (G7 (hK31 (Gj O (fun hb=>?_) (fun hb=>?_))))))))
  ·
   have hk29:=J8 hb
   obtain⟨y29,nx29,hy29,hn29,h⟩:=Hj hi29 hk29
   replace h:=R8 hb29 h
   refine Gm (hK30 (Js fun hK32=>Gp (Js fun hK33=>?_)))
   obtain⟨y34,hy34,h⟩:=Gd h
   obtain⟨v35,hv35,h⟩:=Gd h
   obtain⟨r36,hr36,h⟩:=Gd h
   refine JC_d0 Jb (by kernel_rfl) (Dq (Ei i29) (G4 O O) O (Dq (E8 l) (G4 O O) O (Dq (Ei l.length) (Qs (f:=Row.av) (xs:=l) Qh O O) O (Dq (BL (decide ((i29:Int) < (l.length:Int)))) (Hy O O O) O (Dq (BL (decide ((i29:Int) < (l.length:Int)))) (G4 O O) O (Do (E8 ((out.1++out.2).take m7)) [] O .sct G (fun hc=>G4 O O) O (Do (Ei i29) [] O .sct G (fun hc=>G4 O O) O (Do (.dptr (Row.cs y29)) [28,29] O .sct ⟨Ua,Ua,G⟩ (fun hc=>Gv (f:=Row.av) (xs:=((out.1++out.2).take m7)) (y:=y29) O O O Qh hy29 O) O (Do (.agg (Row.cs y29)) [30] O .sct ⟨Ua,G⟩ (fun hc=>Gg H07 O O O) O (Do (E8 l) [] O .sct G (fun hc=>G4 O O) O (Do (Ei i29) [] O .sct G (fun hc=>G4 O O) O (Do (.dptr (Row.cs y34)) [32,33] O .sct ⟨Ua,Ua,G⟩ (fun hc=>(match Q0 (Gw hc hy34) with | ⟨_,hm_,hy_⟩=>Gv (f:=Row.av) (xs:=l) (y:=y34) O O O Qh hy_ hm_)) O (Do (.agg (Row.cs y34)) [34] O .sct ⟨Ua,G⟩ (fun hc=>Gg H07 O O O) O ?_)))))))))))))
   refine Do (BL (decide (y29=y34))) [31,35] O .sct ⟨Ua,Ua,G⟩ (fun hc=>Gfd (vs:=[.int .i64 y29.Draught,.int .i64 y29.Kilos,.int .i64 y29.Buoy,.int .i64 y29.Metacentre,.int .i64 y29.J04]) (us:=[.int .i64 y34.Draught,.int .i64 y34.Kilos,.int .i64 y34.Buoy,.int .i64 y34.Metacentre,.int .i64 y34.J04]) 4 O (R4f y29 y34) Hba J3e O O O) O (Do (BL (!(decide (y29=y34)))) [36] O .sct ⟨Ua,G⟩ (fun hc=>Q3 (b:=decide (y29=y34)) O O) O (Dq (BL ((decide ((i29:Int) < (l.length:Int)))&&(!(decide (y29=y34))))) (J4 O O O O) O (Dq (BL ((decide ((i29:Int) < (l.length:Int)))&&(!(decide (y29=y34))))) (G4 O O) O (Do (Ei i29) [] O .scf G (fun hc=>G4 O O) O (Do (E8 l) [] O .scf G (fun hc=>G4 O O) O (Do (Ei l.length) [41] O .scf ⟨Ua,G⟩ (fun hc=>Qs (f:=Row.av) (xs:=l) Qh O O) O (Do (BL (decide ((l.length:Int)≤(i29:Int)))) [40,42] O .scf ⟨Ua,Ua,G⟩ (fun hc=>G13 O O O) O (Do (BL (decide ((l.length:Int)≤(i29:Int)))) [43] O .scf ⟨Ua,G⟩ (fun hc=>G4 O O) O (Do (E8 ((out.1++out.2).take m7)) [] O .optt G (fun hc=>G4 O O) O (Do (Ei i29) [] O .optt G (fun hc=>G4 O O) O (Do (.dptr (Row.cs y29)) [45,46] O .optt ⟨Ua,Ua,G⟩ (fun hc=>Gv (f:=Row.av) (xs:=((out.1++out.2).take m7)) (y:=y29) O O O Qh hy29 O) O (Do (.agg (Row.cs y29)) [47] O .optt ⟨Ua,G⟩ (fun hc=>Gg H07 O O O) O (Do (Ei i29) [] O .optt G (fun hc=>G4 O O) O ?_)))))))))))))
   refine Do (E8 l) [] O .optt G (fun hc=>G4 O O) O (Do (Ei l.length) [50] O .optt ⟨Ua,G⟩ (fun hc=>Qs (f:=Row.av) (xs:=l) Qh O O) O (Do (I64 v35) [49,51] O .optt ⟨Ua,Ua,G⟩ (fun hc=>Ge4 (G2d (Gw hc hv35)) O O O) O (Do (.agg (Row.cs r36)) [52] O .optt ⟨Ua,G⟩ (fun hc=>Gi (args:=[I64 1,I64 v35]) O (Gc5 1 v35 r36 (Gw hc hr36)) Q0d ⟨O,O,O,O,G⟩) O (Do (BL (decide (y29=r36))) [48,53] O .optt ⟨Ua,Ua,G⟩ (fun hc=>Gfd (vs:=[.int .i64 y29.Draught,.int .i64 y29.Kilos,.int .i64 y29.Buoy,.int .i64 y29.Metacentre,.int .i64 y29.J04]) (us:=[.int .i64 r36.Draught,.int .i64 r36.Kilos,.int .i64 r36.Buoy,.int .i64 r36.Metacentre,.int .i64 r36.J04]) 4 O (R4f y29 r36) Hba J3e O O O) O (Do (BL (!(decide (y29=r36)))) [54] O .optt ⟨Ua,G⟩ (fun hc=>Q3 (b:=decide (y29=r36)) O O) O (Dg (.opt (!((decide ((i29:Int) < (l.length:Int)))&&(!(decide (y29=y34))))) (BL ((decide ((l.length:Int)≤(i29:Int)))&&(!(decide (y29=r36)))))) (Gh [(44,BL (decide ((l.length:Int)≤(i29:Int)))),(55,_)] O O O .scf ⟨.all id,.part,G⟩ (fun hc=>J4 O O O O) O) O (Dq (BL (((decide ((i29:Int) < (l.length:Int)))&&(!(decide (y29=y34))))||((decide ((l.length:Int)≤(i29:Int)))&&(!(decide (y29=r36)))))) (Rs O O O O) O (Dnil ?_))))))))
   refine hK33 (JCc O h (fun h hb=>?_) (fun h hb=>?_))
   ·
    refine Jr fun hK37=>(JLm (BL false) O (G7 (hK37 (Gq (fin1 BL h)))))
   ·
    refine Gm (hK32 (G2 (JLm (Ei i29) O (JLh (I64 ((i29+1:Nat):Int)) (Ht (Hb hk29 hm19) O O O) O (JLm (I64 ((i29+1:Nat):Int)) O (G7 (e29 _ _ (i29+1) () (app1 hn29 h) (by omega) ⟨(.sm O O),G,rfl⟩)))))))
  ·
   have h:=app1 hkx29 (Hk hi29 (H3 hb))
   refine Hi (hK8 (Jr fun hK38=>(JLm (BL true) O (G7 (hK38 (Gq (fin1 BL h)))))))

def Rv (out:Ln Frame) (l:List Frame):Option Bool:=
 bif decide ((out.1.length:Int)≠(l.length:Int)) then
 (some false)
 else
 (chk ((l.length:Int)+12) fun v6=>
  bnd (G70 v6 (out.1++out.2).length) fun m7=>
  each (fun y29 i29 (s29:Unit) nx29=>
   bnd (bif decide ((i29:Int) < (l.length:Int)) then Qm l (i29:Int) some else some default) fun y34=>
   bnd (bif ((!((decide ((i29:Int) < (l.length:Int)))&&(!(decide (y29=y34)))))&&(decide ((l.length:Int)≤(i29:Int)))) then chk ((i29:Int) - (l.length:Int)) some else some 0) fun v35=>
   bnd (bif ((!((decide ((i29:Int) < (l.length:Int)))&&(!(decide (y29=y34)))))&&(decide ((l.length:Int)≤(i29:Int)))) then R4 1 v35 else some default) fun r36=>
   bif (((decide ((i29:Int) < (l.length:Int)))&&(!(decide (y29=y34))))||((decide ((l.length:Int)≤(i29:Int)))&&(!(decide (y29=r36))))) then
   (some false)
   else
   (nx29 ()))
  (fun(s29:Unit)=>
   some true) ((out.1++out.2).take m7) 0 ())
theorem H43 (out:Ln Frame) (l:List Frame) (r:Bool) (h:Rv out l=some r):Pure Ej 47 [LT 5 Frame.av out,E7 l] (·=BL r):=by
 unfold Rv at h
 refine Gy [.tmp 4] Tryz.func47 O O (Jr fun hK1=>(JLm (BL false) O (G7 (hK1 (Js fun hK2=>Jr fun hK3=>(JLm (LT 5 Frame.av out) O (JLl Qg O O O fun hm8=>(JLm (E7 l) O (JLl Qg O O O fun hm10=>(JLh (BL (decide ((out.1.length:Int)≠(l.length:Int)))) (G1d O O O) O (G7 (hK3 (JCc O h (fun h hb=>?_) (fun h hb=>?_))))))))))))))
 ·
  refine Jr fun hK4=>(JLm (BL false) O (G7 (hK4 (Gq (fin1 BL h)))))
 ·
  refine Gm (hK2 (Jr fun hK5=>(JLm (LT 5 Frame.av out) O (JLm (E7 l) O (JLl Qg O O O fun hm14=>?_)))))
  obtain⟨v6,hv6,h⟩:=Qk h
  refine JLh (I64 v6) (Ht hv6 O O O) O ?_
  obtain⟨m7,hm7,h⟩:=Gd h
  refine JLh (E7 ((out.1++out.2).take m7)) (H93 (f:=Frame.av) (e:=out) O O O Qg (Zv hm7)) O (JLm (E7 ((out.1++out.2).take m7)) O (G7 (hK5 (Js fun hK8=>Jr fun hK9=>(JLm (I64 0) O (G7 (hK9 (Gp ?_))))))))
  obtain⟨b29,kx29,hb29,hkx29,h⟩:=Hv h
  refine Hc (fun i29 (s29:Unit)=>each b29 kx29 (List.drop i29 ((out.1++out.2).take m7)) i29 s29=some r) (fun i29 s29=>[(1,E7 l),(5,E7 ((out.1++out.2).take m7)),(6,Ei i29)]) (fun i29 s29=>[]) (fun i29=>((out.1++out.2).take m7).length - i29) 0 () h ⟨(.sm O O),G,O⟩ ?_
  clear h
  intro i29 s29 hi29 K29 e29
  refine Js fun hK30=>Jr fun hK31=>(JLm (Ei i29) O (JLm (E7 ((out.1++out.2).take m7)) O (JLl Qg O O O fun hm19=>(JLh (BL (decide ((i29:Int) < (((out.1++out.2).take m7).length:Int)))) (Hy O O O) O (G7 (hK31 (Gj O (fun hb=>?_) (fun hb=>?_))))))))
  ·
   have hk29:=J8 hb
   obtain⟨y29,nx29,hy29,hn29,h⟩:=Hj hi29 hk29
   replace h:=R8 hb29 h
   refine Gm (hK30 (Js fun hK32=>Gp (Js fun hK33=>?_)))
   obtain⟨y34,hy34,h⟩:=Gd h
   obtain⟨v35,hv35,h⟩:=Gd h
   obtain⟨r36,hr36,h⟩:=Gd h
   refine JC_d0 Jb (by kernel_rfl) (Dq (Ei i29) (G4 O O) O (Dq (E7 l) (G4 O O) O (Dq (Ei l.length) (Qs (f:=Frame.av) (xs:=l) Qg O O) O (Dq (BL (decide ((i29:Int) < (l.length:Int)))) (Hy O O O) O (Dq (BL (decide ((i29:Int) < (l.length:Int)))) (G4 O O) O (Do (E7 ((out.1++out.2).take m7)) [] O .sct G (fun hc=>G4 O O) O (Do (Ei i29) [] O .sct G (fun hc=>G4 O O) O (Do (.dptr (Frame.cs y29)) [28,29] O .sct ⟨Ua,Ua,G⟩ (fun hc=>Gv (f:=Frame.av) (xs:=((out.1++out.2).take m7)) (y:=y29) O O O Qg hy29 O) O (Do (.agg (Frame.cs y29)) [30] O .sct ⟨Ua,G⟩ (fun hc=>Gg H06 O O O) O (Do (E7 l) [] O .sct G (fun hc=>G4 O O) O (Do (Ei i29) [] O .sct G (fun hc=>G4 O O) O (Do (.dptr (Frame.cs y34)) [32,33] O .sct ⟨Ua,Ua,G⟩ (fun hc=>(match Q0 (Gw hc hy34) with | ⟨_,hm_,hy_⟩=>Gv (f:=Frame.av) (xs:=l) (y:=y34) O O O Qg hy_ hm_)) O (Do (.agg (Frame.cs y34)) [34] O .sct ⟨Ua,G⟩ (fun hc=>Gg H06 O O O) O ?_)))))))))))))
   refine Do (BL (decide (y29=y34))) [31,35] O .sct ⟨Ua,Ua,G⟩ (fun hc=>Gfd (vs:=[.int .i64 y29.X,.int .i64 y29.Light,.int .i64 y29.Share,.int .i64 y29.Shear,.int .i64 y29.Bend]) (us:=[.int .i64 y34.X,.int .i64 y34.Light,.int .i64 y34.Share,.int .i64 y34.Shear,.int .i64 y34.Bend]) 4 O (R4e y29 y34) Hb9 J3d O O O) O (Do (BL (!(decide (y29=y34)))) [36] O .sct ⟨Ua,G⟩ (fun hc=>Q3 (b:=decide (y29=y34)) O O) O (Dq (BL ((decide ((i29:Int) < (l.length:Int)))&&(!(decide (y29=y34))))) (J4 O O O O) O (Dq (BL ((decide ((i29:Int) < (l.length:Int)))&&(!(decide (y29=y34))))) (G4 O O) O (Do (Ei i29) [] O .scf G (fun hc=>G4 O O) O (Do (E7 l) [] O .scf G (fun hc=>G4 O O) O (Do (Ei l.length) [41] O .scf ⟨Ua,G⟩ (fun hc=>Qs (f:=Frame.av) (xs:=l) Qg O O) O (Do (BL (decide ((l.length:Int)≤(i29:Int)))) [40,42] O .scf ⟨Ua,Ua,G⟩ (fun hc=>G13 O O O) O (Do (BL (decide ((l.length:Int)≤(i29:Int)))) [43] O .scf ⟨Ua,G⟩ (fun hc=>G4 O O) O (Do (E7 ((out.1++out.2).take m7)) [] O .optt G (fun hc=>G4 O O) O (Do (Ei i29) [] O .optt G (fun hc=>G4 O O) O (Do (.dptr (Frame.cs y29)) [45,46] O .optt ⟨Ua,Ua,G⟩ (fun hc=>Gv (f:=Frame.av) (xs:=((out.1++out.2).take m7)) (y:=y29) O O O Qg hy29 O) O (Do (.agg (Frame.cs y29)) [47] O .optt ⟨Ua,G⟩ (fun hc=>Gg H06 O O O) O (Do (Ei i29) [] O .optt G (fun hc=>G4 O O) O ?_)))))))))))))
   refine Do (E7 l) [] O .optt G (fun hc=>G4 O O) O (Do (Ei l.length) [50] O .optt ⟨Ua,G⟩ (fun hc=>Qs (f:=Frame.av) (xs:=l) Qg O O) O (Do (I64 v35) [49,51] O .optt ⟨Ua,Ua,G⟩ (fun hc=>Ge4 (G2d (Gw hc hv35)) O O O) O (Do (.agg (Frame.cs r36)) [52] O .optt ⟨Ua,G⟩ (fun hc=>Gi (args:=[I64 1,I64 v35]) O (G9e 1 v35 r36 (Gw hc hr36)) Q0c ⟨O,O,O,O,G⟩) O (Do (BL (decide (y29=r36))) [48,53] O .optt ⟨Ua,Ua,G⟩ (fun hc=>Gfd (vs:=[.int .i64 y29.X,.int .i64 y29.Light,.int .i64 y29.Share,.int .i64 y29.Shear,.int .i64 y29.Bend]) (us:=[.int .i64 r36.X,.int .i64 r36.Light,.int .i64 r36.Share,.int .i64 r36.Shear,.int .i64 r36.Bend]) 4 O (R4e y29 r36) Hb9 J3d O O O) O (Do (BL (!(decide (y29=r36)))) [54] O .optt ⟨Ua,G⟩ (fun hc=>Q3 (b:=decide (y29=r36)) O O) O (Dg (.opt (!((decide ((i29:Int) < (l.length:Int)))&&(!(decide (y29=y34))))) (BL ((decide ((l.length:Int)≤(i29:Int)))&&(!(decide (y29=r36)))))) (Gh [(44,BL (decide ((l.length:Int)≤(i29:Int)))),(55,_)] O O O .scf ⟨.all id,.part,G⟩ (fun hc=>J4 O O O O) O) O (Dq (BL (((decide ((i29:Int) < (l.length:Int)))&&(!(decide (y29=y34))))||((decide ((l.length:Int)≤(i29:Int)))&&(!(decide (y29=r36)))))) (Rs O O O O) O (Dnil ?_))))))))
   refine hK33 (JCc O h (fun h hb=>?_) (fun h hb=>?_))
   ·
    refine Jr fun hK37=>(JLm (BL false) O (G7 (hK37 (Gq (fin1 BL h)))))
   ·
    refine Gm (hK32 (G2 (JLm (Ei i29) O (JLh (I64 ((i29+1:Nat):Int)) (Ht (Hb hk29 hm19) O O O) O (JLm (I64 ((i29+1:Nat):Int)) O (G7 (e29 _ _ (i29+1) () (app1 hn29 h) (by omega) ⟨(.sm O O),G,rfl⟩)))))))
  ·
   have h:=app1 hkx29 (Hk hi29 (H3 hb))
   refine Hi (hK8 (Jr fun hK38=>(JLm (BL true) O (G7 (hK38 (Gq (fin1 BL h)))))))

def Yp (x:Hm) (y:Gf):Option Bool:=
 bnd (Qb (Gf.mk x.Kilos x.X x.Y x.Z x.Surface x.Steps.1) y) fun r3=>
 bnd (bif r3 then Ji x.Steps y.Steps else some default) fun r4=>
 some (r3&&r4)
theorem H7f (x:Hm) (y:Gf) (r:Bool) (h:Yp x y=some r):Pure Ej 100 [.agg (Hm.cs x),.agg (Gf.cs y)] (·=BL r):=by
 unfold Yp at h
 refine Gy [.tmp 4] Tryz.func100 O O (Jr fun hK1=>(JLh (.ptr 1155 0) (J7 (cs:=[I64 x.Kilos,I64 x.X,I64 x.Y,I64 x.Z,I64 x.Surface,LT 1 I64 x.Steps]) 1155 O O O O O) O (JLh (.ptr 1156 0) (J7 (cs:=[I64 y.Kilos,I64 y.X,I64 y.Y,I64 y.Z,I64 y.Surface,E1 y.Steps]) 1156 O O O O O) O (JLm (BL false) O (G7 (hK1 (Gr [(2,.dptr (Hm.cs x)),(3,.ptr 1156 0)] [(1156,.box 114 [I64 y.Kilos,I64 y.X,I64 y.Y,I64 y.Z,I64 y.Surface,E1 y.Steps])] 1155 rfl rfl rfl ⟨⟨_,rfl,.boxEq rfl rfl⟩,G⟩ rfl (by exact⟨.ptr,.conv (.same rfl),G⟩) (Gr [(2,.dptr (Hm.cs x)),(3,Eh y)] [] 1156 rfl rfl rfl G rfl (by exact⟨.conv (.same rfl),.ptr,G⟩) ?_))))))))
 refine Jr fun hK2=>(JLh (.agg [I64 x.Kilos,I64 x.X,I64 x.Y,I64 x.Z,I64 x.Surface,E1 x.Steps.1]) (H5.cv (Cv.aggL (cs:=(Hm.cs x)) ⟨.same,.same,.same,.same,.same,Cv.lst0 x.Steps,G⟩) (Gg G3b O O O)) O (JLh (.agg (Gf.cs y)) (Gg G3b O O O) O ?_))
 obtain⟨r3,hr3,h⟩:=Gd h
 refine JLh (BL r3) (Gi O (G53 (Gf.mk x.Kilos x.X x.Y x.Z x.Surface x.Steps.1) y r3 hr3) Hf0 ⟨O,O,O,O,G⟩) O (JLm (BL r3) O (JLo (.dptr [LT 1 I64 x.Steps]) [] O .sct G (fun hc=>Ga G6f O O O) O (JLo (LT 1 I64 x.Steps) [9] O .sct ⟨Ua,G⟩ (fun hc=>Ge J1 O O O) O (JLo (.dptr [E1 y.Steps]) [] O .sct G (fun hc=>Ga G6f O O O) O (JLo (E1 y.Steps) [11] O .sct ⟨Ua,G⟩ (fun hc=>Ge J1 O O O) O ?_)))))
 obtain⟨r4,hr4,h⟩:=Gd h
 refine JLo (BL r4) [10,12] O .sct ⟨Ua,Ua,G⟩ (fun hc=>Gi (args:=[LT 1 I64 x.Steps,E1 y.Steps]) O (G55 x.Steps y.Steps r4 (Gw hc hr4)) Hec ⟨O,O,O,O,G⟩) O (JLh (BL (r3&&r4)) (J4 O O O O) O (JLm (BL (r3&&r4)) O (G7 (hK2 (Gq (fin1 BL h))))))

def Ya (out:Ln Hm) (l:List Gf):Option Bool:=
 bif decide ((out.1.length:Int)≠(l.length:Int)) then
 (some false)
 else
 (chk ((l.length:Int)+12) fun v6=>
  bnd (G70 v6 (out.1++out.2).length) fun m7=>
  each (fun y33 i33 (s33:Unit) nx33=>
   bnd (bif decide ((i33:Int) < (l.length:Int)) then Qm l (i33:Int) some else some default) fun y38=>
   bnd (bif decide ((i33:Int) < (l.length:Int)) then Yp y33 y38 else some default) fun r39=>
   bnd (bif ((!((decide ((i33:Int) < (l.length:Int)))&&(!r39)))&&(decide ((l.length:Int)≤(i33:Int)))) then chk ((i33:Int) - (l.length:Int)) some else some 0) fun v40=>
   bnd (bif ((!((decide ((i33:Int) < (l.length:Int)))&&(!r39)))&&(decide ((l.length:Int)≤(i33:Int)))) then Rf 1 v40 else some default) fun r41=>
   bnd (bif ((!((decide ((i33:Int) < (l.length:Int)))&&(!r39)))&&(decide ((l.length:Int)≤(i33:Int)))) then Qb (Gf.mk y33.Kilos y33.X y33.Y y33.Z y33.Surface y33.Steps.1) r41 else some default) fun r42=>
   bif (((decide ((i33:Int) < (l.length:Int)))&&(!r39))||((decide ((l.length:Int)≤(i33:Int)))&&(!r42))) then
   (some false)
   else
   (nx33 ()))
  (fun(s33:Unit)=>
   some true) ((out.1++out.2).take m7) 0 ())
theorem H70 (out:Ln Hm) (l:List Gf) (r:Bool) (h:Ya out l=some r):Pure Ej 48 [LT 6 Hm.av out,E9 l] (·=BL r):=by
 unfold Ya at h
 refine Gy [.tmp 4] Tryz.func48 O O (Jr fun hK1=>(JLm (BL false) O (G7 (hK1 (Js fun hK2=>Jr fun hK3=>(JLm (LT 6 Hm.av out) O (JLl Q2 O O O fun hm8=>(JLm (E9 l) O (JLl Q2 O O O fun hm10=>(JLh (BL (decide ((out.1.length:Int)≠(l.length:Int)))) (G1d O O O) O (G7 (hK3 (JCc O h (fun h hb=>?_) (fun h hb=>?_))))))))))))))
 ·
  refine Jr fun hK4=>(JLm (BL false) O (G7 (hK4 (Gq (fin1 BL h)))))
 ·
  refine Gm (hK2 (Jr fun hK5=>(JLm (LT 6 Hm.av out) O (JLm (E9 l) O (JLl Q2 O O O fun hm14=>?_)))))
  obtain⟨v6,hv6,h⟩:=Qk h
  refine JLh (I64 v6) (Ht hv6 O O O) O ?_
  obtain⟨m7,hm7,h⟩:=Gd h
  refine JLh (LS 6 Hm.av ((out.1++out.2).take m7)) (H93 (f:=Hm.av) (e:=out) O O O Q2 (Zv hm7)) O (JLm (LS 6 Hm.av ((out.1++out.2).take m7)) O (G7 (hK5 (Js fun hK8=>Jr fun hK9=>(JLm (I64 0) O (G7 (hK9 (Gp ?_))))))))
  obtain⟨b33,kx33,hb33,hkx33,h⟩:=Hv h
  refine Hc (fun i33 (s33:Unit)=>each b33 kx33 (List.drop i33 ((out.1++out.2).take m7)) i33 s33=some r) (fun i33 s33=>[(1,E9 l),(5,LS 6 Hm.av ((out.1++out.2).take m7)),(6,Ei i33)]) (fun i33 s33=>[]) (fun i33=>((out.1++out.2).take m7).length - i33) 0 () h ⟨(.sm O O),G,O⟩ ?_
  clear h
  intro i33 s33 hi33 K33 e33
  refine Js fun hK34=>Jr fun hK35=>(JLm (Ei i33) O (JLm (LS 6 Hm.av ((out.1++out.2).take m7)) O (JLl Q2 O O O fun hm19=>(JLh (BL (decide ((i33:Int) < (((out.1++out.2).take m7).length:Int)))) (Hy O O O) O (G7 (hK35 (Gj O (fun hb=>?_) (fun hb=>?_))))))))
  ·
   have hk33:=J8 hb
   obtain⟨y33,nx33,hy33,hn33,h⟩:=Hj hi33 hk33
   replace h:=R8 hb33 h
   refine Gm (hK34 (Js fun hK36=>Gp (Js fun hK37=>?_)))
   obtain⟨y38,hy38,h⟩:=Gd h
   obtain⟨r39,hr39,h⟩:=Gd h
   obtain⟨v40,hv40,h⟩:=Gd h
   obtain⟨r41,hr41,h⟩:=Gd h
   obtain⟨r42,hr42,h⟩:=Gd h
   refine JC_d0 Jb (by kernel_rfl) (Dq (Ei i33) (G4 O O) O (Dq (E9 l) (G4 O O) O (Dq (Ei l.length) (Qs (f:=Gf.av) (xs:=l) Q2 O O) O (Dq (BL (decide ((i33:Int) < (l.length:Int)))) (Hy O O O) O (Dq (BL (decide ((i33:Int) < (l.length:Int)))) (G4 O O) O (Do (LS 6 Hm.av ((out.1++out.2).take m7)) [] O .sct G (fun hc=>G4 O O) O (Do (Ei i33) [] O .sct G (fun hc=>G4 O O) O (Do (.dptr (Hm.cs y33)) [28,29] O .sct ⟨Ua,Ua,G⟩ (fun hc=>Gv (f:=Hm.av) (xs:=((out.1++out.2).take m7)) (y:=y33) O O O Q2 hy33 O) O (Do (.agg (Hm.cs y33)) [30] O .sct ⟨Ua,G⟩ (fun hc=>Gg G3b O O O) O (Do (E9 l) [] O .sct G (fun hc=>G4 O O) O (Do (Ei i33) [] O .sct G (fun hc=>G4 O O) O (Do (Eh y38) [32,33] O .sct ⟨Ua,Ua,G⟩ (fun hc=>(match Q0 (Gw hc hy38) with | ⟨_,hm_,hy_⟩=>Gv (f:=Gf.av) (xs:=l) (y:=y38) O O O Q2 hy_ hm_)) O (Do (.agg (Gf.cs y38)) [34] O .sct ⟨Ua,G⟩ (fun hc=>Gg G3b O O O) O ?_)))))))))))))
   refine Do (BL r39) [31,35] O .sct ⟨Ua,Ua,G⟩ (fun hc=>Gi (args:=[.agg (Hm.cs y33),.agg (Gf.cs y38)]) O (H7f y33 y38 r39 (Gw hc hr39)) R11 ⟨O,O,O,O,G⟩) O (Do (BL (!r39)) [36] O .sct ⟨Ua,G⟩ (fun hc=>Q3 (b:=r39) O O) O (Dq (BL ((decide ((i33:Int) < (l.length:Int)))&&(!r39))) (J4 O O O O) O (Dq (BL ((decide ((i33:Int) < (l.length:Int)))&&(!r39))) (G4 O O) O (Do (Ei i33) [] O .scf G (fun hc=>G4 O O) O (Do (E9 l) [] O .scf G (fun hc=>G4 O O) O (Do (Ei l.length) [41] O .scf ⟨Ua,G⟩ (fun hc=>Qs (f:=Gf.av) (xs:=l) Q2 O O) O (Do (BL (decide ((l.length:Int)≤(i33:Int)))) [40,42] O .scf ⟨Ua,Ua,G⟩ (fun hc=>G13 O O O) O (Do (BL (decide ((l.length:Int)≤(i33:Int)))) [43] O .scf ⟨Ua,G⟩ (fun hc=>G4 O O) O (Do (LS 6 Hm.av ((out.1++out.2).take m7)) [] O .optt G (fun hc=>G4 O O) O (Do (Ei i33) [] O .optt G (fun hc=>G4 O O) O (Do (.dptr (Hm.cs y33)) [45,46] O .optt ⟨Ua,Ua,G⟩ (fun hc=>Gv (f:=Hm.av) (xs:=((out.1++out.2).take m7)) (y:=y33) O O O Q2 hy33 O) O (Do (.agg [I64 y33.Kilos,I64 y33.X,I64 y33.Y,I64 y33.Z,I64 y33.Surface,E1 y33.Steps.1]) [47] O .optt ⟨Ua,G⟩ (fun hc=>H5.cv (Cv.aggL (cs:=(Hm.cs y33)) ⟨.same,.same,.same,.same,.same,Cv.lst0 y33.Steps,G⟩) (Gg G3b O O O)) O (Do (Ei i33) [] O .optt G (fun hc=>G4 O O) O ?_)))))))))))))
   refine Do (E9 l) [] O .optt G (fun hc=>G4 O O) O (Do (Ei l.length) [50] O .optt ⟨Ua,G⟩ (fun hc=>Qs (f:=Gf.av) (xs:=l) Q2 O O) O (Do (I64 v40) [49,51] O .optt ⟨Ua,Ua,G⟩ (fun hc=>Ge4 (G2d (Gw hc hv40)) O O O) O (Do (.agg (Gf.cs r41)) [52] O .optt ⟨Ua,G⟩ (fun hc=>Gi (args:=[I64 1,I64 v40]) O (Gb9 1 v40 r41 (Gw hc hr41)) Q0b ⟨O,O,O,O,G⟩) O (Do (BL r42) [48,53] O .optt ⟨Ua,Ua,G⟩ (fun hc=>Gi (args:=[.agg [I64 y33.Kilos,I64 y33.X,I64 y33.Y,I64 y33.Z,I64 y33.Surface,E1 y33.Steps.1],.agg (Gf.cs r41)]) O (G53 (Gf.mk y33.Kilos y33.X y33.Y y33.Z y33.Surface y33.Steps.1) r41 r42 (Gw hc hr42)) Hf0 ⟨O,O,O,O,G⟩) O (Do (BL (!r42)) [54] O .optt ⟨Ua,G⟩ (fun hc=>Q3 (b:=r42) O O) O (Dg (.opt (!((decide ((i33:Int) < (l.length:Int)))&&(!r39))) (BL ((decide ((l.length:Int)≤(i33:Int)))&&(!r42)))) (Gh [(44,BL (decide ((l.length:Int)≤(i33:Int)))),(55,_)] O O O .scf ⟨.all id,.part,G⟩ (fun hc=>J4 O O O O) O) O (Dq (BL (((decide ((i33:Int) < (l.length:Int)))&&(!r39))||((decide ((l.length:Int)≤(i33:Int)))&&(!r42)))) (Rs O O O O) O (Dnil ?_))))))))
   refine hK37 (JCc O h (fun h hb=>?_) (fun h hb=>?_))
   ·
    refine Jr fun hK43=>(JLm (BL false) O (G7 (hK43 (Gq (fin1 BL h)))))
   ·
    refine Gm (hK36 (G2 (JLm (Ei i33) O (JLh (I64 ((i33+1:Nat):Int)) (Ht (Hb hk33 hm19) O O O) O (JLm (I64 ((i33+1:Nat):Int)) O (G7 (e33 _ _ (i33+1) () (app1 hn33 h) (by omega) ⟨(.sm O O),G,rfl⟩)))))))
  ·
   have h:=app1 hkx33 (Hk hi33 (H3 hb))
   refine Hi (hK8 (Jr fun hK44=>(JLm (BL true) O (G7 (hK44 (Gq (fin1 BL h)))))))

def Yq (x:Rq) (y:H0):Option Bool:=
 bnd (Zz (H0.mk (x.Columns.1.map Gz.pl) (x.Covers.1.map H9.pl) x.Light x.Rows.1 x.Frames.1 (x.Tanks.1.map Hm.pl) x.G1) y) fun r3=>
 bnd (bif r3 then Rj x.Columns y.Columns else some default) fun r4=>
 bnd (bif (r3&&r4) then Rw x.Covers y.Covers else some default) fun r5=>
 bnd (bif ((r3&&r4)&&r5) then Yr x.Rows y.Rows else some default) fun r6=>
 bnd (bif (((r3&&r4)&&r5)&&r6) then Rv x.Frames y.Frames else some default) fun r7=>
 bnd (bif ((((r3&&r4)&&r5)&&r6)&&r7) then Ya x.Tanks y.Tanks else some default) fun r8=>
 some (((((r3&&r4)&&r5)&&r6)&&r7)&&r8)
theorem Gbb (x:Rq) (y:H0) (r:Bool) (h:Yq x y=some r):Pure Ej 17 [.agg (Rq.cs x),.agg (H0.cs y)] (·=BL r):=by
 unfold Yq at h
 refine Gy [.tmp 4] Tryz.func17 O O (Jr fun hK1=>(JLh (.ptr 1030 0) (J7 (cs:=(Rq.cs x)) 1030 O O O O O) O (JLh (.ptr 1031 0) (J7 (cs:=(H0.cs y)) 1031 O O O O O) O (JLm (BL false) O (G7 (hK1 ?_))))))
 refine Gr [(2,.dptr (Rq.cs x)),(3,.ptr 1031 0)] [(1031,.box 32 (H0.cs y))] 1030 rfl rfl rfl ⟨⟨_,rfl,.boxEq rfl rfl⟩,G⟩ rfl (by exact⟨.ptr,.conv (.same rfl),G⟩) (Gr [(2,.dptr (Rq.cs x)),(3,Eb y)] [] 1031 rfl rfl rfl G rfl (by exact⟨.conv (.same rfl),.ptr,G⟩) ?_)
 refine Jr fun hK2=>(JLh (.agg [E5 (x.Columns.1.map Gz.pl),E6 (x.Covers.1.map H9.pl),I64 x.Light.Kilos,I64 x.Light.X,I64 x.Light.Y,I64 x.Light.Z,E8 x.Rows.1,E7 x.Frames.1,E9 (x.Tanks.1.map Hm.pl),I64 x.G1.Tolerance,I64 x.G1.Trim,I64 x.G1.List_,I64 x.G1.Stability]) (H5.cv (Cv.aggL (cs:=(Rq.cs x)) ⟨Cv.lstM (f:=Gz.av) (g:=G3.av) Gz.pl Gz.cvl x.Columns,Cv.lstM (f:=H9.av) (g:=G8.av) H9.pl H9.cvl x.Covers,.same,.same,.same,.same,Cv.lst0 x.Rows,Cv.lst0 x.Frames,Cv.lstM (f:=Hm.av) (g:=Gf.av) Hm.pl Hm.cvl x.Tanks,.same,.same,.same,.same,G⟩) (Gg H7 O O O)) O (JLh (.agg (H0.cs y)) (Gg H7 O O O) O ?_))
 obtain⟨r3,hr3,h⟩:=Gd h
 refine JLh (BL r3) (Gi O (H7b (H0.mk (x.Columns.1.map Gz.pl) (x.Covers.1.map H9.pl) x.Light x.Rows.1 x.Frames.1 (x.Tanks.1.map Hm.pl) x.G1) y r3 hr3) R72 ⟨O,O,O,O,G⟩) O (JLm (BL r3) O (JLo (.dptr (Rq.cs x)) [] O .sct G (fun hc=>Ga Hh O O O) O (JLo (LT 12 Gz.av x.Columns) [9] O .sct ⟨Ua,G⟩ (fun hc=>Ge Ho O O O) O (JLo (Eb y) [] O .sct G (fun hc=>Ga Hh O O O) O (JLo (E5 y.Columns) [11] O .sct ⟨Ua,G⟩ (fun hc=>Ge Ho O O O) O ?_)))))
 obtain⟨r4,hr4,h⟩:=Gd h
 refine JLo (BL r4) [10,12] O .sct ⟨Ua,Ua,G⟩ (fun hc=>Gi (args:=[LT 12 Gz.av x.Columns,E5 y.Columns]) O (H34 x.Columns y.Columns r4 (Gw hc hr4)) R71 ⟨O,O,O,O,G⟩) O (JLh (BL (r3&&r4)) (J4 O O O O) O (JLm (BL (r3&&r4)) O (JLo (.dptr ((Rq.cs x).drop 1)) [] O .sct G (fun hc=>Ga Jg O O O) O (JLo (LT 2 H9.av x.Covers) [16] O .sct ⟨Ua,G⟩ (fun hc=>Ge Jv O O O) O (JLo (.dptr ((H0.cs y).drop 1)) [] O .sct G (fun hc=>Ga Jg O O O) O (JLo (E6 y.Covers) [18] O .sct ⟨Ua,G⟩ (fun hc=>Ge Jv O O O) O ?_))))))
 obtain⟨r5,hr5,h⟩:=Gd h
 refine JLo (BL r5) [17,19] O .sct ⟨Ua,Ua,G⟩ (fun hc=>Gi (args:=[LT 2 H9.av x.Covers,E6 y.Covers]) O (H44 x.Covers y.Covers r5 (Gw hc hr5)) R70 ⟨O,O,O,O,G⟩) O (JLh (BL ((r3&&r4)&&r5)) (J4 O O O O) O (JLm (BL ((r3&&r4)&&r5)) O (JLo (.dptr ((Rq.cs x).drop 6)) [] O .sct G (fun hc=>Ga G84 O O O) O (JLo (LT 5 Row.av x.Rows) [23] O .sct ⟨Ua,G⟩ (fun hc=>Ge Gea O O O) O (JLo (.dptr ((H0.cs y).drop 6)) [] O .sct G (fun hc=>Ga G84 O O O) O (JLo (E8 y.Rows) [25] O .sct ⟨Ua,G⟩ (fun hc=>Ge Gea O O O) O ?_))))))
 obtain⟨r6,hr6,h⟩:=Gd h
 refine JLo (BL r6) [24,26] O .sct ⟨Ua,Ua,G⟩ (fun hc=>Gi (args:=[LT 5 Row.av x.Rows,E8 y.Rows]) O (H80 x.Rows y.Rows r6 (Gw hc hr6)) R6f ⟨O,O,O,O,G⟩) O (JLh (BL (((r3&&r4)&&r5)&&r6)) (J4 O O O O) O (JLm (BL (((r3&&r4)&&r5)&&r6)) O (JLo (.dptr ((Rq.cs x).drop 7)) [] O .sct G (fun hc=>Ga G83 O O O) O (JLo (LT 5 Frame.av x.Frames) [30] O .sct ⟨Ua,G⟩ (fun hc=>Ge Ge9 O O O) O (JLo (.dptr ((H0.cs y).drop 7)) [] O .sct G (fun hc=>Ga G83 O O O) O (JLo (E7 y.Frames) [32] O .sct ⟨Ua,G⟩ (fun hc=>Ge Ge9 O O O) O ?_))))))
 obtain⟨r7,hr7,h⟩:=Gd h
 refine JLo (BL r7) [31,33] O .sct ⟨Ua,Ua,G⟩ (fun hc=>Gi (args:=[LT 5 Frame.av x.Frames,E7 y.Frames]) O (H43 x.Frames y.Frames r7 (Gw hc hr7)) R6e ⟨O,O,O,O,G⟩) O (JLh (BL ((((r3&&r4)&&r5)&&r6)&&r7)) (J4 O O O O) O (JLm (BL ((((r3&&r4)&&r5)&&r6)&&r7)) O (JLo (.dptr ((Rq.cs x).drop 8)) [] O .sct G (fun hc=>Ga G82 O O O) O (JLo (LT 6 Hm.av x.Tanks) [37] O .sct ⟨Ua,G⟩ (fun hc=>Ge Ge8 O O O) O (JLo (.dptr ((H0.cs y).drop 8)) [] O .sct G (fun hc=>Ga G82 O O O) O (JLo (E9 y.Tanks) [39] O .sct ⟨Ua,G⟩ (fun hc=>Ge Ge8 O O O) O ?_))))))
 obtain⟨r8,hr8,h⟩:=Gd h
 refine JLo (BL r8) [38,40] O .sct ⟨Ua,Ua,G⟩ (fun hc=>Gi (args:=[LT 6 Hm.av x.Tanks,E9 y.Tanks]) O (H70 x.Tanks y.Tanks r8 (Gw hc hr8)) R6d ⟨O,O,O,O,G⟩) O (JLh (BL (((((r3&&r4)&&r5)&&r6)&&r7)&&r8)) (J4 O O O O) O (JLm (BL (((((r3&&r4)&&r5)&&r6)&&r7)&&r8)) O (G7 (hK2 (Gq (fin1 BL h))))))

def Y2 (k:Int) (i:Int):Option Box:=
 bnd (Jw k i) fun r3=>
 some (Box.mk r3 ByteArray.empty 0 false 0 0 0 0 false)
theorem Gc6 (k:Int) (i:Int) (r:Box) (h:Y2 k i=some r):Pure Ej 30 [I64 k,I64 i] (·=.agg (Box.cs r)):=by
 unfold Y2 at h
 refine Gy [.cell 4 69] Tryz.func30 O O (Jr fun hK1=>(JLh (.ptr 1054 0) (G34 1054 [I64 0,ST Kc,U8 0,BL false,I64 0,I64 0,I64 0,U8 0,BL false] [E0,.string ByteArray.empty,.int .u8 0,.bool false,E0,E0,E0,.int .u8 0,.bool false] G1e ⟨.inl O,.inl O,.inl O,.inl O,.inl O,.inl O,.inl O,.inl O,.inl O,G⟩ O O) O (G7 (hK1 (Jr fun hK2=>(JLm (I64 k) O (JLm (I64 i) O ?_)))))))
 obtain⟨r3,hr3,h⟩:=Gd h
 refine JLh (I64 r3) (Gi O (Qu k i r3 hr3) G7a ⟨O,O,O,O,G⟩) O (JLh (.agg [I64 r3,ST Kc,U8 0,BL false,I64 0,I64 0,I64 0,U8 0,BL false]) (Jk (cs:=[I64 r3,ST Kc,U8 0,BL false,I64 0,I64 0,I64 0,U8 0,BL false]) [(0,1),(1,1),(2,1),(3,1),(4,1),(5,1),(6,1),(7,1),(8,1)] [I64 0,ST Kc,U8 0,BL false,I64 0,I64 0,I64 0,U8 0,BL false] [E0,.string ByteArray.empty,.int .u8 0,.bool false,E0,E0,E0,.int .u8 0,.bool false] G24 G1e ⟨.inl O,.inl O,.inl O,.inl O,.inl O,.inl O,.inl O,.inl O,.inl O,G⟩ O O) O (Je (u:=.junk) (J5 (u:=.agg [I64 r3,ST Kc,U8 0,BL false,I64 0,I64 0,I64 0,U8 0,BL false]) (ds:=[I64 r3,ST Kc,U8 0,BL false,I64 0,I64 0,I64 0,U8 0,BL false]) Zs O O O O O O O O) (G7 (hK2 ?_))))
 refine Gq (⟨[.agg [I64 r3,ST Kc,U8 0,BL false,I64 0,I64 0,I64 0,U8 0,BL false]],[],G,O,⟨⟨_,⟨_,_,_,_,O,O,O,.inl ⟨G48,O⟩⟩,.conv (.same O)⟩,G⟩,O,congrArg (fun r:Box=>(.agg (Box.cs r):AV)) (Kj h)⟩)

def Y9 (l:List Box):Option (Ln Box):=
 chk ((l.length:Int)+12) fun v3=>
 bnd (Gd7 v3) fun m4=>
 need (decide (64*m4≤281474976710656∧m4≤maxLen)) <|
 need (decide ((([]:List Box).length+l.length)*64≤140737488355328∧([]:List Box).length+l.length≤maxLen)) <|
 need (decide (12≤9223372036854775807)) <|
 upto (fun i19 (s19:(List Box)) nx19=>
  bnd (Y2 1 (i19:Int)) fun r23=>
  need (decide ((s19.length+[r23].length)*64≤140737488355328∧s19.length+[r23].length≤maxLen)) <|
  nx19 (s19++[r23]))
 (fun(s19:(List Box))=>
  bnd (G70 (l.length:Int) s19.length) fun m26=>
  some (s19.take m26,s19.drop m26)) (12:Int).toNat 0 (([]:List Box)++l)
theorem Ga1 (l:List Box) (r:(Ln Box)) (h:Y9 l=some r):Pure Ej 8 [E3 l] (·=LT 9 Box.av r):=by
 unfold Y9 at h
 refine Gy [.tmp 2] Tryz.func8 O O (Jr fun hK1=>(JLh (E3 ([]:List Box)) (H2 9 O O) O (G7 (hK1 (Jr fun hK2=>(JLm (E3 l) O (JLl Q1 O O O fun hm6=>?_)))))))
 obtain⟨v3,hv3,h⟩:=Qk h
 refine JLh (I64 v3) (Ht hv3 O O O) O ?_
 obtain⟨m4,hm4,h⟩:=Gd h
 obtain⟨ha5,h⟩:=Hp h
 refine JLh (OW 1011 9 Box.av ([]:List Box)) (Ge5 1011 O O O O Q1 J3f O (G56 hm4) ha5) O (JLm (OW 1011 9 Box.av ([]:List Box)) O (G7 (hK2 (Jr fun hK6=>(JLm (OW 1011 9 Box.av ([]:List Box)) O (JLm (E3 l) O ?_))))))
 obtain⟨ha7,h⟩:=Hp h
 refine JLh (OW 1011 9 Box.av (([]:List Box)++l)) (H12 (f:=Box.av) (xs:=([]:List Box)) (ys:=l) O O O O Q1 J3f ha7 (fun _=>O) (.inl O)) O (JLm (OW 1011 9 Box.av (([]:List Box)++l)) O (G7 (hK6 (Js fun hK8=>Jr fun hK9=>(JLm (I64 0) O (G7 (hK9 (Gp ?_))))))))
 obtain⟨hx19,h⟩:=Hp h
 obtain⟨b19,kx19,hb19,hkx19,h⟩:=G8a h
 refine Hc (fun i19 (s19:(List Box))=>upto b19 kx19 ((12:Int).toNat - i19) i19 s19=some r) (fun i19 s19=>[(0,E3 l),(3,OW 1011 9 Box.av s19),(4,Ei i19)]) (fun i19 s19=>[(1011,.spare 69 9 s19.length s19.length)]) (fun i19=>(12:Int).toNat - i19) 0 (([]:List Box)++l) h ⟨(.sm O O),⟨⟨_,O,.same⟩,G⟩,O⟩ ?_
 clear h
 intro i19 s19 hi19 K19 e19
 refine Js fun hK20=>Jr fun hK21=>(JLm (Ei i19) O (JLh (BL (decide ((i19:Int) < 12))) (Hy O O O) O (G7 (hK21 (Gj O (fun hb=>?_) (fun hb=>?_))))))
 ·
  have hk19:=G5d hb
  obtain⟨nx19,hn19,h⟩:=G58 hi19 hk19
  replace h:=J02 hb19 h
  refine Gm (hK20 (Js fun hK22=>Gp (G2 (JLm (OW 1011 9 Box.av s19) O (JLm (Ei i19) O ?_)))))
  obtain⟨r23,hr23,h⟩:=Gd h
  refine JLh (.agg (Box.cs r23)) (Gi O (Gc6 1 (i19:Int) r23 hr23) Q15 ⟨O,O,O,O,G⟩) O (JLh (E3 [r23]) (Ha (xs:=[.agg (Box.cs r23)]) O ⟨O,O,G⟩ Q1 G16 O O O O) O ?_)
  obtain⟨ha24,h⟩:=Hp h
  refine JLh (OW 1011 9 Box.av (s19++[r23])) (Q8 (f:=Box.av) (xs:=s19) (ys:=[r23]) O O O O Q1 J3f ha24 (fun _=>O) (.inl O) O) O (JLm (OW 1011 9 Box.av (s19++[r23])) O (G7 (hK22 (G2 (JLm (Ei i19) O (JLh (I64 ((i19+1:Nat):Int)) (Ht (Hb hk19 (G36 hx19)) O O O) O (JLm (I64 ((i19+1:Nat):Int)) O (G7 (e19 _ _ (i19+1) (s19++[r23]) (app1 hn19 h) (by omega) ⟨(.sm O O),⟨⟨_,rfl,.same⟩,G⟩,rfl⟩)))))))))
 ·
  have h:=app1 hkx19 (G59 hi19 (Yi hb))
  refine Hi (hK8 (Jr fun hK25=>(JLm (OW 1011 9 Box.av s19) O (JLm (E3 l) O (JLl Q1 O O O fun hm23=>?_)))))
  obtain⟨m26,hm26,h⟩:=Gd h
  refine JLh (LT 9 Box.av (s19.take m26,s19.drop m26)) (Jdf (f:=Box.av) (xs:=s19) O O O Q1 (Zv hm26)) O (JLm (LT 9 Box.av (s19.take m26,s19.drop m26)) O (G7 (hK25 (Gq (fin1 (fun r:(Ln Box)=>(LT 9 Box.av r:AV)) h)))))

def Yc (out:Ln Box) (l:List Box):Option Bool:=
 bif decide ((out.1.length:Int)≠(l.length:Int)) then
 (some false)
 else
 (chk ((l.length:Int)+12) fun v6=>
  bnd (G70 v6 (out.1++out.2).length) fun m7=>
  each (fun y29 i29 (s29:Unit) nx29=>
   bnd (bif decide ((i29:Int) < (l.length:Int)) then Qm l (i29:Int) some else some default) fun y34=>
   bnd (bif ((!((decide ((i29:Int) < (l.length:Int)))&&(!(decide (y29=y34)))))&&(decide ((l.length:Int)≤(i29:Int)))) then chk ((i29:Int) - (l.length:Int)) some else some 0) fun v35=>
   bnd (bif ((!((decide ((i29:Int) < (l.length:Int)))&&(!(decide (y29=y34)))))&&(decide ((l.length:Int)≤(i29:Int)))) then Y2 1 v35 else some default) fun r36=>
   bif (((decide ((i29:Int) < (l.length:Int)))&&(!(decide (y29=y34))))||((decide ((l.length:Int)≤(i29:Int)))&&(!(decide (y29=r36))))) then
   (some false)
   else
   (nx29 ()))
  (fun(s29:Unit)=>
   some true) ((out.1++out.2).take m7) 0 ())
theorem Ga2 (out:Ln Box) (l:List Box) (r:Bool) (h:Yc out l=some r):Pure Ej 18 [LT 9 Box.av out,E3 l] (·=BL r):=by
 unfold Yc at h
 refine Gy [.tmp 4] Tryz.func18 O O (Jr fun hK1=>(JLm (BL false) O (G7 (hK1 (Js fun hK2=>Jr fun hK3=>(JLm (LT 9 Box.av out) O (JLl Q1 O O O fun hm8=>(JLm (E3 l) O (JLl Q1 O O O fun hm10=>(JLh (BL (decide ((out.1.length:Int)≠(l.length:Int)))) (G1d O O O) O (G7 (hK3 (JCc O h (fun h hb=>?_) (fun h hb=>?_))))))))))))))
 ·
  refine Jr fun hK4=>(JLm (BL false) O (G7 (hK4 (Gq (fin1 BL h)))))
 ·
  refine Gm (hK2 (Jr fun hK5=>(JLm (LT 9 Box.av out) O (JLm (E3 l) O (JLl Q1 O O O fun hm14=>?_)))))
  obtain⟨v6,hv6,h⟩:=Qk h
  refine JLh (I64 v6) (Ht hv6 O O O) O ?_
  obtain⟨m7,hm7,h⟩:=Gd h
  refine JLh (E3 ((out.1++out.2).take m7)) (H93 (f:=Box.av) (e:=out) O O O Q1 (Zv hm7)) O (JLm (E3 ((out.1++out.2).take m7)) O (G7 (hK5 (Js fun hK8=>Jr fun hK9=>(JLm (I64 0) O (G7 (hK9 (Gp ?_))))))))
  obtain⟨b29,kx29,hb29,hkx29,h⟩:=Hv h
  refine Hc (fun i29 (s29:Unit)=>each b29 kx29 (List.drop i29 ((out.1++out.2).take m7)) i29 s29=some r) (fun i29 s29=>[(1,E3 l),(5,E3 ((out.1++out.2).take m7)),(6,Ei i29)]) (fun i29 s29=>[]) (fun i29=>((out.1++out.2).take m7).length - i29) 0 () h ⟨(.sm O O),G,O⟩ ?_
  clear h
  intro i29 s29 hi29 K29 e29
  refine Js fun hK30=>Jr fun hK31=>(JLm (Ei i29) O (JLm (E3 ((out.1++out.2).take m7)) O (JLl Q1 O O O fun hm19=>(JLh (BL (decide ((i29:Int) < (((out.1++out.2).take m7).length:Int)))) (Hy O O O) O (G7 (hK31 (Gj O (fun hb=>?_) (fun hb=>?_))))))))
  ·
   have hk29:=J8 hb
   obtain⟨y29,nx29,hy29,hn29,h⟩:=Hj hi29 hk29
   replace h:=R8 hb29 h
   refine Gm (hK30 (Js fun hK32=>Gp (Js fun hK33=>?_)))
   obtain⟨y34,hy34,h⟩:=Gd h
   obtain⟨v35,hv35,h⟩:=Gd h
   obtain⟨r36,hr36,h⟩:=Gd h
   refine JC_d0 Jb (by kernel_rfl) (Dq (Ei i29) (G4 O O) O (Dq (E3 l) (G4 O O) O (Dq (Ei l.length) (Qs (f:=Box.av) (xs:=l) Q1 O O) O (Dq (BL (decide ((i29:Int) < (l.length:Int)))) (Hy O O O) O (Dq (BL (decide ((i29:Int) < (l.length:Int)))) (G4 O O) O (Do (E3 ((out.1++out.2).take m7)) [] O .sct G (fun hc=>G4 O O) O (Do (Ei i29) [] O .sct G (fun hc=>G4 O O) O (Do (Ee y29) [28,29] O .sct ⟨Ua,Ua,G⟩ (fun hc=>Gv (f:=Box.av) (xs:=((out.1++out.2).take m7)) (y:=y29) O O O Q1 hy29 O) O (Do (.agg (Box.cs y29)) [30] O .sct ⟨Ua,G⟩ (fun hc=>Gg G48 O O O) O (Do (E3 l) [] O .sct G (fun hc=>G4 O O) O (Do (Ei i29) [] O .sct G (fun hc=>G4 O O) O (Do (Ee y34) [32,33] O .sct ⟨Ua,Ua,G⟩ (fun hc=>(match Q0 (Gw hc hy34) with | ⟨_,hm_,hy_⟩=>Gv (f:=Box.av) (xs:=l) (y:=y34) O O O Q1 hy_ hm_)) O (Do (.agg (Box.cs y34)) [34] O .sct ⟨Ua,G⟩ (fun hc=>Gg G48 O O O) O ?_)))))))))))))
   refine Do (BL (decide (y29=y34))) [31,35] O .sct ⟨Ua,Ua,G⟩ (fun hc=>Gfd (vs:=[.int .i64 y29.ID,.string y29.Number,.int .u8 y29.Size,.bool y29.High,.int .i64 y29.Kilos,.int .i64 y29.Load,.int .i64 y29.Discharge,.int .u8 y29.Class,.bool y29.Reefer]) (us:=[.int .i64 y34.ID,.string y34.Number,.int .u8 y34.Size,.bool y34.High,.int .i64 y34.Kilos,.int .i64 y34.Load,.int .i64 y34.Discharge,.int .u8 y34.Class,.bool y34.Reefer]) 4 O (Y74 y29 y34) Jc5 Q88 O O O) O (Do (BL (!(decide (y29=y34)))) [36] O .sct ⟨Ua,G⟩ (fun hc=>Q3 (b:=decide (y29=y34)) O O) O (Dq (BL ((decide ((i29:Int) < (l.length:Int)))&&(!(decide (y29=y34))))) (J4 O O O O) O (Dq (BL ((decide ((i29:Int) < (l.length:Int)))&&(!(decide (y29=y34))))) (G4 O O) O (Do (Ei i29) [] O .scf G (fun hc=>G4 O O) O (Do (E3 l) [] O .scf G (fun hc=>G4 O O) O (Do (Ei l.length) [41] O .scf ⟨Ua,G⟩ (fun hc=>Qs (f:=Box.av) (xs:=l) Q1 O O) O (Do (BL (decide ((l.length:Int)≤(i29:Int)))) [40,42] O .scf ⟨Ua,Ua,G⟩ (fun hc=>G13 O O O) O (Do (BL (decide ((l.length:Int)≤(i29:Int)))) [43] O .scf ⟨Ua,G⟩ (fun hc=>G4 O O) O (Do (E3 ((out.1++out.2).take m7)) [] O .optt G (fun hc=>G4 O O) O (Do (Ei i29) [] O .optt G (fun hc=>G4 O O) O (Do (Ee y29) [45,46] O .optt ⟨Ua,Ua,G⟩ (fun hc=>Gv (f:=Box.av) (xs:=((out.1++out.2).take m7)) (y:=y29) O O O Q1 hy29 O) O (Do (.agg (Box.cs y29)) [47] O .optt ⟨Ua,G⟩ (fun hc=>Gg G48 O O O) O (Do (Ei i29) [] O .optt G (fun hc=>G4 O O) O ?_)))))))))))))
   refine Do (E3 l) [] O .optt G (fun hc=>G4 O O) O (Do (Ei l.length) [50] O .optt ⟨Ua,G⟩ (fun hc=>Qs (f:=Box.av) (xs:=l) Q1 O O) O (Do (I64 v35) [49,51] O .optt ⟨Ua,Ua,G⟩ (fun hc=>Ge4 (G2d (Gw hc hv35)) O O O) O (Do (.agg (Box.cs r36)) [52] O .optt ⟨Ua,G⟩ (fun hc=>Gi (args:=[I64 1,I64 v35]) O (Gc6 1 v35 r36 (Gw hc hr36)) Q15 ⟨O,O,O,O,G⟩) O (Do (BL (decide (y29=r36))) [48,53] O .optt ⟨Ua,Ua,G⟩ (fun hc=>Gfd (vs:=[.int .i64 y29.ID,.string y29.Number,.int .u8 y29.Size,.bool y29.High,.int .i64 y29.Kilos,.int .i64 y29.Load,.int .i64 y29.Discharge,.int .u8 y29.Class,.bool y29.Reefer]) (us:=[.int .i64 r36.ID,.string r36.Number,.int .u8 r36.Size,.bool r36.High,.int .i64 r36.Kilos,.int .i64 r36.Load,.int .i64 r36.Discharge,.int .u8 r36.Class,.bool r36.Reefer]) 4 O (Y74 y29 r36) Jc5 Q88 O O O) O (Do (BL (!(decide (y29=r36)))) [54] O .optt ⟨Ua,G⟩ (fun hc=>Q3 (b:=decide (y29=r36)) O O) O (Dg (.opt (!((decide ((i29:Int) < (l.length:Int)))&&(!(decide (y29=y34))))) (BL ((decide ((l.length:Int)≤(i29:Int)))&&(!(decide (y29=r36)))))) (Gh [(44,BL (decide ((l.length:Int)≤(i29:Int)))),(55,_)] O O O .scf ⟨.all id,.part,G⟩ (fun hc=>J4 O O O O) O) O (Dq (BL (((decide ((i29:Int) < (l.length:Int)))&&(!(decide (y29=y34))))||((decide ((l.length:Int)≤(i29:Int)))&&(!(decide (y29=r36)))))) (Rs O O O O) O (Dnil ?_))))))))
   refine hK33 (JCc O h (fun h hb=>?_) (fun h hb=>?_))
   ·
    refine Jr fun hK37=>(JLm (BL false) O (G7 (hK37 (Gq (fin1 BL h)))))
   ·
    refine Gm (hK32 (G2 (JLm (Ei i29) O (JLh (I64 ((i29+1:Nat):Int)) (Ht (Hb hk29 hm19) O O O) O (JLm (I64 ((i29+1:Nat):Int)) O (G7 (e29 _ _ (i29+1) () (app1 hn29 h) (by omega) ⟨(.sm O O),G,rfl⟩)))))))
  ·
   have h:=app1 hkx29 (Hk hi29 (H3 hb))
   refine Hi (hK8 (Jr fun hK38=>(JLm (BL true) O (G7 (hK38 (Gq (fin1 BL h)))))))

def Qx (k:Int) (i:Int):Option Stowed:=
 bnd (Jw k i) fun r3=>
 some (Stowed.mk r3 (Slot.mk 0 0 0))
theorem G8f (k:Int) (i:Int) (r:Stowed) (h:Qx k i=some r):Pure Ej 31 [I64 k,I64 i] (·=.agg (Stowed.cs r)):=by
 unfold Qx at h
 refine Gy [.cell 4 73] Tryz.func31 O O (Jr fun hK1=>(JLh (.ptr 1055 0) (G34 1055 [I64 0,I64 0,I64 0,U8 0] [E0,E0,E0,.int .u8 0] H01 ⟨.inl O,.inl O,.inl O,.inl O,G⟩ O O) O (G7 (hK1 (Jr fun hK2=>(JLm (I64 k) O (JLm (I64 i) O ?_)))))))
 obtain⟨r3,hr3,h⟩:=Gd h
 refine JLh (I64 r3) (Gi O (Qu k i r3 hr3) G7a ⟨O,O,O,O,G⟩) O (JLh (.agg [I64 r3,I64 0,I64 0,U8 0]) (Jk (cs:=[I64 r3,I64 0,I64 0,U8 0]) [(0,1),(1,3)] [I64 0,I64 0,I64 0,U8 0] [E0,E0,E0,.int .u8 0] H39 H01 ⟨.inl O,.inl O,.inl O,.inl O,G⟩ O O) O (Je (u:=.junk) (J5 (u:=.agg [I64 r3,I64 0,I64 0,U8 0]) (ds:=[I64 r3,I64 0,I64 0,U8 0]) G4a O O O O O O O O) (G7 (hK2 (Gq (⟨[.agg [I64 r3,I64 0,I64 0,U8 0]],[],G,O,⟨⟨_,⟨_,_,_,_,O,O,O,.inl ⟨Ru,O⟩⟩,.conv (.same O)⟩,G⟩,O,congrArg (fun r:Stowed=>(.agg (Stowed.cs r):AV)) (Kj h)⟩))))))

def Rg (l:List Stowed):Option (Ln Stowed):=
 chk ((l.length:Int)+12) fun v3=>
 bnd (Gd7 v3) fun m4=>
 need (decide (32*m4≤281474976710656∧m4≤maxLen)) <|
 need (decide ((([]:List Stowed).length+l.length)*32≤140737488355328∧([]:List Stowed).length+l.length≤maxLen)) <|
 need (decide (12≤9223372036854775807)) <|
 upto (fun i19 (s19:(List Stowed)) nx19=>
  bnd (Qx 1 (i19:Int)) fun r23=>
  need (decide ((s19.length+[r23].length)*32≤140737488355328∧s19.length+[r23].length≤maxLen)) <|
  nx19 (s19++[r23]))
 (fun(s19:(List Stowed))=>
  bnd (G70 (l.length:Int) s19.length) fun m26=>
  some (s19.take m26,s19.drop m26)) (12:Int).toNat 0 (([]:List Stowed)++l)
theorem G7e (l:List Stowed) (r:(Ln Stowed)) (h:Rg l=some r):Pure Ej 9 [E2 l] (·=LT 4 Stowed.av r):=by
 unfold Rg at h
 refine Gy [.tmp 2] Tryz.func9 O O (Jr fun hK1=>(JLh (E2 ([]:List Stowed)) (H2 4 O O) O (G7 (hK1 (Jr fun hK2=>(JLm (E2 l) O (JLl Gx O O O fun hm6=>?_)))))))
 obtain⟨v3,hv3,h⟩:=Qk h
 refine JLh (I64 v3) (Ht hv3 O O O) O ?_
 obtain⟨m4,hm4,h⟩:=Gd h
 obtain⟨ha5,h⟩:=Hp h
 refine JLh (OW 1012 4 Stowed.av ([]:List Stowed)) (Ge5 1012 O O O O Gx G96 O (G56 hm4) ha5) O (JLm (OW 1012 4 Stowed.av ([]:List Stowed)) O (G7 (hK2 (Jr fun hK6=>(JLm (OW 1012 4 Stowed.av ([]:List Stowed)) O (JLm (E2 l) O ?_))))))
 obtain⟨ha7,h⟩:=Hp h
 refine JLh (OW 1012 4 Stowed.av (([]:List Stowed)++l)) (H12 (f:=Stowed.av) (xs:=([]:List Stowed)) (ys:=l) O O O O Gx G96 ha7 (fun _=>O) (.inl O)) O (JLm (OW 1012 4 Stowed.av (([]:List Stowed)++l)) O (G7 (hK6 (Js fun hK8=>Jr fun hK9=>(JLm (I64 0) O (G7 (hK9 (Gp ?_))))))))
 obtain⟨hx19,h⟩:=Hp h
 obtain⟨b19,kx19,hb19,hkx19,h⟩:=G8a h
 refine Hc (fun i19 (s19:(List Stowed))=>upto b19 kx19 ((12:Int).toNat - i19) i19 s19=some r) (fun i19 s19=>[(0,E2 l),(3,OW 1012 4 Stowed.av s19),(4,Ei i19)]) (fun i19 s19=>[(1012,.spare 73 4 s19.length s19.length)]) (fun i19=>(12:Int).toNat - i19) 0 (([]:List Stowed)++l) h ⟨(.sm O O),⟨⟨_,O,.same⟩,G⟩,O⟩ ?_
 clear h
 intro i19 s19 hi19 K19 e19
 refine Js fun hK20=>Jr fun hK21=>(JLm (Ei i19) O (JLh (BL (decide ((i19:Int) < 12))) (Hy O O O) O (G7 (hK21 (Gj O (fun hb=>?_) (fun hb=>?_))))))
 ·
  have hk19:=G5d hb
  obtain⟨nx19,hn19,h⟩:=G58 hi19 hk19
  replace h:=J02 hb19 h
  refine Gm (hK20 (Js fun hK22=>Gp (G2 (JLm (OW 1012 4 Stowed.av s19) O (JLm (Ei i19) O ?_)))))
  obtain⟨r23,hr23,h⟩:=Gd h
  refine JLh (.agg (Stowed.cs r23)) (Gi O (G8f 1 (i19:Int) r23 hr23) Q14 ⟨O,O,O,O,G⟩) O (JLh (E2 [r23]) (Ha (xs:=[.agg (Stowed.cs r23)]) O ⟨O,O,G⟩ Gx Ze O O O O) O ?_)
  obtain⟨ha24,h⟩:=Hp h
  refine JLh (OW 1012 4 Stowed.av (s19++[r23])) (Q8 (f:=Stowed.av) (xs:=s19) (ys:=[r23]) O O O O Gx G96 ha24 (fun _=>O) (.inl O) O) O (JLm (OW 1012 4 Stowed.av (s19++[r23])) O (G7 (hK22 (G2 (JLm (Ei i19) O (JLh (I64 ((i19+1:Nat):Int)) (Ht (Hb hk19 (G36 hx19)) O O O) O (JLm (I64 ((i19+1:Nat):Int)) O (G7 (e19 _ _ (i19+1) (s19++[r23]) (app1 hn19 h) (by omega) ⟨(.sm O O),⟨⟨_,rfl,.same⟩,G⟩,rfl⟩)))))))))
 ·
  have h:=app1 hkx19 (G59 hi19 (Yi hb))
  refine Hi (hK8 (Jr fun hK25=>(JLm (OW 1012 4 Stowed.av s19) O (JLm (E2 l) O (JLl Gx O O O fun hm23=>?_)))))
  obtain⟨m26,hm26,h⟩:=Gd h
  refine JLh (LT 4 Stowed.av (s19.take m26,s19.drop m26)) (Jdf (f:=Stowed.av) (xs:=s19) O O O Gx (Zv hm26)) O (JLm (LT 4 Stowed.av (s19.take m26,s19.drop m26)) O (G7 (hK25 (Gq (fin1 (fun r:(Ln Stowed)=>(LT 4 Stowed.av r:AV)) h)))))

def Ri (out:Ln Stowed) (l:List Stowed):Option Bool:=
 bif decide ((out.1.length:Int)≠(l.length:Int)) then
 (some false)
 else
 (chk ((l.length:Int)+12) fun v6=>
  bnd (G70 v6 (out.1++out.2).length) fun m7=>
  each (fun y29 i29 (s29:Unit) nx29=>
   bnd (bif decide ((i29:Int) < (l.length:Int)) then Qm l (i29:Int) some else some default) fun y34=>
   bnd (bif ((!((decide ((i29:Int) < (l.length:Int)))&&(!(decide (y29=y34)))))&&(decide ((l.length:Int)≤(i29:Int)))) then chk ((i29:Int) - (l.length:Int)) some else some 0) fun v35=>
   bnd (bif ((!((decide ((i29:Int) < (l.length:Int)))&&(!(decide (y29=y34)))))&&(decide ((l.length:Int)≤(i29:Int)))) then Qx 1 v35 else some default) fun r36=>
   bif (((decide ((i29:Int) < (l.length:Int)))&&(!(decide (y29=y34))))||((decide ((l.length:Int)≤(i29:Int)))&&(!(decide (y29=r36))))) then
   (some false)
   else
   (nx29 ()))
  (fun(s29:Unit)=>
   some true) ((out.1++out.2).take m7) 0 ())
theorem G7f (out:Ln Stowed) (l:List Stowed) (r:Bool) (h:Ri out l=some r):Pure Ej 19 [LT 4 Stowed.av out,E2 l] (·=BL r):=by
 unfold Ri at h
 refine Gy [.tmp 4] Tryz.func19 O O (Jr fun hK1=>(JLm (BL false) O (G7 (hK1 (Js fun hK2=>Jr fun hK3=>(JLm (LT 4 Stowed.av out) O (JLl Gx O O O fun hm8=>(JLm (E2 l) O (JLl Gx O O O fun hm10=>(JLh (BL (decide ((out.1.length:Int)≠(l.length:Int)))) (G1d O O O) O (G7 (hK3 (JCc O h (fun h hb=>?_) (fun h hb=>?_))))))))))))))
 ·
  refine Jr fun hK4=>(JLm (BL false) O (G7 (hK4 (Gq (fin1 BL h)))))
 ·
  refine Gm (hK2 (Jr fun hK5=>(JLm (LT 4 Stowed.av out) O (JLm (E2 l) O (JLl Gx O O O fun hm14=>?_)))))
  obtain⟨v6,hv6,h⟩:=Qk h
  refine JLh (I64 v6) (Ht hv6 O O O) O ?_
  obtain⟨m7,hm7,h⟩:=Gd h
  refine JLh (E2 ((out.1++out.2).take m7)) (H93 (f:=Stowed.av) (e:=out) O O O Gx (Zv hm7)) O (JLm (E2 ((out.1++out.2).take m7)) O (G7 (hK5 (Js fun hK8=>Jr fun hK9=>(JLm (I64 0) O (G7 (hK9 (Gp ?_))))))))
  obtain⟨b29,kx29,hb29,hkx29,h⟩:=Hv h
  refine Hc (fun i29 (s29:Unit)=>each b29 kx29 (List.drop i29 ((out.1++out.2).take m7)) i29 s29=some r) (fun i29 s29=>[(1,E2 l),(5,E2 ((out.1++out.2).take m7)),(6,Ei i29)]) (fun i29 s29=>[]) (fun i29=>((out.1++out.2).take m7).length - i29) 0 () h ⟨(.sm O O),G,O⟩ ?_
  clear h
  intro i29 s29 hi29 K29 e29
  refine Js fun hK30=>Jr fun hK31=>(JLm (Ei i29) O (JLm (E2 ((out.1++out.2).take m7)) O (JLl Gx O O O fun hm19=>(JLh (BL (decide ((i29:Int) < (((out.1++out.2).take m7).length:Int)))) (Hy O O O) O (G7 (hK31 (Gj O (fun hb=>?_) (fun hb=>?_))))))))
  ·
   have hk29:=J8 hb
   obtain⟨y29,nx29,hy29,hn29,h⟩:=Hj hi29 hk29
   replace h:=R8 hb29 h
   refine Gm (hK30 (Js fun hK32=>Gp (Js fun hK33=>?_)))
   obtain⟨y34,hy34,h⟩:=Gd h
   obtain⟨v35,hv35,h⟩:=Gd h
   obtain⟨r36,hr36,h⟩:=Gd h
   refine JC_d0 Jb (by kernel_rfl) (Dq (Ei i29) (G4 O O) O (Dq (E2 l) (G4 O O) O (Dq (Ei l.length) (Qs (f:=Stowed.av) (xs:=l) Gx O O) O (Dq (BL (decide ((i29:Int) < (l.length:Int)))) (Hy O O O) O (Dq (BL (decide ((i29:Int) < (l.length:Int)))) (G4 O O) O (Do (E2 ((out.1++out.2).take m7)) [] O .sct G (fun hc=>G4 O O) O (Do (Ei i29) [] O .sct G (fun hc=>G4 O O) O (Do (Ec y29) [28,29] O .sct ⟨Ua,Ua,G⟩ (fun hc=>Gv (f:=Stowed.av) (xs:=((out.1++out.2).take m7)) (y:=y29) O O O Gx hy29 O) O (Do (.agg (Stowed.cs y29)) [30] O .sct ⟨Ua,G⟩ (fun hc=>Gg Ru O O O) O (Do (E2 l) [] O .sct G (fun hc=>G4 O O) O (Do (Ei i29) [] O .sct G (fun hc=>G4 O O) O (Do (Ec y34) [32,33] O .sct ⟨Ua,Ua,G⟩ (fun hc=>(match Q0 (Gw hc hy34) with | ⟨_,hm_,hy_⟩=>Gv (f:=Stowed.av) (xs:=l) (y:=y34) O O O Gx hy_ hm_)) O (Do (.agg (Stowed.cs y34)) [34] O .sct ⟨Ua,G⟩ (fun hc=>Gg Ru O O O) O ?_)))))))))))))
   refine Do (BL (decide (y29=y34))) [31,35] O .sct ⟨Ua,Ua,G⟩ (fun hc=>Gfd (vs:=[.int .i64 y29.Box,.int .i64 y29.Slot.G3,.int .i64 y29.Slot.Tier,.int .u8 y29.Slot.Half]) (us:=[.int .i64 y34.Box,.int .i64 y34.Slot.G3,.int .i64 y34.Slot.Tier,.int .u8 y34.Slot.Half]) 4 O (Y72 y29 y34) Jc3 Q86 O O O) O (Do (BL (!(decide (y29=y34)))) [36] O .sct ⟨Ua,G⟩ (fun hc=>Q3 (b:=decide (y29=y34)) O O) O (Dq (BL ((decide ((i29:Int) < (l.length:Int)))&&(!(decide (y29=y34))))) (J4 O O O O) O (Dq (BL ((decide ((i29:Int) < (l.length:Int)))&&(!(decide (y29=y34))))) (G4 O O) O (Do (Ei i29) [] O .scf G (fun hc=>G4 O O) O (Do (E2 l) [] O .scf G (fun hc=>G4 O O) O (Do (Ei l.length) [41] O .scf ⟨Ua,G⟩ (fun hc=>Qs (f:=Stowed.av) (xs:=l) Gx O O) O (Do (BL (decide ((l.length:Int)≤(i29:Int)))) [40,42] O .scf ⟨Ua,Ua,G⟩ (fun hc=>G13 O O O) O (Do (BL (decide ((l.length:Int)≤(i29:Int)))) [43] O .scf ⟨Ua,G⟩ (fun hc=>G4 O O) O (Do (E2 ((out.1++out.2).take m7)) [] O .optt G (fun hc=>G4 O O) O (Do (Ei i29) [] O .optt G (fun hc=>G4 O O) O (Do (Ec y29) [45,46] O .optt ⟨Ua,Ua,G⟩ (fun hc=>Gv (f:=Stowed.av) (xs:=((out.1++out.2).take m7)) (y:=y29) O O O Gx hy29 O) O (Do (.agg (Stowed.cs y29)) [47] O .optt ⟨Ua,G⟩ (fun hc=>Gg Ru O O O) O (Do (Ei i29) [] O .optt G (fun hc=>G4 O O) O ?_)))))))))))))
   refine Do (E2 l) [] O .optt G (fun hc=>G4 O O) O (Do (Ei l.length) [50] O .optt ⟨Ua,G⟩ (fun hc=>Qs (f:=Stowed.av) (xs:=l) Gx O O) O (Do (I64 v35) [49,51] O .optt ⟨Ua,Ua,G⟩ (fun hc=>Ge4 (G2d (Gw hc hv35)) O O O) O (Do (.agg (Stowed.cs r36)) [52] O .optt ⟨Ua,G⟩ (fun hc=>Gi (args:=[I64 1,I64 v35]) O (G8f 1 v35 r36 (Gw hc hr36)) Q14 ⟨O,O,O,O,G⟩) O (Do (BL (decide (y29=r36))) [48,53] O .optt ⟨Ua,Ua,G⟩ (fun hc=>Gfd (vs:=[.int .i64 y29.Box,.int .i64 y29.Slot.G3,.int .i64 y29.Slot.Tier,.int .u8 y29.Slot.Half]) (us:=[.int .i64 r36.Box,.int .i64 r36.Slot.G3,.int .i64 r36.Slot.Tier,.int .u8 r36.Slot.Half]) 4 O (Y72 y29 r36) Jc3 Q86 O O O) O (Do (BL (!(decide (y29=r36)))) [54] O .optt ⟨Ua,G⟩ (fun hc=>Q3 (b:=decide (y29=r36)) O O) O (Dg (.opt (!((decide ((i29:Int) < (l.length:Int)))&&(!(decide (y29=y34))))) (BL ((decide ((l.length:Int)≤(i29:Int)))&&(!(decide (y29=r36)))))) (Gh [(44,BL (decide ((l.length:Int)≤(i29:Int)))),(55,_)] O O O .scf ⟨.all id,.part,G⟩ (fun hc=>J4 O O O O) O) O (Dq (BL (((decide ((i29:Int) < (l.length:Int)))&&(!(decide (y29=y34))))||((decide ((l.length:Int)≤(i29:Int)))&&(!(decide (y29=r36)))))) (Rs O O O O) O (Dnil ?_))))))))
   refine hK33 (JCc O h (fun h hb=>?_) (fun h hb=>?_))
   ·
    refine Jr fun hK37=>(JLm (BL false) O (G7 (hK37 (Gq (fin1 BL h)))))
   ·
    refine Gm (hK32 (G2 (JLm (Ei i29) O (JLh (I64 ((i29+1:Nat):Int)) (Ht (Hb hk29 hm19) O O O) O (JLm (I64 ((i29+1:Nat):Int)) O (G7 (e29 _ _ (i29+1) () (app1 hn29 h) (by omega) ⟨(.sm O O),G,rfl⟩)))))))
  ·
   have h:=app1 hkx29 (Hk hi29 (H3 hb))
   refine Hi (hK8 (Jr fun hK38=>(JLm (BL true) O (G7 (hK38 (Gq (fin1 BL h)))))))
end
end Go.Proofs.YthcpolfodgjekaaGreat
