/-
 Models of functions of the program,and that they return what the models say.
-/
import Derived.Test.YthcpolfodgjekaaGreatXLa
set_option maxRecDepth 100000
set_option maxHeartbeats 1000000
set_option linter.unusedVariables false
set_option linter.unusedSimpArgs false
namespace Go.Proofs.YthcpolfodgjekaaGreat
open Go.RowKit
noncomputable section
open XAF
open XLF

def Rf (out:Ln H8) (l:List G9):Option Bool:=
 bif decide ((out.1.length:Int)≠(l.length:Int)) then
 (some false)
 else
 (G35 ((l.length:Int)+12) fun v6=>
  bnd (G5d v6 (out.1++out.2).length) fun m7=>
  each (fun y33 i33 (s33:Unit) nx33=>
   bnd (bif decide ((i33:Int) < (l.length:Int)) then Qr l (i33:Int) some else some default) fun y38=>
   bnd (bif decide ((i33:Int) < (l.length:Int)) then Ru y33 y38 else some default) fun r39=>
   bnd (bif ((!((decide ((i33:Int) < (l.length:Int)))&&(!r39)))&&(decide ((l.length:Int)≤(i33:Int)))) then G35 ((i33:Int) - (l.length:Int)) some else some 0) fun v40=>
   bnd (bif ((!((decide ((i33:Int) < (l.length:Int)))&&(!r39)))&&(decide ((l.length:Int)≤(i33:Int)))) then Qz 1 v40 else some default) fun r41=>
   bnd (bif ((!((decide ((i33:Int) < (l.length:Int)))&&(!r39)))&&(decide ((l.length:Int)≤(i33:Int)))) then Jz (G9.mk y33.Bay y33.Rows.1) r41 else some default) fun r42=>
   bif (((decide ((i33:Int) < (l.length:Int)))&&(!r39))||((decide ((l.length:Int)≤(i33:Int)))&&(!r42))) then
   (some false)
   else
   (nx33 ()))
  (fun(s33:Unit)=>
   some true) ((out.1++out.2).take m7) 0 ())
theorem H15 (out:Ln H8) (l:List G9) (r:Bool) (h:Rf out l=some r):Pure Ej 45 [LT 2 H8.av out,E5 l] (·=BL r):=by
 unfold Rf at h
 refine Gx [.tmp 4] Tryz.func45 O O (Jr fun hK1=>(G57 (BL false) O (G8 (hK1 (Js fun hK2=>Jr fun hK3=>(G57 (LT 2 H8.av out) O (JLl Hr O O O fun hm8=>(G57 (E5 l) O (JLl Hr O O O fun hm10=>(JLh (BL (decide ((out.1.length:Int)≠(l.length:Int)))) (G30 O O O) O (G8 (hK3 (JCc O h (fun h hb=>?_) (fun h hb=>?_))))))))))))))
 ·
  refine Jr fun hK4=>(G57 (BL false) O (G8 (hK4 (Gr (fin1 BL h)))))
 ·
  refine Gn (hK2 (Jr fun hK5=>(G57 (LT 2 H8.av out) O (G57 (E5 l) O (JLl Hr O O O fun hm14=>?_)))))
  obtain⟨v6,hv6,h⟩:=Qj h
  refine JLh (G0 v6) (Hu hv6 O O O) O ?_
  obtain⟨m7,hm7,h⟩:=Ge h
  refine JLh (LS 2 H8.av ((out.1++out.2).take m7)) (H64 (f:=H8.av) (e:=out) O O O Hr (Z9 hm7)) O (G57 (LS 2 H8.av ((out.1++out.2).take m7)) O (G8 (hK5 (Js fun hK8=>Jr fun hK9=>(G57 (G0 0) O (G8 (hK9 (Gp ?_))))))))
  obtain⟨b33,kx33,hb33,hkx33,h⟩:=Hx h
  refine He (fun i33 (s33:Unit)=>each b33 kx33 (List.drop i33 ((out.1++out.2).take m7)) i33 s33=some r) (fun i33 s33=>[(1,E5 l),(5,LS 2 H8.av ((out.1++out.2).take m7)),(6,Ei i33)]) (fun i33 s33=>[]) (fun i33=>((out.1++out.2).take m7).length - i33) 0 () h ⟨(.sm O O),G,O⟩ ?_
  clear h
  intro i33 s33 hi33 K33 e33
  refine Js fun hK34=>Jr fun hK35=>(G57 (Ei i33) O (G57 (LS 2 H8.av ((out.1++out.2).take m7)) O (JLl Hr O O O fun hm19=>(JLh (BL (decide ((i33:Int) < (((out.1++out.2).take m7).length:Int)))) (J1 O O O) O (G8 (hK35 (Gm O (fun hb=>?_) (fun hb=>?_))))))))
  ·
   have hk33:=Jc hb
   obtain⟨y33,nx33,hy33,hn33,h⟩:=Hm hi33 hk33
   replace h:=Rn hb33 h
   refine Gn (hK34 (Js fun hK36=>Gp (Js fun hK37=>?_)))
   obtain⟨y38,hy38,h⟩:=Ge h
   obtain⟨r39,hr39,h⟩:=Ge h
   obtain⟨v40,hv40,h⟩:=Ge h
   obtain⟨r41,hr41,h⟩:=Ge h
   obtain⟨r42,hr42,h⟩:=Ge h
   refine JC_d0 Jg (by kernel_rfl) (Dq (Ei i33) (G5 O O) O (Dq (E5 l) (G5 O O) O (Dq (Ei l.length) (Qw (f:=G9.av) (xs:=l) Hr O O) O (Dq (BL (decide ((i33:Int) < (l.length:Int)))) (J1 O O O) O (Dq (BL (decide ((i33:Int) < (l.length:Int)))) (G5 O O) O (Do (LS 2 H8.av ((out.1++out.2).take m7)) [] O .sct G (fun hc=>G5 O O) O (Do (Ei i33) [] O .sct G (fun hc=>G5 O O) O (Do (.dptr [G0 y33.Bay,LT 1 G0 y33.Rows]) [28,29] O .sct ⟨Ua,Ua,G⟩ (fun hc=>Gw (f:=H8.av) (xs:=((out.1++out.2).take m7)) (y:=y33) O O O Hr hy33 O) O (Do (.agg [G0 y33.Bay,LT 1 G0 y33.Rows]) [30] O .sct ⟨Ua,G⟩ (fun hc=>Gj Ye O O O) O (Do (E5 l) [] O .sct G (fun hc=>G5 O O) O (Do (Ei i33) [] O .sct G (fun hc=>G5 O O) O (Do (.dptr [G0 y38.Bay,E1 y38.Rows]) [32,33] O .sct ⟨Ua,Ua,G⟩ (fun hc=>(match Qa (Gy hc hy38) with | ⟨_,hm_,hy_⟩=>Gw (f:=G9.av) (xs:=l) (y:=y38) O O O Hr hy_ hm_)) O (Do (.agg [G0 y38.Bay,E1 y38.Rows]) [34] O .sct ⟨Ua,G⟩ (fun hc=>Gj Ye O O O) O ?_)))))))))))))
   refine Do (BL r39) [31,35] O .sct ⟨Ua,Ua,G⟩ (fun hc=>Gk (args:=[.agg [G0 y33.Bay,LT 1 G0 y33.Rows],.agg [G0 y38.Bay,E1 y38.Rows]]) O (H3f y33 y38 r39 (Gy hc hr39)) Q88 ⟨O,O,O,O,G⟩) O (Do (BL (!r39)) [36] O .sct ⟨Ua,G⟩ (fun hc=>Qh (b:=r39) O O) O (Dq (BL ((decide ((i33:Int) < (l.length:Int)))&&(!r39))) (J5 O O O O) O (Dq (BL ((decide ((i33:Int) < (l.length:Int)))&&(!r39))) (G5 O O) O (Do (Ei i33) [] O .scf G (fun hc=>G5 O O) O (Do (E5 l) [] O .scf G (fun hc=>G5 O O) O (Do (Ei l.length) [41] O .scf ⟨Ua,G⟩ (fun hc=>Qw (f:=G9.av) (xs:=l) Hr O O) O (Do (BL (decide ((l.length:Int)≤(i33:Int)))) [40,42] O .scf ⟨Ua,Ua,G⟩ (fun hc=>G31 O O O) O (Do (BL (decide ((l.length:Int)≤(i33:Int)))) [43] O .scf ⟨Ua,G⟩ (fun hc=>G5 O O) O (Do (LS 2 H8.av ((out.1++out.2).take m7)) [] O .optt G (fun hc=>G5 O O) O (Do (Ei i33) [] O .optt G (fun hc=>G5 O O) O (Do (.dptr [G0 y33.Bay,LT 1 G0 y33.Rows]) [45,46] O .optt ⟨Ua,Ua,G⟩ (fun hc=>Gw (f:=H8.av) (xs:=((out.1++out.2).take m7)) (y:=y33) O O O Hr hy33 O) O (Do (.agg [G0 y33.Bay,E1 y33.Rows.1]) [47] O .optt ⟨Ua,G⟩ (fun hc=>H4.cv (Cv.aggL (cs:=[G0 y33.Bay,LT 1 G0 y33.Rows]) ⟨.same,Cv.lst0 y33.Rows,G⟩) (Gj Ye O O O)) O (Do (Ei i33) [] O .optt G (fun hc=>G5 O O) O ?_)))))))))))))
   refine Do (E5 l) [] O .optt G (fun hc=>G5 O O) O (Do (Ei l.length) [50] O .optt ⟨Ua,G⟩ (fun hc=>Qw (f:=G9.av) (xs:=l) Hr O O) O (Do (G0 v40) [49,51] O .optt ⟨Ua,Ua,G⟩ (fun hc=>Gd4 (G25 (Gy hc hv40)) O O O) O (Do (.agg [G0 r41.Bay,E1 r41.Rows]) [52] O .optt ⟨Ua,G⟩ (fun hc=>Gk (args:=[G0 1,G0 v40]) O (G88 1 v40 r41 (Gy hc hr41)) Jd8 ⟨O,O,O,O,G⟩) O (Do (BL r42) [48,53] O .optt ⟨Ua,Ua,G⟩ (fun hc=>Gk (args:=[.agg [G0 y33.Bay,E1 y33.Rows.1],.agg [G0 r41.Bay,E1 r41.Rows]]) O (G38 (G9.mk y33.Bay y33.Rows.1) r41 r42 (Gy hc hr42)) J16 ⟨O,O,O,O,G⟩) O (Do (BL (!r42)) [54] O .optt ⟨Ua,G⟩ (fun hc=>Qh (b:=r42) O O) O (Dg (.opt (!((decide ((i33:Int) < (l.length:Int)))&&(!r39))) (BL ((decide ((l.length:Int)≤(i33:Int)))&&(!r42)))) (Gi [(44,BL (decide ((l.length:Int)≤(i33:Int)))),(55,_)] O O O .scf ⟨.all id,.part,G⟩ (fun hc=>J5 O O O O) O) O (Dq (BL (((decide ((i33:Int) < (l.length:Int)))&&(!r39))||((decide ((l.length:Int)≤(i33:Int)))&&(!r42)))) (Yc O O O O) O (Dnil ?_))))))))
   refine hK37 (JCc O h (fun h hb=>?_) (fun h hb=>?_))
   ·
    refine Jr fun hK43=>(G57 (BL false) O (G8 (hK43 (Gr (fin1 BL h)))))
   ·
    refine Gn (hK36 (G3 (G57 (Ei i33) O (JLh (G0 ((i33+1:Nat):Int)) (Hu (Hc hk33 hm19) O O O) O (G57 (G0 ((i33+1:Nat):Int)) O (G8 (e33 _ _ (i33+1) () (app1 hn33 h) (by omega) ⟨(.sm O O),G,rfl⟩)))))))
  ·
   have h:=app1 hkx33 (Hn hi33 (H6 hb))
   refine Hk (hK8 (Jr fun hK44=>(G57 (BL true) O (G8 (hK44 (Gr (fin1 BL h)))))))

def Y5 (out:Ln Row) (l:List Row):Option Bool:=
 bif decide ((out.1.length:Int)≠(l.length:Int)) then
 (some false)
 else
 (G35 ((l.length:Int)+12) fun v6=>
  bnd (G5d v6 (out.1++out.2).length) fun m7=>
  each (fun y29 i29 (s29:Unit) nx29=>
   bnd (bif decide ((i29:Int) < (l.length:Int)) then Qr l (i29:Int) some else some default) fun y34=>
   bnd (bif ((!((decide ((i29:Int) < (l.length:Int)))&&(!(decide (y29=y34)))))&&(decide ((l.length:Int)≤(i29:Int)))) then G35 ((i29:Int) - (l.length:Int)) some else some 0) fun v35=>
   bnd (bif ((!((decide ((i29:Int) < (l.length:Int)))&&(!(decide (y29=y34)))))&&(decide ((l.length:Int)≤(i29:Int)))) then Ri 1 v35 else some default) fun r36=>
   bif (((decide ((i29:Int) < (l.length:Int)))&&(!(decide (y29=y34))))||((decide ((l.length:Int)≤(i29:Int)))&&(!(decide (y29=r36))))) then
   (some false)
   else
   (nx29 ()))
  (fun(s29:Unit)=>
   some true) ((out.1++out.2).take m7) 0 ())
theorem H51 (out:Ln Row) (l:List Row) (r:Bool) (h:Y5 out l=some r):Pure Ej 46 [LT 5 Row.av out,E7 l] (·=BL r):=by
 unfold Y5 at h
 refine Gx [.tmp 4] Tryz.func46 O O (Jr fun hK1=>(G57 (BL false) O (G8 (hK1 (Js fun hK2=>Jr fun hK3=>(G57 (LT 5 Row.av out) O (JLl Qc O O O fun hm8=>(G57 (E7 l) O (JLl Qc O O O fun hm10=>(JLh (BL (decide ((out.1.length:Int)≠(l.length:Int)))) (G30 O O O) O (G8 (hK3 (JCc O h (fun h hb=>?_) (fun h hb=>?_))))))))))))))
 ·
  refine Jr fun hK4=>(G57 (BL false) O (G8 (hK4 (Gr (fin1 BL h)))))
 ·
  refine Gn (hK2 (Jr fun hK5=>(G57 (LT 5 Row.av out) O (G57 (E7 l) O (JLl Qc O O O fun hm14=>?_)))))
  obtain⟨v6,hv6,h⟩:=Qj h
  refine JLh (G0 v6) (Hu hv6 O O O) O ?_
  obtain⟨m7,hm7,h⟩:=Ge h
  refine JLh (E7 ((out.1++out.2).take m7)) (H64 (f:=Row.av) (e:=out) O O O Qc (Z9 hm7)) O (G57 (E7 ((out.1++out.2).take m7)) O (G8 (hK5 (Js fun hK8=>Jr fun hK9=>(G57 (G0 0) O (G8 (hK9 (Gp ?_))))))))
  obtain⟨b29,kx29,hb29,hkx29,h⟩:=Hx h
  refine He (fun i29 (s29:Unit)=>each b29 kx29 (List.drop i29 ((out.1++out.2).take m7)) i29 s29=some r) (fun i29 s29=>[(1,E7 l),(5,E7 ((out.1++out.2).take m7)),(6,Ei i29)]) (fun i29 s29=>[]) (fun i29=>((out.1++out.2).take m7).length - i29) 0 () h ⟨(.sm O O),G,O⟩ ?_
  clear h
  intro i29 s29 hi29 K29 e29
  refine Js fun hK30=>Jr fun hK31=>(G57 (Ei i29) O (G57 (E7 ((out.1++out.2).take m7)) O (JLl Qc O O O fun hm19=>(JLh (BL (decide ((i29:Int) < (((out.1++out.2).take m7).length:Int)))) (J1 O O O) O (G8 (hK31 (Gm O (fun hb=>?_) (fun hb=>?_))))))))
  ·
   have hk29:=Jc hb
   obtain⟨y29,nx29,hy29,hn29,h⟩:=Hm hi29 hk29
   replace h:=Rn hb29 h
   refine Gn (hK30 (Js fun hK32=>Gp (Js fun hK33=>?_)))
   obtain⟨y34,hy34,h⟩:=Ge h
   obtain⟨v35,hv35,h⟩:=Ge h
   obtain⟨r36,hr36,h⟩:=Ge h
   refine JC_d0 Jg (by kernel_rfl) (Dq (Ei i29) (G5 O O) O (Dq (E7 l) (G5 O O) O (Dq (Ei l.length) (Qw (f:=Row.av) (xs:=l) Qc O O) O (Dq (BL (decide ((i29:Int) < (l.length:Int)))) (J1 O O O) O (Dq (BL (decide ((i29:Int) < (l.length:Int)))) (G5 O O) O (Do (E7 ((out.1++out.2).take m7)) [] O .sct G (fun hc=>G5 O O) O (Do (Ei i29) [] O .sct G (fun hc=>G5 O O) O (Do (.dptr (Row.cs y29)) [28,29] O .sct ⟨Ua,Ua,G⟩ (fun hc=>Gw (f:=Row.av) (xs:=((out.1++out.2).take m7)) (y:=y29) O O O Qc hy29 O) O (Do (.agg (Row.cs y29)) [30] O .sct ⟨Ua,G⟩ (fun hc=>Gj Gde O O O) O (Do (E7 l) [] O .sct G (fun hc=>G5 O O) O (Do (Ei i29) [] O .sct G (fun hc=>G5 O O) O (Do (.dptr (Row.cs y34)) [32,33] O .sct ⟨Ua,Ua,G⟩ (fun hc=>(match Qa (Gy hc hy34) with | ⟨_,hm_,hy_⟩=>Gw (f:=Row.av) (xs:=l) (y:=y34) O O O Qc hy_ hm_)) O (Do (.agg (Row.cs y34)) [34] O .sct ⟨Ua,G⟩ (fun hc=>Gj Gde O O O) O ?_)))))))))))))
   refine Do (BL (decide (y29=y34))) [31,35] O .sct ⟨Ua,Ua,G⟩ (fun hc=>Gd5 (vs:=[.int .i64 y29.Draught,.int .i64 y29.Kilos,.int .i64 y29.Buoy,.int .i64 y29.Metacentre,.int .i64 y29.Hd8]) (us:=[.int .i64 y34.Draught,.int .i64 y34.Kilos,.int .i64 y34.Buoy,.int .i64 y34.Metacentre,.int .i64 y34.Hd8]) 4 O (tq_108 y29 y34) H91 J12 O O O) O (Do (BL (!(decide (y29=y34)))) [36] O .sct ⟨Ua,G⟩ (fun hc=>Qh (b:=decide (y29=y34)) O O) O (Dq (BL ((decide ((i29:Int) < (l.length:Int)))&&(!(decide (y29=y34))))) (J5 O O O O) O (Dq (BL ((decide ((i29:Int) < (l.length:Int)))&&(!(decide (y29=y34))))) (G5 O O) O (Do (Ei i29) [] O .scf G (fun hc=>G5 O O) O (Do (E7 l) [] O .scf G (fun hc=>G5 O O) O (Do (Ei l.length) [41] O .scf ⟨Ua,G⟩ (fun hc=>Qw (f:=Row.av) (xs:=l) Qc O O) O (Do (BL (decide ((l.length:Int)≤(i29:Int)))) [40,42] O .scf ⟨Ua,Ua,G⟩ (fun hc=>G31 O O O) O (Do (BL (decide ((l.length:Int)≤(i29:Int)))) [43] O .scf ⟨Ua,G⟩ (fun hc=>G5 O O) O (Do (E7 ((out.1++out.2).take m7)) [] O .optt G (fun hc=>G5 O O) O (Do (Ei i29) [] O .optt G (fun hc=>G5 O O) O (Do (.dptr (Row.cs y29)) [45,46] O .optt ⟨Ua,Ua,G⟩ (fun hc=>Gw (f:=Row.av) (xs:=((out.1++out.2).take m7)) (y:=y29) O O O Qc hy29 O) O (Do (.agg (Row.cs y29)) [47] O .optt ⟨Ua,G⟩ (fun hc=>Gj Gde O O O) O (Do (Ei i29) [] O .optt G (fun hc=>G5 O O) O ?_)))))))))))))
   refine Do (E7 l) [] O .optt G (fun hc=>G5 O O) O (Do (Ei l.length) [50] O .optt ⟨Ua,G⟩ (fun hc=>Qw (f:=Row.av) (xs:=l) Qc O O) O (Do (G0 v35) [49,51] O .optt ⟨Ua,Ua,G⟩ (fun hc=>Gd4 (G25 (Gy hc hv35)) O O O) O (Do (.agg (Row.cs r36)) [52] O .optt ⟨Ua,G⟩ (fun hc=>Gk (args:=[G0 1,G0 v35]) O (Ga8 1 v35 r36 (Gy hc hr36)) Jd7 ⟨O,O,O,O,G⟩) O (Do (BL (decide (y29=r36))) [48,53] O .optt ⟨Ua,Ua,G⟩ (fun hc=>Gd5 (vs:=[.int .i64 y29.Draught,.int .i64 y29.Kilos,.int .i64 y29.Buoy,.int .i64 y29.Metacentre,.int .i64 y29.Hd8]) (us:=[.int .i64 r36.Draught,.int .i64 r36.Kilos,.int .i64 r36.Buoy,.int .i64 r36.Metacentre,.int .i64 r36.Hd8]) 4 O (tq_108 y29 r36) H91 J12 O O O) O (Do (BL (!(decide (y29=r36)))) [54] O .optt ⟨Ua,G⟩ (fun hc=>Qh (b:=decide (y29=r36)) O O) O (Dg (.opt (!((decide ((i29:Int) < (l.length:Int)))&&(!(decide (y29=y34))))) (BL ((decide ((l.length:Int)≤(i29:Int)))&&(!(decide (y29=r36)))))) (Gi [(44,BL (decide ((l.length:Int)≤(i29:Int)))),(55,_)] O O O .scf ⟨.all id,.part,G⟩ (fun hc=>J5 O O O O) O) O (Dq (BL (((decide ((i29:Int) < (l.length:Int)))&&(!(decide (y29=y34))))||((decide ((l.length:Int)≤(i29:Int)))&&(!(decide (y29=r36)))))) (Yc O O O O) O (Dnil ?_))))))))
   refine hK33 (JCc O h (fun h hb=>?_) (fun h hb=>?_))
   ·
    refine Jr fun hK37=>(G57 (BL false) O (G8 (hK37 (Gr (fin1 BL h)))))
   ·
    refine Gn (hK32 (G3 (G57 (Ei i29) O (JLh (G0 ((i29+1:Nat):Int)) (Hu (Hc hk29 hm19) O O O) O (G57 (G0 ((i29+1:Nat):Int)) O (G8 (e29 _ _ (i29+1) () (app1 hn29 h) (by omega) ⟨(.sm O O),G,rfl⟩)))))))
  ·
   have h:=app1 hkx29 (Hn hi29 (H6 hb))
   refine Hk (hK8 (Jr fun hK38=>(G57 (BL true) O (G8 (hK38 (Gr (fin1 BL h)))))))

def Re (out:Ln Frame) (l:List Frame):Option Bool:=
 bif decide ((out.1.length:Int)≠(l.length:Int)) then
 (some false)
 else
 (G35 ((l.length:Int)+12) fun v6=>
  bnd (G5d v6 (out.1++out.2).length) fun m7=>
  each (fun y29 i29 (s29:Unit) nx29=>
   bnd (bif decide ((i29:Int) < (l.length:Int)) then Qr l (i29:Int) some else some default) fun y34=>
   bnd (bif ((!((decide ((i29:Int) < (l.length:Int)))&&(!(decide (y29=y34)))))&&(decide ((l.length:Int)≤(i29:Int)))) then G35 ((i29:Int) - (l.length:Int)) some else some 0) fun v35=>
   bnd (bif ((!((decide ((i29:Int) < (l.length:Int)))&&(!(decide (y29=y34)))))&&(decide ((l.length:Int)≤(i29:Int)))) then Qy 1 v35 else some default) fun r36=>
   bif (((decide ((i29:Int) < (l.length:Int)))&&(!(decide (y29=y34))))||((decide ((l.length:Int)≤(i29:Int)))&&(!(decide (y29=r36))))) then
   (some false)
   else
   (nx29 ()))
  (fun(s29:Unit)=>
   some true) ((out.1++out.2).take m7) 0 ())
theorem H14 (out:Ln Frame) (l:List Frame) (r:Bool) (h:Re out l=some r):Pure Ej 47 [LT 5 Frame.av out,E6 l] (·=BL r):=by
 unfold Re at h
 refine Gx [.tmp 4] Tryz.func47 O O (Jr fun hK1=>(G57 (BL false) O (G8 (hK1 (Js fun hK2=>Jr fun hK3=>(G57 (LT 5 Frame.av out) O (JLl Qb O O O fun hm8=>(G57 (E6 l) O (JLl Qb O O O fun hm10=>(JLh (BL (decide ((out.1.length:Int)≠(l.length:Int)))) (G30 O O O) O (G8 (hK3 (JCc O h (fun h hb=>?_) (fun h hb=>?_))))))))))))))
 ·
  refine Jr fun hK4=>(G57 (BL false) O (G8 (hK4 (Gr (fin1 BL h)))))
 ·
  refine Gn (hK2 (Jr fun hK5=>(G57 (LT 5 Frame.av out) O (G57 (E6 l) O (JLl Qb O O O fun hm14=>?_)))))
  obtain⟨v6,hv6,h⟩:=Qj h
  refine JLh (G0 v6) (Hu hv6 O O O) O ?_
  obtain⟨m7,hm7,h⟩:=Ge h
  refine JLh (E6 ((out.1++out.2).take m7)) (H64 (f:=Frame.av) (e:=out) O O O Qb (Z9 hm7)) O (G57 (E6 ((out.1++out.2).take m7)) O (G8 (hK5 (Js fun hK8=>Jr fun hK9=>(G57 (G0 0) O (G8 (hK9 (Gp ?_))))))))
  obtain⟨b29,kx29,hb29,hkx29,h⟩:=Hx h
  refine He (fun i29 (s29:Unit)=>each b29 kx29 (List.drop i29 ((out.1++out.2).take m7)) i29 s29=some r) (fun i29 s29=>[(1,E6 l),(5,E6 ((out.1++out.2).take m7)),(6,Ei i29)]) (fun i29 s29=>[]) (fun i29=>((out.1++out.2).take m7).length - i29) 0 () h ⟨(.sm O O),G,O⟩ ?_
  clear h
  intro i29 s29 hi29 K29 e29
  refine Js fun hK30=>Jr fun hK31=>(G57 (Ei i29) O (G57 (E6 ((out.1++out.2).take m7)) O (JLl Qb O O O fun hm19=>(JLh (BL (decide ((i29:Int) < (((out.1++out.2).take m7).length:Int)))) (J1 O O O) O (G8 (hK31 (Gm O (fun hb=>?_) (fun hb=>?_))))))))
  ·
   have hk29:=Jc hb
   obtain⟨y29,nx29,hy29,hn29,h⟩:=Hm hi29 hk29
   replace h:=Rn hb29 h
   refine Gn (hK30 (Js fun hK32=>Gp (Js fun hK33=>?_)))
   obtain⟨y34,hy34,h⟩:=Ge h
   obtain⟨v35,hv35,h⟩:=Ge h
   obtain⟨r36,hr36,h⟩:=Ge h
   refine JC_d0 Jg (by kernel_rfl) (Dq (Ei i29) (G5 O O) O (Dq (E6 l) (G5 O O) O (Dq (Ei l.length) (Qw (f:=Frame.av) (xs:=l) Qb O O) O (Dq (BL (decide ((i29:Int) < (l.length:Int)))) (J1 O O O) O (Dq (BL (decide ((i29:Int) < (l.length:Int)))) (G5 O O) O (Do (E6 ((out.1++out.2).take m7)) [] O .sct G (fun hc=>G5 O O) O (Do (Ei i29) [] O .sct G (fun hc=>G5 O O) O (Do (.dptr (Frame.cs y29)) [28,29] O .sct ⟨Ua,Ua,G⟩ (fun hc=>Gw (f:=Frame.av) (xs:=((out.1++out.2).take m7)) (y:=y29) O O O Qb hy29 O) O (Do (.agg (Frame.cs y29)) [30] O .sct ⟨Ua,G⟩ (fun hc=>Gj Gdd O O O) O (Do (E6 l) [] O .sct G (fun hc=>G5 O O) O (Do (Ei i29) [] O .sct G (fun hc=>G5 O O) O (Do (.dptr (Frame.cs y34)) [32,33] O .sct ⟨Ua,Ua,G⟩ (fun hc=>(match Qa (Gy hc hy34) with | ⟨_,hm_,hy_⟩=>Gw (f:=Frame.av) (xs:=l) (y:=y34) O O O Qb hy_ hm_)) O (Do (.agg (Frame.cs y34)) [34] O .sct ⟨Ua,G⟩ (fun hc=>Gj Gdd O O O) O ?_)))))))))))))
   refine Do (BL (decide (y29=y34))) [31,35] O .sct ⟨Ua,Ua,G⟩ (fun hc=>Gd5 (vs:=[.int .i64 y29.X,.int .i64 y29.Light,.int .i64 y29.Share,.int .i64 y29.Shear,.int .i64 y29.Bend]) (us:=[.int .i64 y34.X,.int .i64 y34.Light,.int .i64 y34.Share,.int .i64 y34.Shear,.int .i64 y34.Bend]) 4 O (tq_111 y29 y34) H90 J11 O O O) O (Do (BL (!(decide (y29=y34)))) [36] O .sct ⟨Ua,G⟩ (fun hc=>Qh (b:=decide (y29=y34)) O O) O (Dq (BL ((decide ((i29:Int) < (l.length:Int)))&&(!(decide (y29=y34))))) (J5 O O O O) O (Dq (BL ((decide ((i29:Int) < (l.length:Int)))&&(!(decide (y29=y34))))) (G5 O O) O (Do (Ei i29) [] O .scf G (fun hc=>G5 O O) O (Do (E6 l) [] O .scf G (fun hc=>G5 O O) O (Do (Ei l.length) [41] O .scf ⟨Ua,G⟩ (fun hc=>Qw (f:=Frame.av) (xs:=l) Qb O O) O (Do (BL (decide ((l.length:Int)≤(i29:Int)))) [40,42] O .scf ⟨Ua,Ua,G⟩ (fun hc=>G31 O O O) O (Do (BL (decide ((l.length:Int)≤(i29:Int)))) [43] O .scf ⟨Ua,G⟩ (fun hc=>G5 O O) O (Do (E6 ((out.1++out.2).take m7)) [] O .optt G (fun hc=>G5 O O) O (Do (Ei i29) [] O .optt G (fun hc=>G5 O O) O (Do (.dptr (Frame.cs y29)) [45,46] O .optt ⟨Ua,Ua,G⟩ (fun hc=>Gw (f:=Frame.av) (xs:=((out.1++out.2).take m7)) (y:=y29) O O O Qb hy29 O) O (Do (.agg (Frame.cs y29)) [47] O .optt ⟨Ua,G⟩ (fun hc=>Gj Gdd O O O) O (Do (Ei i29) [] O .optt G (fun hc=>G5 O O) O ?_)))))))))))))
   refine Do (E6 l) [] O .optt G (fun hc=>G5 O O) O (Do (Ei l.length) [50] O .optt ⟨Ua,G⟩ (fun hc=>Qw (f:=Frame.av) (xs:=l) Qb O O) O (Do (G0 v35) [49,51] O .optt ⟨Ua,Ua,G⟩ (fun hc=>Gd4 (G25 (Gy hc hv35)) O O O) O (Do (.agg (Frame.cs r36)) [52] O .optt ⟨Ua,G⟩ (fun hc=>Gk (args:=[G0 1,G0 v35]) O (G87 1 v35 r36 (Gy hc hr36)) Jd6 ⟨O,O,O,O,G⟩) O (Do (BL (decide (y29=r36))) [48,53] O .optt ⟨Ua,Ua,G⟩ (fun hc=>Gd5 (vs:=[.int .i64 y29.X,.int .i64 y29.Light,.int .i64 y29.Share,.int .i64 y29.Shear,.int .i64 y29.Bend]) (us:=[.int .i64 r36.X,.int .i64 r36.Light,.int .i64 r36.Share,.int .i64 r36.Shear,.int .i64 r36.Bend]) 4 O (tq_111 y29 r36) H90 J11 O O O) O (Do (BL (!(decide (y29=r36)))) [54] O .optt ⟨Ua,G⟩ (fun hc=>Qh (b:=decide (y29=r36)) O O) O (Dg (.opt (!((decide ((i29:Int) < (l.length:Int)))&&(!(decide (y29=y34))))) (BL ((decide ((l.length:Int)≤(i29:Int)))&&(!(decide (y29=r36)))))) (Gi [(44,BL (decide ((l.length:Int)≤(i29:Int)))),(55,_)] O O O .scf ⟨.all id,.part,G⟩ (fun hc=>J5 O O O O) O) O (Dq (BL (((decide ((i29:Int) < (l.length:Int)))&&(!(decide (y29=y34))))||((decide ((l.length:Int)≤(i29:Int)))&&(!(decide (y29=r36)))))) (Yc O O O O) O (Dnil ?_))))))))
   refine hK33 (JCc O h (fun h hb=>?_) (fun h hb=>?_))
   ·
    refine Jr fun hK37=>(G57 (BL false) O (G8 (hK37 (Gr (fin1 BL h)))))
   ·
    refine Gn (hK32 (G3 (G57 (Ei i29) O (JLh (G0 ((i29+1:Nat):Int)) (Hu (Hc hk29 hm19) O O O) O (G57 (G0 ((i29+1:Nat):Int)) O (G8 (e29 _ _ (i29+1) () (app1 hn29 h) (by omega) ⟨(.sm O O),G,rfl⟩)))))))
  ·
   have h:=app1 hkx29 (Hn hi29 (H6 hb))
   refine Hk (hK8 (Jr fun hK38=>(G57 (BL true) O (G8 (hK38 (Gr (fin1 BL h)))))))

def Y4 (x:Hg) (y:Gh):Option Bool:=
 bnd (Q2 (Gh.mk x.Kilos x.X x.Y x.Z x.Surface x.Steps.1) y) fun r3=>
 bnd (bif r3 then Je x.Steps y.Steps else some default) fun r4=>
 some (r3&&r4)
theorem H4f (x:Hg) (y:Gh) (r:Bool) (h:Y4 x y=some r):Pure Ej 100 [.agg (Hg.cs x),.agg (Gh.cs y)] (·=BL r):=by
 unfold Y4 at h
 refine Gx [.tmp 4] Tryz.func100 O O (Jr fun hK1=>(JLh (.ptr 1144 0) (Ja (cs:=[G0 x.Kilos,G0 x.X,G0 x.Y,G0 x.Z,G0 x.Surface,LT 1 G0 x.Steps]) 1144 O O O O O) O (JLh (.ptr 1145 0) (Ja (cs:=[G0 y.Kilos,G0 y.X,G0 y.Y,G0 y.Z,G0 y.Surface,E1 y.Steps]) 1145 O O O O O) O (G57 (BL false) O (G8 (hK1 (Gu [(2,.dptr (Hg.cs x)),(3,.ptr 1145 0)] [(1145,.box 114 [G0 y.Kilos,G0 y.X,G0 y.Y,G0 y.Z,G0 y.Surface,E1 y.Steps])] 1144 rfl rfl rfl ⟨⟨_,rfl,.boxEq rfl rfl⟩,G⟩ rfl (by exact⟨.ptr,.conv (.same rfl),G⟩) (Gu [(2,.dptr (Hg.cs x)),(3,Eh y)] [] 1145 rfl rfl rfl G rfl (by exact⟨.conv (.same rfl),.ptr,G⟩) ?_))))))))
 refine Jr fun hK2=>(JLh (.agg [G0 x.Kilos,G0 x.X,G0 x.Y,G0 x.Z,G0 x.Surface,E1 x.Steps.1]) (H4.cv (Cv.aggL (cs:=(Hg.cs x)) ⟨.same,.same,.same,.same,.same,Cv.lst0 x.Steps,G⟩) (Gj G21 O O O)) O (JLh (.agg (Gh.cs y)) (Gj G21 O O O) O ?_))
 obtain⟨r3,hr3,h⟩:=Ge h
 refine JLh (BL r3) (Gk O (G3f (Gh.mk x.Kilos x.X x.Y x.Z x.Surface x.Steps.1) y r3 hr3) Hc5 ⟨O,O,O,O,G⟩) O (G57 (BL r3) O (JLo (.dptr [LT 1 G0 x.Steps]) [] O .sct G (fun hc=>Ga G5c O O O) O (JLo (LT 1 G0 x.Steps) [9] O .sct ⟨Ua,G⟩ (fun hc=>Gf Hy O O O) O (JLo (.dptr [E1 y.Steps]) [] O .sct G (fun hc=>Ga G5c O O O) O (JLo (E1 y.Steps) [11] O .sct ⟨Ua,G⟩ (fun hc=>Gf Hy O O O) O ?_)))))
 obtain⟨r4,hr4,h⟩:=Ge h
 refine JLo (BL r4) [10,12] O .sct ⟨Ua,Ua,G⟩ (fun hc=>Gk (args:=[LT 1 G0 x.Steps,E1 y.Steps]) O (G41 x.Steps y.Steps r4 (Gy hc hr4)) Hc1 ⟨O,O,O,O,G⟩) O (JLh (BL (r3&&r4)) (J5 O O O O) O (G57 (BL (r3&&r4)) O (G8 (hK2 (Gr (fin1 BL h))))))

def Rt (out:Ln Hg) (l:List Gh):Option Bool:=
 bif decide ((out.1.length:Int)≠(l.length:Int)) then
 (some false)
 else
 (G35 ((l.length:Int)+12) fun v6=>
  bnd (G5d v6 (out.1++out.2).length) fun m7=>
  each (fun y33 i33 (s33:Unit) nx33=>
   bnd (bif decide ((i33:Int) < (l.length:Int)) then Qr l (i33:Int) some else some default) fun y38=>
   bnd (bif decide ((i33:Int) < (l.length:Int)) then Y4 y33 y38 else some default) fun r39=>
   bnd (bif ((!((decide ((i33:Int) < (l.length:Int)))&&(!r39)))&&(decide ((l.length:Int)≤(i33:Int)))) then G35 ((i33:Int) - (l.length:Int)) some else some 0) fun v40=>
   bnd (bif ((!((decide ((i33:Int) < (l.length:Int)))&&(!r39)))&&(decide ((l.length:Int)≤(i33:Int)))) then R5 1 v40 else some default) fun r41=>
   bnd (bif ((!((decide ((i33:Int) < (l.length:Int)))&&(!r39)))&&(decide ((l.length:Int)≤(i33:Int)))) then Q2 (Gh.mk y33.Kilos y33.X y33.Y y33.Z y33.Surface y33.Steps.1) r41 else some default) fun r42=>
   bif (((decide ((i33:Int) < (l.length:Int)))&&(!r39))||((decide ((l.length:Int)≤(i33:Int)))&&(!r42))) then
   (some false)
   else
   (nx33 ()))
  (fun(s33:Unit)=>
   some true) ((out.1++out.2).take m7) 0 ())
theorem H3e (out:Ln Hg) (l:List Gh) (r:Bool) (h:Rt out l=some r):Pure Ej 48 [LT 6 Hg.av out,E8 l] (·=BL r):=by
 unfold Rt at h
 refine Gx [.tmp 4] Tryz.func48 O O (Jr fun hK1=>(G57 (BL false) O (G8 (hK1 (Js fun hK2=>Jr fun hK3=>(G57 (LT 6 Hg.av out) O (JLl Jw O O O fun hm8=>(G57 (E8 l) O (JLl Jw O O O fun hm10=>(JLh (BL (decide ((out.1.length:Int)≠(l.length:Int)))) (G30 O O O) O (G8 (hK3 (JCc O h (fun h hb=>?_) (fun h hb=>?_))))))))))))))
 ·
  refine Jr fun hK4=>(G57 (BL false) O (G8 (hK4 (Gr (fin1 BL h)))))
 ·
  refine Gn (hK2 (Jr fun hK5=>(G57 (LT 6 Hg.av out) O (G57 (E8 l) O (JLl Jw O O O fun hm14=>?_)))))
  obtain⟨v6,hv6,h⟩:=Qj h
  refine JLh (G0 v6) (Hu hv6 O O O) O ?_
  obtain⟨m7,hm7,h⟩:=Ge h
  refine JLh (LS 6 Hg.av ((out.1++out.2).take m7)) (H64 (f:=Hg.av) (e:=out) O O O Jw (Z9 hm7)) O (G57 (LS 6 Hg.av ((out.1++out.2).take m7)) O (G8 (hK5 (Js fun hK8=>Jr fun hK9=>(G57 (G0 0) O (G8 (hK9 (Gp ?_))))))))
  obtain⟨b33,kx33,hb33,hkx33,h⟩:=Hx h
  refine He (fun i33 (s33:Unit)=>each b33 kx33 (List.drop i33 ((out.1++out.2).take m7)) i33 s33=some r) (fun i33 s33=>[(1,E8 l),(5,LS 6 Hg.av ((out.1++out.2).take m7)),(6,Ei i33)]) (fun i33 s33=>[]) (fun i33=>((out.1++out.2).take m7).length - i33) 0 () h ⟨(.sm O O),G,O⟩ ?_
  clear h
  intro i33 s33 hi33 K33 e33
  refine Js fun hK34=>Jr fun hK35=>(G57 (Ei i33) O (G57 (LS 6 Hg.av ((out.1++out.2).take m7)) O (JLl Jw O O O fun hm19=>(JLh (BL (decide ((i33:Int) < (((out.1++out.2).take m7).length:Int)))) (J1 O O O) O (G8 (hK35 (Gm O (fun hb=>?_) (fun hb=>?_))))))))
  ·
   have hk33:=Jc hb
   obtain⟨y33,nx33,hy33,hn33,h⟩:=Hm hi33 hk33
   replace h:=Rn hb33 h
   refine Gn (hK34 (Js fun hK36=>Gp (Js fun hK37=>?_)))
   obtain⟨y38,hy38,h⟩:=Ge h
   obtain⟨r39,hr39,h⟩:=Ge h
   obtain⟨v40,hv40,h⟩:=Ge h
   obtain⟨r41,hr41,h⟩:=Ge h
   obtain⟨r42,hr42,h⟩:=Ge h
   refine JC_d0 Jg (by kernel_rfl) (Dq (Ei i33) (G5 O O) O (Dq (E8 l) (G5 O O) O (Dq (Ei l.length) (Qw (f:=Gh.av) (xs:=l) Jw O O) O (Dq (BL (decide ((i33:Int) < (l.length:Int)))) (J1 O O O) O (Dq (BL (decide ((i33:Int) < (l.length:Int)))) (G5 O O) O (Do (LS 6 Hg.av ((out.1++out.2).take m7)) [] O .sct G (fun hc=>G5 O O) O (Do (Ei i33) [] O .sct G (fun hc=>G5 O O) O (Do (.dptr (Hg.cs y33)) [28,29] O .sct ⟨Ua,Ua,G⟩ (fun hc=>Gw (f:=Hg.av) (xs:=((out.1++out.2).take m7)) (y:=y33) O O O Jw hy33 O) O (Do (.agg (Hg.cs y33)) [30] O .sct ⟨Ua,G⟩ (fun hc=>Gj G21 O O O) O (Do (E8 l) [] O .sct G (fun hc=>G5 O O) O (Do (Ei i33) [] O .sct G (fun hc=>G5 O O) O (Do (Eh y38) [32,33] O .sct ⟨Ua,Ua,G⟩ (fun hc=>(match Qa (Gy hc hy38) with | ⟨_,hm_,hy_⟩=>Gw (f:=Gh.av) (xs:=l) (y:=y38) O O O Jw hy_ hm_)) O (Do (.agg (Gh.cs y38)) [34] O .sct ⟨Ua,G⟩ (fun hc=>Gj G21 O O O) O ?_)))))))))))))
   refine Do (BL r39) [31,35] O .sct ⟨Ua,Ua,G⟩ (fun hc=>Gk (args:=[.agg (Hg.cs y33),.agg (Gh.cs y38)]) O (H4f y33 y38 r39 (Gy hc hr39)) Q75 ⟨O,O,O,O,G⟩) O (Do (BL (!r39)) [36] O .sct ⟨Ua,G⟩ (fun hc=>Qh (b:=r39) O O) O (Dq (BL ((decide ((i33:Int) < (l.length:Int)))&&(!r39))) (J5 O O O O) O (Dq (BL ((decide ((i33:Int) < (l.length:Int)))&&(!r39))) (G5 O O) O (Do (Ei i33) [] O .scf G (fun hc=>G5 O O) O (Do (E8 l) [] O .scf G (fun hc=>G5 O O) O (Do (Ei l.length) [41] O .scf ⟨Ua,G⟩ (fun hc=>Qw (f:=Gh.av) (xs:=l) Jw O O) O (Do (BL (decide ((l.length:Int)≤(i33:Int)))) [40,42] O .scf ⟨Ua,Ua,G⟩ (fun hc=>G31 O O O) O (Do (BL (decide ((l.length:Int)≤(i33:Int)))) [43] O .scf ⟨Ua,G⟩ (fun hc=>G5 O O) O (Do (LS 6 Hg.av ((out.1++out.2).take m7)) [] O .optt G (fun hc=>G5 O O) O (Do (Ei i33) [] O .optt G (fun hc=>G5 O O) O (Do (.dptr (Hg.cs y33)) [45,46] O .optt ⟨Ua,Ua,G⟩ (fun hc=>Gw (f:=Hg.av) (xs:=((out.1++out.2).take m7)) (y:=y33) O O O Jw hy33 O) O (Do (.agg [G0 y33.Kilos,G0 y33.X,G0 y33.Y,G0 y33.Z,G0 y33.Surface,E1 y33.Steps.1]) [47] O .optt ⟨Ua,G⟩ (fun hc=>H4.cv (Cv.aggL (cs:=(Hg.cs y33)) ⟨.same,.same,.same,.same,.same,Cv.lst0 y33.Steps,G⟩) (Gj G21 O O O)) O (Do (Ei i33) [] O .optt G (fun hc=>G5 O O) O ?_)))))))))))))
   refine Do (E8 l) [] O .optt G (fun hc=>G5 O O) O (Do (Ei l.length) [50] O .optt ⟨Ua,G⟩ (fun hc=>Qw (f:=Gh.av) (xs:=l) Jw O O) O (Do (G0 v40) [49,51] O .optt ⟨Ua,Ua,G⟩ (fun hc=>Gd4 (G25 (Gy hc hv40)) O O O) O (Do (.agg (Gh.cs r41)) [52] O .optt ⟨Ua,G⟩ (fun hc=>Gk (args:=[G0 1,G0 v40]) O (G9f 1 v40 r41 (Gy hc hr41)) Jd5 ⟨O,O,O,O,G⟩) O (Do (BL r42) [48,53] O .optt ⟨Ua,Ua,G⟩ (fun hc=>Gk (args:=[.agg [G0 y33.Kilos,G0 y33.X,G0 y33.Y,G0 y33.Z,G0 y33.Surface,E1 y33.Steps.1],.agg (Gh.cs r41)]) O (G3f (Gh.mk y33.Kilos y33.X y33.Y y33.Z y33.Surface y33.Steps.1) r41 r42 (Gy hc hr42)) Hc5 ⟨O,O,O,O,G⟩) O (Do (BL (!r42)) [54] O .optt ⟨Ua,G⟩ (fun hc=>Qh (b:=r42) O O) O (Dg (.opt (!((decide ((i33:Int) < (l.length:Int)))&&(!r39))) (BL ((decide ((l.length:Int)≤(i33:Int)))&&(!r42)))) (Gi [(44,BL (decide ((l.length:Int)≤(i33:Int)))),(55,_)] O O O .scf ⟨.all id,.part,G⟩ (fun hc=>J5 O O O O) O) O (Dq (BL (((decide ((i33:Int) < (l.length:Int)))&&(!r39))||((decide ((l.length:Int)≤(i33:Int)))&&(!r42)))) (Yc O O O O) O (Dnil ?_))))))))
   refine hK37 (JCc O h (fun h hb=>?_) (fun h hb=>?_))
   ·
    refine Jr fun hK43=>(G57 (BL false) O (G8 (hK43 (Gr (fin1 BL h)))))
   ·
    refine Gn (hK36 (G3 (G57 (Ei i33) O (JLh (G0 ((i33+1:Nat):Int)) (Hu (Hc hk33 hm19) O O O) O (G57 (G0 ((i33+1:Nat):Int)) O (G8 (e33 _ _ (i33+1) () (app1 hn33 h) (by omega) ⟨(.sm O O),G,rfl⟩)))))))
  ·
   have h:=app1 hkx33 (Hn hi33 (H6 hb))
   refine Hk (hK8 (Jr fun hK44=>(G57 (BL true) O (G8 (hK44 (Gr (fin1 BL h)))))))

def Zg (x:Yd) (y:H2):Option Bool:=
 bnd (Zb (H2.mk (x.Columns.1.map Gz.pl) (x.Covers.1.map H8.pl) x.Light x.Rows.1 x.Frames.1 (x.Tanks.1.map Hg.pl) x.G2) y) fun r3=>
 bnd (bif r3 then R7 x.Columns y.Columns else some default) fun r4=>
 bnd (bif (r3&&r4) then Rf x.Covers y.Covers else some default) fun r5=>
 bnd (bif ((r3&&r4)&&r5) then Y5 x.Rows y.Rows else some default) fun r6=>
 bnd (bif (((r3&&r4)&&r5)&&r6) then Re x.Frames y.Frames else some default) fun r7=>
 bnd (bif ((((r3&&r4)&&r5)&&r6)&&r7) then Rt x.Tanks y.Tanks else some default) fun r8=>
 some (((((r3&&r4)&&r5)&&r6)&&r7)&&r8)
theorem H50 (x:Yd) (y:H2) (r:Bool) (h:Zg x y=some r):Pure Ej 17 [.agg (Yd.cs x),.agg (H2.cs y)] (·=BL r):=by
 unfold Zg at h
 refine Gx [.tmp 4] Tryz.func17 O O (Jr fun hK1=>(JLh (.ptr 1028 0) (Ja (cs:=(Yd.cs x)) 1028 O O O O O) O (JLh (.ptr 1029 0) (Ja (cs:=(H2.cs y)) 1029 O O O O O) O (G57 (BL false) O (G8 (hK1 ?_))))))
 refine Gu [(2,.dptr (Yd.cs x)),(3,.ptr 1029 0)] [(1029,.box 32 (H2.cs y))] 1028 rfl rfl rfl ⟨⟨_,rfl,.boxEq rfl rfl⟩,G⟩ rfl (by exact⟨.ptr,.conv (.same rfl),G⟩) (Gu [(2,.dptr (Yd.cs x)),(3,Eb y)] [] 1029 rfl rfl rfl G rfl (by exact⟨.conv (.same rfl),.ptr,G⟩) ?_)
 refine Jr fun hK2=>(JLh (.agg [E4 (x.Columns.1.map Gz.pl),E5 (x.Covers.1.map H8.pl),G0 x.Light.Kilos,G0 x.Light.X,G0 x.Light.Y,G0 x.Light.Z,E7 x.Rows.1,E6 x.Frames.1,E8 (x.Tanks.1.map Hg.pl),G0 x.G2.Tolerance,G0 x.G2.Trim,G0 x.G2.List_,G0 x.G2.Stability]) (H4.cv (Cv.aggL (cs:=(Yd.cs x)) ⟨Cv.lstM (f:=Gz.av) (g:=G4.av) Gz.pl Gz.cvl x.Columns,Cv.lstM (f:=H8.av) (g:=G9.av) H8.pl H8.cvl x.Covers,.same,.same,.same,.same,Cv.lst0 x.Rows,Cv.lst0 x.Frames,Cv.lstM (f:=Hg.av) (g:=Gh.av) Hg.pl Hg.cvl x.Tanks,.same,.same,.same,.same,G⟩) (Gj Hh O O O)) O (JLh (.agg (H2.cs y)) (Gj Hh O O O) O ?_))
 obtain⟨r3,hr3,h⟩:=Ge h
 refine JLh (BL r3) (Gk O (H4a (H2.mk (x.Columns.1.map Gz.pl) (x.Covers.1.map H8.pl) x.Light x.Rows.1 x.Frames.1 (x.Tanks.1.map Hg.pl) x.G2) y r3 hr3) Qa7 ⟨O,O,O,O,G⟩) O (G57 (BL r3) O (JLo (.dptr (Yd.cs x)) [] O .sct G (fun hc=>Ga Hj O O O) O (JLo (LT 12 Gz.av x.Columns) [9] O .sct ⟨Ua,G⟩ (fun hc=>Gf Ht O O O) O (JLo (Eb y) [] O .sct G (fun hc=>Ga Hj O O O) O (JLo (E4 y.Columns) [11] O .sct ⟨Ua,G⟩ (fun hc=>Gf Ht O O O) O ?_)))))
 obtain⟨r4,hr4,h⟩:=Ge h
 refine JLo (BL r4) [10,12] O .sct ⟨Ua,Ua,G⟩ (fun hc=>Gk (args:=[LT 12 Gz.av x.Columns,E4 y.Columns]) O (H07 x.Columns y.Columns r4 (Gy hc hr4)) Qa6 ⟨O,O,O,O,G⟩) O (JLh (BL (r3&&r4)) (J5 O O O O) O (G57 (BL (r3&&r4)) O (JLo (.dptr ((Yd.cs x).drop 1)) [] O .sct G (fun hc=>Ga Jk O O O) O (JLo (LT 2 H8.av x.Covers) [16] O .sct ⟨Ua,G⟩ (fun hc=>Gf Q4 O O O) O (JLo (.dptr ((H2.cs y).drop 1)) [] O .sct G (fun hc=>Ga Jk O O O) O (JLo (E5 y.Covers) [18] O .sct ⟨Ua,G⟩ (fun hc=>Gf Q4 O O O) O ?_))))))
 obtain⟨r5,hr5,h⟩:=Ge h
 refine JLo (BL r5) [17,19] O .sct ⟨Ua,Ua,G⟩ (fun hc=>Gk (args:=[LT 2 H8.av x.Covers,E5 y.Covers]) O (H15 x.Covers y.Covers r5 (Gy hc hr5)) Qa5 ⟨O,O,O,O,G⟩) O (JLh (BL ((r3&&r4)&&r5)) (J5 O O O O) O (G57 (BL ((r3&&r4)&&r5)) O (JLo (.dptr ((Yd.cs x).drop 6)) [] O .sct G (fun hc=>Ga G70 O O O) O (JLo (LT 5 Row.av x.Rows) [23] O .sct ⟨Ua,G⟩ (fun hc=>Gf Gc6 O O O) O (JLo (.dptr ((H2.cs y).drop 6)) [] O .sct G (fun hc=>Ga G70 O O O) O (JLo (E7 y.Rows) [25] O .sct ⟨Ua,G⟩ (fun hc=>Gf Gc6 O O O) O ?_))))))
 obtain⟨r6,hr6,h⟩:=Ge h
 refine JLo (BL r6) [24,26] O .sct ⟨Ua,Ua,G⟩ (fun hc=>Gk (args:=[LT 5 Row.av x.Rows,E7 y.Rows]) O (H51 x.Rows y.Rows r6 (Gy hc hr6)) Qa4 ⟨O,O,O,O,G⟩) O (JLh (BL (((r3&&r4)&&r5)&&r6)) (J5 O O O O) O (G57 (BL (((r3&&r4)&&r5)&&r6)) O (JLo (.dptr ((Yd.cs x).drop 7)) [] O .sct G (fun hc=>Ga G6f O O O) O (JLo (LT 5 Frame.av x.Frames) [30] O .sct ⟨Ua,G⟩ (fun hc=>Gf Gc5 O O O) O (JLo (.dptr ((H2.cs y).drop 7)) [] O .sct G (fun hc=>Ga G6f O O O) O (JLo (E6 y.Frames) [32] O .sct ⟨Ua,G⟩ (fun hc=>Gf Gc5 O O O) O ?_))))))
 obtain⟨r7,hr7,h⟩:=Ge h
 refine JLo (BL r7) [31,33] O .sct ⟨Ua,Ua,G⟩ (fun hc=>Gk (args:=[LT 5 Frame.av x.Frames,E6 y.Frames]) O (H14 x.Frames y.Frames r7 (Gy hc hr7)) Qa3 ⟨O,O,O,O,G⟩) O (JLh (BL ((((r3&&r4)&&r5)&&r6)&&r7)) (J5 O O O O) O (G57 (BL ((((r3&&r4)&&r5)&&r6)&&r7)) O (JLo (.dptr ((Yd.cs x).drop 8)) [] O .sct G (fun hc=>Ga G6e O O O) O (JLo (LT 6 Hg.av x.Tanks) [37] O .sct ⟨Ua,G⟩ (fun hc=>Gf Gc4 O O O) O (JLo (.dptr ((H2.cs y).drop 8)) [] O .sct G (fun hc=>Ga G6e O O O) O (JLo (E8 y.Tanks) [39] O .sct ⟨Ua,G⟩ (fun hc=>Gf Gc4 O O O) O ?_))))))
 obtain⟨r8,hr8,h⟩:=Ge h
 refine JLo (BL r8) [38,40] O .sct ⟨Ua,Ua,G⟩ (fun hc=>Gk (args:=[LT 6 Hg.av x.Tanks,E8 y.Tanks]) O (H3e x.Tanks y.Tanks r8 (Gy hc hr8)) Qa2 ⟨O,O,O,O,G⟩) O (JLh (BL (((((r3&&r4)&&r5)&&r6)&&r7)&&r8)) (J5 O O O O) O (G57 (BL (((((r3&&r4)&&r5)&&r6)&&r7)&&r8)) O (G8 (hK2 (Gr (fin1 BL h))))))

def Rj (k:Int) (i:Int):Option Gg:=
 bnd (Jo k i) fun r3=>
 some (Gg.mk r3 ByteArray.empty 0 false 0 0 0 0 false)
theorem Ga9 (k:Int) (i:Int) (r:Gg) (h:Rj k i=some r):Pure Ej 30 [G0 k,G0 i] (·=.agg (Gg.cs r)):=by
 unfold Rj at h
 refine Gx [.cell 4 69] Tryz.func30 O O (Jr fun hK1=>(JLh (.ptr 1048 0) (G1d 1048 [G0 0,ST ByteArray.empty,U8 0,BL false,G0 0,G0 0,G0 0,U8 0,BL false] [E0,.string ByteArray.empty,.int .u8 0,.bool false,E0,E0,E0,.int .u8 0,.bool false] G05 ⟨.inl O,.inl O,.inl O,.inl O,.inl O,.inl O,.inl O,.inl O,.inl O,G⟩ O O) O (G8 (hK1 (Jr fun hK2=>(G57 (G0 k) O (G57 (G0 i) O ?_)))))))
 obtain⟨r3,hr3,h⟩:=Ge h
 refine JLh (G0 r3) (Gk O (Qp k i r3 hr3) G69 ⟨O,O,O,O,G⟩) O (JLh (.agg [G0 r3,ST ByteArray.empty,U8 0,BL false,G0 0,G0 0,G0 0,U8 0,BL false]) (Jj (cs:=[G0 r3,ST ByteArray.empty,U8 0,BL false,G0 0,G0 0,G0 0,U8 0,BL false]) [(0,1),(1,1),(2,1),(3,1),(4,1),(5,1),(6,1),(7,1),(8,1)] [G0 0,ST ByteArray.empty,U8 0,BL false,G0 0,G0 0,G0 0,U8 0,BL false] [E0,.string ByteArray.empty,.int .u8 0,.bool false,E0,E0,E0,.int .u8 0,.bool false] G0d G05 ⟨.inl O,.inl O,.inl O,.inl O,.inl O,.inl O,.inl O,.inl O,.inl O,G⟩ O O) O (Jf (u:=.junk) (J2 (u:=.agg [G0 r3,ST ByteArray.empty,U8 0,BL false,G0 0,G0 0,G0 0,U8 0,BL false]) (ds:=[G0 r3,ST ByteArray.empty,U8 0,BL false,G0 0,G0 0,G0 0,U8 0,BL false]) G06 O O O O O O O O) (G8 (hK2 ?_))))
 refine Gr (⟨[.agg [G0 r3,ST ByteArray.empty,U8 0,BL false,G0 0,G0 0,G0 0,U8 0,BL false]],[],G,O,⟨⟨_,⟨_,_,_,_,O,O,O,.inl ⟨G33,O⟩⟩,.conv (.same O)⟩,G⟩,O,congrArg (fun r:Gg=>(.agg (Gg.cs r):AV)) (Option.some.inj h)⟩)

def Z0 (l:List Gg):Option (Ln Gg):=
 G35 ((l.length:Int)+12) fun v3=>
 bnd (Gf1 v3) fun m4=>
 need (decide (64*m4≤281474976710656∧m4≤maxLen)) <|
 need (decide ((([]:List Gg).length+l.length)*64≤140737488355328∧([]:List Gg).length+l.length≤maxLen)) <|
 need (decide (12≤9223372036854775807)) <|
 upto (fun i19 (s19:(List Gg)) nx19=>
  bnd (Rj 1 (i19:Int)) fun r23=>
  need (decide ((s19.length+[r23].length)*64≤140737488355328∧s19.length+[r23].length≤maxLen)) <|
  nx19 (s19++[r23]))
 (fun(s19:(List Gg))=>
  bnd (G5d (l.length:Int) s19.length) fun m26=>
  some (s19.take m26,s19.drop m26)) (12:Int).toNat 0 (([]:List Gg)++l)
theorem H3d (l:List Gg) (r:(Ln Gg)) (h:Z0 l=some r):Pure Ej 8 [E3 l] (·=LT 9 Gg.av r):=by
 unfold Z0 at h
 refine Gx [.tmp 2] Tryz.func8 O O (Jr fun hK1=>(JLh (E3 ([]:List Gg)) (Hb 9 O O) O (G8 (hK1 (Jr fun hK2=>(G57 (E3 l) O (JLl Jv O O O fun hm6=>?_)))))))
 obtain⟨v3,hv3,h⟩:=Qj h
 refine JLh (G0 v3) (Hu hv3 O O O) O ?_
 obtain⟨m4,hm4,h⟩:=Ge h
 obtain⟨ha5,h⟩:=Hv h
 refine JLh (OW 1009 9 Gg.av ([]:List Gg)) (Gc1 1009 O O O O Jv J13 O (G71 hm4) ha5) O (G57 (OW 1009 9 Gg.av ([]:List Gg)) O (G8 (hK2 (Jr fun hK6=>(G57 (OW 1009 9 Gg.av ([]:List Gg)) O (G57 (E3 l) O ?_))))))
 obtain⟨ha7,h⟩:=Hv h
 refine JLh (OW 1009 9 Gg.av (([]:List Gg)++l)) (Ge7 (f:=Gg.av) (xs:=([]:List Gg)) (ys:=l) O O O O Jv J13 ha7 (fun _=>O) (.inl O)) O (G57 (OW 1009 9 Gg.av (([]:List Gg)++l)) O (G8 (hK6 (Js fun hK8=>Jr fun hK9=>(G57 (G0 0) O (G8 (hK9 (Gp ?_))))))))
 obtain⟨hx19,h⟩:=Hv h
 obtain⟨b19,kx19,hb19,hkx19,h⟩:=G8e h
 refine He (fun i19 (s19:(List Gg))=>upto b19 kx19 ((12:Int).toNat - i19) i19 s19=some r) (fun i19 s19=>[(0,E3 l),(3,OW 1009 9 Gg.av s19),(4,Ei i19)]) (fun i19 s19=>[(1009,.spare 69 9 s19.length s19.length)]) (fun i19=>(12:Int).toNat - i19) 0 (([]:List Gg)++l) h ⟨(.sm O O),⟨⟨_,O,.same⟩,G⟩,O⟩ ?_
 clear h
 intro i19 s19 hi19 K19 e19
 refine Js fun hK20=>Jr fun hK21=>(G57 (Ei i19) O (JLh (BL (decide ((i19:Int) < 12))) (J1 O O O) O (G8 (hK21 (Gm O (fun hb=>?_) (fun hb=>?_))))))
 ·
  have hk19:=G5e hb
  obtain⟨nx19,hn19,h⟩:=G59 hi19 hk19
  replace h:=Hfc hb19 h
  refine Gn (hK20 (Js fun hK22=>Gp (G3 (G57 (OW 1009 9 Gg.av s19) O (G57 (Ei i19) O ?_)))))
  obtain⟨r23,hr23,h⟩:=Ge h
  refine JLh (.agg (Gg.cs r23)) (Gk O (Ga9 1 (i19:Int) r23 hr23) Je0 ⟨O,O,O,O,G⟩) O (JLh (E3 [r23]) (Hd (xs:=[.agg (Gg.cs r23)]) O ⟨O,O,G⟩ Jv G2b O O O O) O ?_)
  obtain⟨ha24,h⟩:=Hv h
  refine JLh (OW 1009 9 Gg.av (s19++[r23])) (Qo (f:=Gg.av) (xs:=s19) (ys:=[r23]) O O O O Jv J13 ha24 (fun _=>O) (.inl O) O) O (G57 (OW 1009 9 Gg.av (s19++[r23])) O (G8 (hK22 (G3 (G57 (Ei i19) O (JLh (G0 ((i19+1:Nat):Int)) (Hu (Hc hk19 (G32 hx19)) O O O) O (G57 (G0 ((i19+1:Nat):Int)) O (G8 (e19 _ _ (i19+1) (s19++[r23]) (app1 hn19 h) (by omega) ⟨(.sm O O),⟨⟨_,rfl,.same⟩,G⟩,rfl⟩)))))))))
 ·
  have h:=app1 hkx19 (G5a hi19 (Yg hb))
  refine Hk (hK8 (Jr fun hK25=>(G57 (OW 1009 9 Gg.av s19) O (G57 (E3 l) O (JLl Jv O O O fun hm23=>?_)))))
  obtain⟨m26,hm26,h⟩:=Ge h
  refine JLh (LT 9 Gg.av (s19.take m26,s19.drop m26)) (Jae (f:=Gg.av) (xs:=s19) O O O Jv (Z9 hm26)) O (G57 (LT 9 Gg.av (s19.take m26,s19.drop m26)) O (G8 (hK25 (Gr (fin1 (fun r:(Ln Gg)=>(LT 9 Gg.av r:AV)) h)))))

def Z1 (out:Ln Gg) (l:List Gg):Option Bool:=
 bif decide ((out.1.length:Int)≠(l.length:Int)) then
 (some false)
 else
 (G35 ((l.length:Int)+12) fun v6=>
  bnd (G5d v6 (out.1++out.2).length) fun m7=>
  each (fun y29 i29 (s29:Unit) nx29=>
   bnd (bif decide ((i29:Int) < (l.length:Int)) then Qr l (i29:Int) some else some default) fun y34=>
   bnd (bif ((!((decide ((i29:Int) < (l.length:Int)))&&(!(decide (y29=y34)))))&&(decide ((l.length:Int)≤(i29:Int)))) then G35 ((i29:Int) - (l.length:Int)) some else some 0) fun v35=>
   bnd (bif ((!((decide ((i29:Int) < (l.length:Int)))&&(!(decide (y29=y34)))))&&(decide ((l.length:Int)≤(i29:Int)))) then Rj 1 v35 else some default) fun r36=>
   bif (((decide ((i29:Int) < (l.length:Int)))&&(!(decide (y29=y34))))||((decide ((l.length:Int)≤(i29:Int)))&&(!(decide (y29=r36))))) then
   (some false)
   else
   (nx29 ()))
  (fun(s29:Unit)=>
   some true) ((out.1++out.2).take m7) 0 ())
theorem H40 (out:Ln Gg) (l:List Gg) (r:Bool) (h:Z1 out l=some r):Pure Ej 18 [LT 9 Gg.av out,E3 l] (·=BL r):=by
 unfold Z1 at h
 refine Gx [.tmp 4] Tryz.func18 O O (Jr fun hK1=>(G57 (BL false) O (G8 (hK1 (Js fun hK2=>Jr fun hK3=>(G57 (LT 9 Gg.av out) O (JLl Jv O O O fun hm8=>(G57 (E3 l) O (JLl Jv O O O fun hm10=>(JLh (BL (decide ((out.1.length:Int)≠(l.length:Int)))) (G30 O O O) O (G8 (hK3 (JCc O h (fun h hb=>?_) (fun h hb=>?_))))))))))))))
 ·
  refine Jr fun hK4=>(G57 (BL false) O (G8 (hK4 (Gr (fin1 BL h)))))
 ·
  refine Gn (hK2 (Jr fun hK5=>(G57 (LT 9 Gg.av out) O (G57 (E3 l) O (JLl Jv O O O fun hm14=>?_)))))
  obtain⟨v6,hv6,h⟩:=Qj h
  refine JLh (G0 v6) (Hu hv6 O O O) O ?_
  obtain⟨m7,hm7,h⟩:=Ge h
  refine JLh (E3 ((out.1++out.2).take m7)) (H64 (f:=Gg.av) (e:=out) O O O Jv (Z9 hm7)) O (G57 (E3 ((out.1++out.2).take m7)) O (G8 (hK5 (Js fun hK8=>Jr fun hK9=>(G57 (G0 0) O (G8 (hK9 (Gp ?_))))))))
  obtain⟨b29,kx29,hb29,hkx29,h⟩:=Hx h
  refine He (fun i29 (s29:Unit)=>each b29 kx29 (List.drop i29 ((out.1++out.2).take m7)) i29 s29=some r) (fun i29 s29=>[(1,E3 l),(5,E3 ((out.1++out.2).take m7)),(6,Ei i29)]) (fun i29 s29=>[]) (fun i29=>((out.1++out.2).take m7).length - i29) 0 () h ⟨(.sm O O),G,O⟩ ?_
  clear h
  intro i29 s29 hi29 K29 e29
  refine Js fun hK30=>Jr fun hK31=>(G57 (Ei i29) O (G57 (E3 ((out.1++out.2).take m7)) O (JLl Jv O O O fun hm19=>(JLh (BL (decide ((i29:Int) < (((out.1++out.2).take m7).length:Int)))) (J1 O O O) O (G8 (hK31 (Gm O (fun hb=>?_) (fun hb=>?_))))))))
  ·
   have hk29:=Jc hb
   obtain⟨y29,nx29,hy29,hn29,h⟩:=Hm hi29 hk29
   replace h:=Rn hb29 h
   refine Gn (hK30 (Js fun hK32=>Gp (Js fun hK33=>?_)))
   obtain⟨y34,hy34,h⟩:=Ge h
   obtain⟨v35,hv35,h⟩:=Ge h
   obtain⟨r36,hr36,h⟩:=Ge h
   refine JC_d0 Jg (by kernel_rfl) (Dq (Ei i29) (G5 O O) O (Dq (E3 l) (G5 O O) O (Dq (Ei l.length) (Qw (f:=Gg.av) (xs:=l) Jv O O) O (Dq (BL (decide ((i29:Int) < (l.length:Int)))) (J1 O O O) O (Dq (BL (decide ((i29:Int) < (l.length:Int)))) (G5 O O) O (Do (E3 ((out.1++out.2).take m7)) [] O .sct G (fun hc=>G5 O O) O (Do (Ei i29) [] O .sct G (fun hc=>G5 O O) O (Do (Ee y29) [28,29] O .sct ⟨Ua,Ua,G⟩ (fun hc=>Gw (f:=Gg.av) (xs:=((out.1++out.2).take m7)) (y:=y29) O O O Jv hy29 O) O (Do (.agg (Gg.cs y29)) [30] O .sct ⟨Ua,G⟩ (fun hc=>Gj G33 O O O) O (Do (E3 l) [] O .sct G (fun hc=>G5 O O) O (Do (Ei i29) [] O .sct G (fun hc=>G5 O O) O (Do (Ee y34) [32,33] O .sct ⟨Ua,Ua,G⟩ (fun hc=>(match Qa (Gy hc hy34) with | ⟨_,hm_,hy_⟩=>Gw (f:=Gg.av) (xs:=l) (y:=y34) O O O Jv hy_ hm_)) O (Do (.agg (Gg.cs y34)) [34] O .sct ⟨Ua,G⟩ (fun hc=>Gj G33 O O O) O ?_)))))))))))))
   refine Do (BL (decide (y29=y34))) [31,35] O .sct ⟨Ua,Ua,G⟩ (fun hc=>Gd5 (vs:=[.int .i64 y29.ID,.string y29.Number,.int .u8 y29.Size,.bool y29.High,.int .i64 y29.Kilos,.int .i64 y29.Load,.int .i64 y29.Discharge,.int .u8 y29.Class,.bool y29.Reefer]) (us:=[.int .i64 y34.ID,.string y34.Number,.int .u8 y34.Size,.bool y34.High,.int .i64 y34.Kilos,.int .i64 y34.Load,.int .i64 y34.Discharge,.int .u8 y34.Class,.bool y34.Reefer]) 4 O (tq_69 y29 y34) J95 Q34 O O O) O (Do (BL (!(decide (y29=y34)))) [36] O .sct ⟨Ua,G⟩ (fun hc=>Qh (b:=decide (y29=y34)) O O) O (Dq (BL ((decide ((i29:Int) < (l.length:Int)))&&(!(decide (y29=y34))))) (J5 O O O O) O (Dq (BL ((decide ((i29:Int) < (l.length:Int)))&&(!(decide (y29=y34))))) (G5 O O) O (Do (Ei i29) [] O .scf G (fun hc=>G5 O O) O (Do (E3 l) [] O .scf G (fun hc=>G5 O O) O (Do (Ei l.length) [41] O .scf ⟨Ua,G⟩ (fun hc=>Qw (f:=Gg.av) (xs:=l) Jv O O) O (Do (BL (decide ((l.length:Int)≤(i29:Int)))) [40,42] O .scf ⟨Ua,Ua,G⟩ (fun hc=>G31 O O O) O (Do (BL (decide ((l.length:Int)≤(i29:Int)))) [43] O .scf ⟨Ua,G⟩ (fun hc=>G5 O O) O (Do (E3 ((out.1++out.2).take m7)) [] O .optt G (fun hc=>G5 O O) O (Do (Ei i29) [] O .optt G (fun hc=>G5 O O) O (Do (Ee y29) [45,46] O .optt ⟨Ua,Ua,G⟩ (fun hc=>Gw (f:=Gg.av) (xs:=((out.1++out.2).take m7)) (y:=y29) O O O Jv hy29 O) O (Do (.agg (Gg.cs y29)) [47] O .optt ⟨Ua,G⟩ (fun hc=>Gj G33 O O O) O (Do (Ei i29) [] O .optt G (fun hc=>G5 O O) O ?_)))))))))))))
   refine Do (E3 l) [] O .optt G (fun hc=>G5 O O) O (Do (Ei l.length) [50] O .optt ⟨Ua,G⟩ (fun hc=>Qw (f:=Gg.av) (xs:=l) Jv O O) O (Do (G0 v35) [49,51] O .optt ⟨Ua,Ua,G⟩ (fun hc=>Gd4 (G25 (Gy hc hv35)) O O O) O (Do (.agg (Gg.cs r36)) [52] O .optt ⟨Ua,G⟩ (fun hc=>Gk (args:=[G0 1,G0 v35]) O (Ga9 1 v35 r36 (Gy hc hr36)) Je0 ⟨O,O,O,O,G⟩) O (Do (BL (decide (y29=r36))) [48,53] O .optt ⟨Ua,Ua,G⟩ (fun hc=>Gd5 (vs:=[.int .i64 y29.ID,.string y29.Number,.int .u8 y29.Size,.bool y29.High,.int .i64 y29.Kilos,.int .i64 y29.Load,.int .i64 y29.Discharge,.int .u8 y29.Class,.bool y29.Reefer]) (us:=[.int .i64 r36.ID,.string r36.Number,.int .u8 r36.Size,.bool r36.High,.int .i64 r36.Kilos,.int .i64 r36.Load,.int .i64 r36.Discharge,.int .u8 r36.Class,.bool r36.Reefer]) 4 O (tq_69 y29 r36) J95 Q34 O O O) O (Do (BL (!(decide (y29=r36)))) [54] O .optt ⟨Ua,G⟩ (fun hc=>Qh (b:=decide (y29=r36)) O O) O (Dg (.opt (!((decide ((i29:Int) < (l.length:Int)))&&(!(decide (y29=y34))))) (BL ((decide ((l.length:Int)≤(i29:Int)))&&(!(decide (y29=r36)))))) (Gi [(44,BL (decide ((l.length:Int)≤(i29:Int)))),(55,_)] O O O .scf ⟨.all id,.part,G⟩ (fun hc=>J5 O O O O) O) O (Dq (BL (((decide ((i29:Int) < (l.length:Int)))&&(!(decide (y29=y34))))||((decide ((l.length:Int)≤(i29:Int)))&&(!(decide (y29=r36)))))) (Yc O O O O) O (Dnil ?_))))))))
   refine hK33 (JCc O h (fun h hb=>?_) (fun h hb=>?_))
   ·
    refine Jr fun hK37=>(G57 (BL false) O (G8 (hK37 (Gr (fin1 BL h)))))
   ·
    refine Gn (hK32 (G3 (G57 (Ei i29) O (JLh (G0 ((i29+1:Nat):Int)) (Hu (Hc hk29 hm19) O O O) O (G57 (G0 ((i29+1:Nat):Int)) O (G8 (e29 _ _ (i29+1) () (app1 hn29 h) (by omega) ⟨(.sm O O),G,rfl⟩)))))))
  ·
   have h:=app1 hkx29 (Hn hi29 (H6 hb))
   refine Hk (hK8 (Jr fun hK38=>(G57 (BL true) O (G8 (hK38 (Gr (fin1 BL h)))))))

def Qs (k:Int) (i:Int):Option Stowed:=
 bnd (Jo k i) fun r3=>
 some (Stowed.mk r3 (Slot.mk 0 0 0))
theorem G7b (k:Int) (i:Int) (r:Stowed) (h:Qs k i=some r):Pure Ej 31 [G0 k,G0 i] (·=.agg (Stowed.cs r)):=by
 unfold Qs at h
 refine Gx [.cell 4 73] Tryz.func31 O O (Jr fun hK1=>(JLh (.ptr 1049 0) (G1d 1049 [G0 0,G0 0,G0 0,U8 0] [E0,E0,E0,.int .u8 0] H1f ⟨.inl O,.inl O,.inl O,.inl O,G⟩ O O) O (G8 (hK1 (Jr fun hK2=>(G57 (G0 k) O (G57 (G0 i) O ?_)))))))
 obtain⟨r3,hr3,h⟩:=Ge h
 refine JLh (G0 r3) (Gk O (Qp k i r3 hr3) G69 ⟨O,O,O,O,G⟩) O (JLh (.agg [G0 r3,G0 0,G0 0,U8 0]) (Jj (cs:=[G0 r3,G0 0,G0 0,U8 0]) [(0,1),(1,3)] [G0 0,G0 0,G0 0,U8 0] [E0,E0,E0,.int .u8 0] H8a H1f ⟨.inl O,.inl O,.inl O,.inl O,G⟩ O O) O (Jf (u:=.junk) (J2 (u:=.agg [G0 r3,G0 0,G0 0,U8 0]) (ds:=[G0 r3,G0 0,G0 0,U8 0]) G36 O O O O O O O O) (G8 (hK2 (Gr (⟨[.agg [G0 r3,G0 0,G0 0,U8 0]],[],G,O,⟨⟨_,⟨_,_,_,_,O,O,O,.inl ⟨Z8,O⟩⟩,.conv (.same O)⟩,G⟩,O,congrArg (fun r:Stowed=>(.agg (Stowed.cs r):AV)) (Option.some.inj h)⟩))))))

def Y8 (l:List Stowed):Option (Ln Stowed):=
 G35 ((l.length:Int)+12) fun v3=>
 bnd (Gf1 v3) fun m4=>
 need (decide (32*m4≤281474976710656∧m4≤maxLen)) <|
 need (decide ((([]:List Stowed).length+l.length)*32≤140737488355328∧([]:List Stowed).length+l.length≤maxLen)) <|
 need (decide (12≤9223372036854775807)) <|
 upto (fun i19 (s19:(List Stowed)) nx19=>
  bnd (Qs 1 (i19:Int)) fun r23=>
  need (decide ((s19.length+[r23].length)*32≤140737488355328∧s19.length+[r23].length≤maxLen)) <|
  nx19 (s19++[r23]))
 (fun(s19:(List Stowed))=>
  bnd (G5d (l.length:Int) s19.length) fun m26=>
  some (s19.take m26,s19.drop m26)) (12:Int).toNat 0 (([]:List Stowed)++l)
theorem H04 (l:List Stowed) (r:(Ln Stowed)) (h:Y8 l=some r):Pure Ej 9 [E2 l] (·=LT 4 Stowed.av r):=by
 unfold Y8 at h
 refine Gx [.tmp 2] Tryz.func9 O O (Jr fun hK1=>(JLh (E2 ([]:List Stowed)) (Hb 4 O O) O (G8 (hK1 (Jr fun hK2=>(G57 (E2 l) O (JLl H0 O O O fun hm6=>?_)))))))
 obtain⟨v3,hv3,h⟩:=Qj h
 refine JLh (G0 v3) (Hu hv3 O O O) O ?_
 obtain⟨m4,hm4,h⟩:=Ge h
 obtain⟨ha5,h⟩:=Hv h
 refine JLh (OW 1010 4 Stowed.av ([]:List Stowed)) (Gc1 1010 O O O O H0 H21 O (G71 hm4) ha5) O (G57 (OW 1010 4 Stowed.av ([]:List Stowed)) O (G8 (hK2 (Jr fun hK6=>(G57 (OW 1010 4 Stowed.av ([]:List Stowed)) O (G57 (E2 l) O ?_))))))
 obtain⟨ha7,h⟩:=Hv h
 refine JLh (OW 1010 4 Stowed.av (([]:List Stowed)++l)) (Ge7 (f:=Stowed.av) (xs:=([]:List Stowed)) (ys:=l) O O O O H0 H21 ha7 (fun _=>O) (.inl O)) O (G57 (OW 1010 4 Stowed.av (([]:List Stowed)++l)) O (G8 (hK6 (Js fun hK8=>Jr fun hK9=>(G57 (G0 0) O (G8 (hK9 (Gp ?_))))))))
 obtain⟨hx19,h⟩:=Hv h
 obtain⟨b19,kx19,hb19,hkx19,h⟩:=G8e h
 refine He (fun i19 (s19:(List Stowed))=>upto b19 kx19 ((12:Int).toNat - i19) i19 s19=some r) (fun i19 s19=>[(0,E2 l),(3,OW 1010 4 Stowed.av s19),(4,Ei i19)]) (fun i19 s19=>[(1010,.spare 73 4 s19.length s19.length)]) (fun i19=>(12:Int).toNat - i19) 0 (([]:List Stowed)++l) h ⟨(.sm O O),⟨⟨_,O,.same⟩,G⟩,O⟩ ?_
 clear h
 intro i19 s19 hi19 K19 e19
 refine Js fun hK20=>Jr fun hK21=>(G57 (Ei i19) O (JLh (BL (decide ((i19:Int) < 12))) (J1 O O O) O (G8 (hK21 (Gm O (fun hb=>?_) (fun hb=>?_))))))
 ·
  have hk19:=G5e hb
  obtain⟨nx19,hn19,h⟩:=G59 hi19 hk19
  replace h:=Hfc hb19 h
  refine Gn (hK20 (Js fun hK22=>Gp (G3 (G57 (OW 1010 4 Stowed.av s19) O (G57 (Ei i19) O ?_)))))
  obtain⟨r23,hr23,h⟩:=Ge h
  refine JLh (.agg (Stowed.cs r23)) (Gk O (G7b 1 (i19:Int) r23 hr23) Jdf ⟨O,O,O,O,G⟩) O (JLh (E2 [r23]) (Hd (xs:=[.agg (Stowed.cs r23)]) O ⟨O,O,G⟩ H0 G13 O O O O) O ?_)
  obtain⟨ha24,h⟩:=Hv h
  refine JLh (OW 1010 4 Stowed.av (s19++[r23])) (Qo (f:=Stowed.av) (xs:=s19) (ys:=[r23]) O O O O H0 H21 ha24 (fun _=>O) (.inl O) O) O (G57 (OW 1010 4 Stowed.av (s19++[r23])) O (G8 (hK22 (G3 (G57 (Ei i19) O (JLh (G0 ((i19+1:Nat):Int)) (Hu (Hc hk19 (G32 hx19)) O O O) O (G57 (G0 ((i19+1:Nat):Int)) O (G8 (e19 _ _ (i19+1) (s19++[r23]) (app1 hn19 h) (by omega) ⟨(.sm O O),⟨⟨_,rfl,.same⟩,G⟩,rfl⟩)))))))))
 ·
  have h:=app1 hkx19 (G5a hi19 (Yg hb))
  refine Hk (hK8 (Jr fun hK25=>(G57 (OW 1010 4 Stowed.av s19) O (G57 (E2 l) O (JLl H0 O O O fun hm23=>?_)))))
  obtain⟨m26,hm26,h⟩:=Ge h
  refine JLh (LT 4 Stowed.av (s19.take m26,s19.drop m26)) (Jae (f:=Stowed.av) (xs:=s19) O O O H0 (Z9 hm26)) O (G57 (LT 4 Stowed.av (s19.take m26,s19.drop m26)) O (G8 (hK25 (Gr (fin1 (fun r:(Ln Stowed)=>(LT 4 Stowed.av r:AV)) h)))))

def Ya (out:Ln Stowed) (l:List Stowed):Option Bool:=
 bif decide ((out.1.length:Int)≠(l.length:Int)) then
 (some false)
 else
 (G35 ((l.length:Int)+12) fun v6=>
  bnd (G5d v6 (out.1++out.2).length) fun m7=>
  each (fun y29 i29 (s29:Unit) nx29=>
   bnd (bif decide ((i29:Int) < (l.length:Int)) then Qr l (i29:Int) some else some default) fun y34=>
   bnd (bif ((!((decide ((i29:Int) < (l.length:Int)))&&(!(decide (y29=y34)))))&&(decide ((l.length:Int)≤(i29:Int)))) then G35 ((i29:Int) - (l.length:Int)) some else some 0) fun v35=>
   bnd (bif ((!((decide ((i29:Int) < (l.length:Int)))&&(!(decide (y29=y34)))))&&(decide ((l.length:Int)≤(i29:Int)))) then Qs 1 v35 else some default) fun r36=>
   bif (((decide ((i29:Int) < (l.length:Int)))&&(!(decide (y29=y34))))||((decide ((l.length:Int)≤(i29:Int)))&&(!(decide (y29=r36))))) then
   (some false)
   else
   (nx29 ()))
  (fun(s29:Unit)=>
   some true) ((out.1++out.2).take m7) 0 ())
theorem H06 (out:Ln Stowed) (l:List Stowed) (r:Bool) (h:Ya out l=some r):Pure Ej 19 [LT 4 Stowed.av out,E2 l] (·=BL r):=by
 unfold Ya at h
 refine Gx [.tmp 4] Tryz.func19 O O (Jr fun hK1=>(G57 (BL false) O (G8 (hK1 (Js fun hK2=>Jr fun hK3=>(G57 (LT 4 Stowed.av out) O (JLl H0 O O O fun hm8=>(G57 (E2 l) O (JLl H0 O O O fun hm10=>(JLh (BL (decide ((out.1.length:Int)≠(l.length:Int)))) (G30 O O O) O (G8 (hK3 (JCc O h (fun h hb=>?_) (fun h hb=>?_))))))))))))))
 ·
  refine Jr fun hK4=>(G57 (BL false) O (G8 (hK4 (Gr (fin1 BL h)))))
 ·
  refine Gn (hK2 (Jr fun hK5=>(G57 (LT 4 Stowed.av out) O (G57 (E2 l) O (JLl H0 O O O fun hm14=>?_)))))
  obtain⟨v6,hv6,h⟩:=Qj h
  refine JLh (G0 v6) (Hu hv6 O O O) O ?_
  obtain⟨m7,hm7,h⟩:=Ge h
  refine JLh (E2 ((out.1++out.2).take m7)) (H64 (f:=Stowed.av) (e:=out) O O O H0 (Z9 hm7)) O (G57 (E2 ((out.1++out.2).take m7)) O (G8 (hK5 (Js fun hK8=>Jr fun hK9=>(G57 (G0 0) O (G8 (hK9 (Gp ?_))))))))
  obtain⟨b29,kx29,hb29,hkx29,h⟩:=Hx h
  refine He (fun i29 (s29:Unit)=>each b29 kx29 (List.drop i29 ((out.1++out.2).take m7)) i29 s29=some r) (fun i29 s29=>[(1,E2 l),(5,E2 ((out.1++out.2).take m7)),(6,Ei i29)]) (fun i29 s29=>[]) (fun i29=>((out.1++out.2).take m7).length - i29) 0 () h ⟨(.sm O O),G,O⟩ ?_
  clear h
  intro i29 s29 hi29 K29 e29
  refine Js fun hK30=>Jr fun hK31=>(G57 (Ei i29) O (G57 (E2 ((out.1++out.2).take m7)) O (JLl H0 O O O fun hm19=>(JLh (BL (decide ((i29:Int) < (((out.1++out.2).take m7).length:Int)))) (J1 O O O) O (G8 (hK31 (Gm O (fun hb=>?_) (fun hb=>?_))))))))
  ·
   have hk29:=Jc hb
   obtain⟨y29,nx29,hy29,hn29,h⟩:=Hm hi29 hk29
   replace h:=Rn hb29 h
   refine Gn (hK30 (Js fun hK32=>Gp (Js fun hK33=>?_)))
   obtain⟨y34,hy34,h⟩:=Ge h
   obtain⟨v35,hv35,h⟩:=Ge h
   obtain⟨r36,hr36,h⟩:=Ge h
   refine JC_d0 Jg (by kernel_rfl) (Dq (Ei i29) (G5 O O) O (Dq (E2 l) (G5 O O) O (Dq (Ei l.length) (Qw (f:=Stowed.av) (xs:=l) H0 O O) O (Dq (BL (decide ((i29:Int) < (l.length:Int)))) (J1 O O O) O (Dq (BL (decide ((i29:Int) < (l.length:Int)))) (G5 O O) O (Do (E2 ((out.1++out.2).take m7)) [] O .sct G (fun hc=>G5 O O) O (Do (Ei i29) [] O .sct G (fun hc=>G5 O O) O (Do (Ec y29) [28,29] O .sct ⟨Ua,Ua,G⟩ (fun hc=>Gw (f:=Stowed.av) (xs:=((out.1++out.2).take m7)) (y:=y29) O O O H0 hy29 O) O (Do (.agg (Stowed.cs y29)) [30] O .sct ⟨Ua,G⟩ (fun hc=>Gj Z8 O O O) O (Do (E2 l) [] O .sct G (fun hc=>G5 O O) O (Do (Ei i29) [] O .sct G (fun hc=>G5 O O) O (Do (Ec y34) [32,33] O .sct ⟨Ua,Ua,G⟩ (fun hc=>(match Qa (Gy hc hy34) with | ⟨_,hm_,hy_⟩=>Gw (f:=Stowed.av) (xs:=l) (y:=y34) O O O H0 hy_ hm_)) O (Do (.agg (Stowed.cs y34)) [34] O .sct ⟨Ua,G⟩ (fun hc=>Gj Z8 O O O) O ?_)))))))))))))
   refine Do (BL (decide (y29=y34))) [31,35] O .sct ⟨Ua,Ua,G⟩ (fun hc=>Gd5 (vs:=[.int .i64 y29.Gg,.int .i64 y29.Slot.G4,.int .i64 y29.Slot.Tier,.int .u8 y29.Slot.Half]) (us:=[.int .i64 y34.Gg,.int .i64 y34.Slot.G4,.int .i64 y34.Slot.Tier,.int .u8 y34.Slot.Half]) 4 O (tq_73 y29 y34) J93 Q32 O O O) O (Do (BL (!(decide (y29=y34)))) [36] O .sct ⟨Ua,G⟩ (fun hc=>Qh (b:=decide (y29=y34)) O O) O (Dq (BL ((decide ((i29:Int) < (l.length:Int)))&&(!(decide (y29=y34))))) (J5 O O O O) O (Dq (BL ((decide ((i29:Int) < (l.length:Int)))&&(!(decide (y29=y34))))) (G5 O O) O (Do (Ei i29) [] O .scf G (fun hc=>G5 O O) O (Do (E2 l) [] O .scf G (fun hc=>G5 O O) O (Do (Ei l.length) [41] O .scf ⟨Ua,G⟩ (fun hc=>Qw (f:=Stowed.av) (xs:=l) H0 O O) O (Do (BL (decide ((l.length:Int)≤(i29:Int)))) [40,42] O .scf ⟨Ua,Ua,G⟩ (fun hc=>G31 O O O) O (Do (BL (decide ((l.length:Int)≤(i29:Int)))) [43] O .scf ⟨Ua,G⟩ (fun hc=>G5 O O) O (Do (E2 ((out.1++out.2).take m7)) [] O .optt G (fun hc=>G5 O O) O (Do (Ei i29) [] O .optt G (fun hc=>G5 O O) O (Do (Ec y29) [45,46] O .optt ⟨Ua,Ua,G⟩ (fun hc=>Gw (f:=Stowed.av) (xs:=((out.1++out.2).take m7)) (y:=y29) O O O H0 hy29 O) O (Do (.agg (Stowed.cs y29)) [47] O .optt ⟨Ua,G⟩ (fun hc=>Gj Z8 O O O) O (Do (Ei i29) [] O .optt G (fun hc=>G5 O O) O ?_)))))))))))))
   refine Do (E2 l) [] O .optt G (fun hc=>G5 O O) O (Do (Ei l.length) [50] O .optt ⟨Ua,G⟩ (fun hc=>Qw (f:=Stowed.av) (xs:=l) H0 O O) O (Do (G0 v35) [49,51] O .optt ⟨Ua,Ua,G⟩ (fun hc=>Gd4 (G25 (Gy hc hv35)) O O O) O (Do (.agg (Stowed.cs r36)) [52] O .optt ⟨Ua,G⟩ (fun hc=>Gk (args:=[G0 1,G0 v35]) O (G7b 1 v35 r36 (Gy hc hr36)) Jdf ⟨O,O,O,O,G⟩) O (Do (BL (decide (y29=r36))) [48,53] O .optt ⟨Ua,Ua,G⟩ (fun hc=>Gd5 (vs:=[.int .i64 y29.Gg,.int .i64 y29.Slot.G4,.int .i64 y29.Slot.Tier,.int .u8 y29.Slot.Half]) (us:=[.int .i64 r36.Gg,.int .i64 r36.Slot.G4,.int .i64 r36.Slot.Tier,.int .u8 r36.Slot.Half]) 4 O (tq_73 y29 r36) J93 Q32 O O O) O (Do (BL (!(decide (y29=r36)))) [54] O .optt ⟨Ua,G⟩ (fun hc=>Qh (b:=decide (y29=r36)) O O) O (Dg (.opt (!((decide ((i29:Int) < (l.length:Int)))&&(!(decide (y29=y34))))) (BL ((decide ((l.length:Int)≤(i29:Int)))&&(!(decide (y29=r36)))))) (Gi [(44,BL (decide ((l.length:Int)≤(i29:Int)))),(55,_)] O O O .scf ⟨.all id,.part,G⟩ (fun hc=>J5 O O O O) O) O (Dq (BL (((decide ((i29:Int) < (l.length:Int)))&&(!(decide (y29=y34))))||((decide ((l.length:Int)≤(i29:Int)))&&(!(decide (y29=r36)))))) (Yc O O O O) O (Dnil ?_))))))))
   refine hK33 (JCc O h (fun h hb=>?_) (fun h hb=>?_))
   ·
    refine Jr fun hK37=>(G57 (BL false) O (G8 (hK37 (Gr (fin1 BL h)))))
   ·
    refine Gn (hK32 (G3 (G57 (Ei i29) O (JLh (G0 ((i29+1:Nat):Int)) (Hu (Hc hk29 hm19) O O O) O (G57 (G0 ((i29+1:Nat):Int)) O (G8 (e29 _ _ (i29+1) () (app1 hn29 h) (by omega) ⟨(.sm O O),G,rfl⟩)))))))
  ·
   have h:=app1 hkx29 (Hn hi29 (H6 hb))
   refine Hk (hK8 (Jr fun hK38=>(G57 (BL true) O (G8 (hK38 (Gr (fin1 BL h)))))))
end
end Go.Proofs.YthcpolfodgjekaaGreat
