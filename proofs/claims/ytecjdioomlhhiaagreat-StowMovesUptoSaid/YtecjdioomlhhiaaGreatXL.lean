/-
 Models of functions of the program,and that they return what the models say.
-/
import Derived.Test.YtecjdioomlhhiaaGreatXLa
set_option maxRecDepth 100000
set_option maxHeartbeats 1000000
set_option linter.unusedVariables false
set_option linter.unusedSimpArgs false
namespace Go.Proofs.YtecjdioomlhhiaaGreat
open Go.RowKit
noncomputable section
open XAF
open XLF

def Rh (out:Ln H3) (l:List G9):Option Bool:=
 bif decide ((out.1.length:Int)≠(l.length:Int)) then
 (some false)
 else
 (chk ((l.length:Int)+12) fun v6=>
  bnd (G5e v6 (out.1++out.2).length) fun m7=>
  each (fun y33 i33 (s33:Unit) nx33=>
   bnd (bif decide ((i33:Int) < (l.length:Int)) then Qq l (i33:Int) some else some default) fun y38=>
   bnd (bif decide ((i33:Int) < (l.length:Int)) then Rt y33 y38 else some default) fun r39=>
   bnd (bif ((!((decide ((i33:Int) < (l.length:Int)))&&(!r39)))&&(decide ((l.length:Int)≤(i33:Int)))) then chk ((i33:Int) - (l.length:Int)) some else some 0) fun v40=>
   bnd (bif ((!((decide ((i33:Int) < (l.length:Int)))&&(!r39)))&&(decide ((l.length:Int)≤(i33:Int)))) then Qy 1 v40 else some default) fun r41=>
   bnd (bif ((!((decide ((i33:Int) < (l.length:Int)))&&(!r39)))&&(decide ((l.length:Int)≤(i33:Int)))) then Jv (G9.mk y33.Bay y33.Rows.1) r41 else some default) fun r42=>
   bif (((decide ((i33:Int) < (l.length:Int)))&&(!r39))||((decide ((l.length:Int)≤(i33:Int)))&&(!r42))) then
   (some false)
   else
   (nx33 ()))
  (fun(s33:Unit)=>
   some true) ((out.1++out.2).take m7) 0 ())
theorem H23 (out:Ln H3) (l:List G9) (r:Bool) (h:Rh out l=some r):Pure Ei 73 [LT 2 H3.av out,E4 l] (·=BL r):=by
 unfold Rh at h
 refine Gz [.tmp 4] Tryz.func73 O O (Jr fun hK1=>(JLm (BL false) O (G7 (hK1 (Js fun hK2=>Jr fun hK3=>(JLm (LT 2 H3.av out) O (JLl He O O O fun hm8=>(JLm (E4 l) O (JLl He O O O fun hm10=>(JLh (BL (decide ((out.1.length:Int)≠(l.length:Int)))) (G0e O O O) O (G7 (hK3 (JCc O h (fun h hb=>?_) (fun h hb=>?_))))))))))))))
 ·
  refine Jr fun hK4=>(JLm (BL false) O (G7 (hK4 (Gn (fin1 BL h)))))
 ·
  refine Gk (hK2 (Jr fun hK5=>(JLm (LT 2 H3.av out) O (JLm (E4 l) O (JLl He O O O fun hm14=>?_)))))
  obtain⟨v6,hv6,h⟩:=Q2 h
  refine JLh (I64 v6) (Hs hv6 O O O) O ?_
  obtain⟨m7,hm7,h⟩:=Gc h
  refine JLh (LS 2 H3.av ((out.1++out.2).take m7)) (H70 (f:=H3.av) (e:=out) O O O He (Rq hm7)) O (JLm (LS 2 H3.av ((out.1++out.2).take m7)) O (G7 (hK5 (Js fun hK8=>Jr fun hK9=>(JLm (I64 0) O (G7 (hK9 (Gq ?_))))))))
  obtain⟨b33,kx33,hb33,hkx33,h⟩:=J3 h
  refine Hd (fun i33 (s33:Unit)=>each b33 kx33 (List.drop i33 ((out.1++out.2).take m7)) i33 s33=some r) (fun i33 s33=>[(1,E4 l),(5,LS 2 H3.av ((out.1++out.2).take m7)),(6,Eh i33)]) (fun i33 s33=>[]) (fun i33=>((out.1++out.2).take m7).length - i33) 0 () h ⟨(.sm O O),G,O⟩ ?_
  clear h
  intro i33 s33 hi33 K33 e33
  refine Js fun hK34=>Jr fun hK35=>(JLm (Eh i33) O (JLm (LS 2 H3.av ((out.1++out.2).take m7)) O (JLl He O O O fun hm19=>(JLh (BL (decide ((i33:Int) < (((out.1++out.2).take m7).length:Int)))) (Hz O O O) O (G7 (hK35 (Gi O (fun hb=>?_) (fun hb=>?_))))))))
  ·
   have hk33:=Jj hb
   obtain⟨y33,nx33,hy33,hn33,h⟩:=Hu hi33 hk33
   replace h:=Z9 hb33 h
   refine Gk (hK34 (Js fun hK36=>Gq (Js fun hK37=>?_)))
   obtain⟨y38,hy38,h⟩:=Gc h
   obtain⟨r39,hr39,h⟩:=Gc h
   obtain⟨v40,hv40,h⟩:=Gc h
   obtain⟨r41,hr41,h⟩:=Gc h
   obtain⟨r42,hr42,h⟩:=Gc h
   refine JC_d0 J6 (by kernel_rfl) (Dq (Eh i33) (G4 O O) O (Dq (E4 l) (G4 O O) O (Dq (Eh l.length) (Qe (f:=G9.av) (xs:=l) He O O) O (Dq (BL (decide ((i33:Int) < (l.length:Int)))) (Hz O O O) O (Dq (BL (decide ((i33:Int) < (l.length:Int)))) (G4 O O) O (Do (LS 2 H3.av ((out.1++out.2).take m7)) [] O .sct G (fun hc=>G4 O O) O (Do (Eh i33) [] O .sct G (fun hc=>G4 O O) O (Do (.dptr [I64 y33.Bay,LT 1 I64 y33.Rows]) [28,29] O .sct ⟨Ua,Ua,G⟩ (fun hc=>Gw (f:=H3.av) (xs:=((out.1++out.2).take m7)) (y:=y33) O O O He hy33 O) O (Do (.agg [I64 y33.Bay,LT 1 I64 y33.Rows]) [30] O .sct ⟨Ua,G⟩ (fun hc=>Gh Yk O O O) O (Do (E4 l) [] O .sct G (fun hc=>G4 O O) O (Do (Eh i33) [] O .sct G (fun hc=>G4 O O) O (Do (.dptr [I64 y38.Bay,E1 y38.Rows]) [32,33] O .sct ⟨Ua,Ua,G⟩ (fun hc=>(match Jx (Gu hc hy38) with | ⟨_,hm_,hy_⟩=>Gw (f:=G9.av) (xs:=l) (y:=y38) O O O He hy_ hm_)) O (Do (.agg [I64 y38.Bay,E1 y38.Rows]) [34] O .sct ⟨Ua,G⟩ (fun hc=>Gh Yk O O O) O ?_)))))))))))))
   refine Do (BL r39) [31,35] O .sct ⟨Ua,Ua,G⟩ (fun hc=>Gm (args:=[.agg [I64 y33.Bay,LT 1 I64 y33.Rows],.agg [I64 y38.Bay,E1 y38.Rows]]) O (H46 y33 y38 r39 (Gu hc hr39)) Qaf ⟨O,O,O,O,G⟩) O (Do (BL (!r39)) [36] O .sct ⟨Ua,G⟩ (fun hc=>Q7 (b:=r39) O O) O (Dq (BL ((decide ((i33:Int) < (l.length:Int)))&&(!r39))) (Hy O O O O) O (Dq (BL ((decide ((i33:Int) < (l.length:Int)))&&(!r39))) (G4 O O) O (Do (Eh i33) [] O .scf G (fun hc=>G4 O O) O (Do (E4 l) [] O .scf G (fun hc=>G4 O O) O (Do (Eh l.length) [41] O .scf ⟨Ua,G⟩ (fun hc=>Qe (f:=G9.av) (xs:=l) He O O) O (Do (BL (decide ((l.length:Int)≤(i33:Int)))) [40,42] O .scf ⟨Ua,Ua,G⟩ (fun hc=>Zf O O O) O (Do (BL (decide ((l.length:Int)≤(i33:Int)))) [43] O .scf ⟨Ua,G⟩ (fun hc=>G4 O O) O (Do (LS 2 H3.av ((out.1++out.2).take m7)) [] O .optt G (fun hc=>G4 O O) O (Do (Eh i33) [] O .optt G (fun hc=>G4 O O) O (Do (.dptr [I64 y33.Bay,LT 1 I64 y33.Rows]) [45,46] O .optt ⟨Ua,Ua,G⟩ (fun hc=>Gw (f:=H3.av) (xs:=((out.1++out.2).take m7)) (y:=y33) O O O He hy33 O) O (Do (.agg [I64 y33.Bay,E1 y33.Rows.1]) [47] O .optt ⟨Ua,G⟩ (fun hc=>H1.cv (Cv.aggL (cs:=[I64 y33.Bay,LT 1 I64 y33.Rows]) ⟨.same,Cv.lst0 y33.Rows,G⟩) (Gh Yk O O O)) O (Do (Eh i33) [] O .optt G (fun hc=>G4 O O) O ?_)))))))))))))
   refine Do (E4 l) [] O .optt G (fun hc=>G4 O O) O (Do (Eh l.length) [50] O .optt ⟨Ua,G⟩ (fun hc=>Qe (f:=G9.av) (xs:=l) He O O) O (Do (I64 v40) [49,51] O .optt ⟨Ua,Ua,G⟩ (fun hc=>Gcc (Zo (Gu hc hv40)) O O O) O (Do (.agg [I64 r41.Bay,E1 r41.Rows]) [52] O .optt ⟨Ua,G⟩ (fun hc=>Gm (args:=[I64 1,I64 v40]) O (G87 1 v40 r41 (Gu hc hr41)) Jc8 ⟨O,O,O,O,G⟩) O (Do (BL r42) [48,53] O .optt ⟨Ua,Ua,G⟩ (fun hc=>Gm (args:=[.agg [I64 y33.Bay,E1 y33.Rows.1],.agg [I64 r41.Bay,E1 r41.Rows]]) O (G43 (G9.mk y33.Bay y33.Rows.1) r41 r42 (Gu hc hr42)) Hd5 ⟨O,O,O,O,G⟩) O (Do (BL (!r42)) [54] O .optt ⟨Ua,G⟩ (fun hc=>Q7 (b:=r42) O O) O (Dg (.opt (!((decide ((i33:Int) < (l.length:Int)))&&(!r39))) (BL ((decide ((l.length:Int)≤(i33:Int)))&&(!r42)))) (Ge [(44,BL (decide ((l.length:Int)≤(i33:Int)))),(55,_)] O O O .scf ⟨.all id,.part,G⟩ (fun hc=>Hy O O O O) O) O (Dq (BL (((decide ((i33:Int) < (l.length:Int)))&&(!r39))||((decide ((l.length:Int)≤(i33:Int)))&&(!r42)))) (Y4 O O O O) O (Dnil ?_))))))))
   refine hK37 (JCc O h (fun h hb=>?_) (fun h hb=>?_))
   ·
    refine Jr fun hK43=>(JLm (BL false) O (G7 (hK43 (Gn (fin1 BL h)))))
   ·
    refine Gk (hK36 (G2 (JLm (Eh i33) O (JLh (I64 ((i33+1:Nat):Int)) (Hs (Hf hk33 hm19) O O O) O (JLm (I64 ((i33+1:Nat):Int)) O (G7 (e33 _ _ (i33+1) () (app1 hn33 h) (by omega) ⟨(.sm O O),G,rfl⟩)))))))
  ·
   have h:=app1 hkx33 (Hv hi33 (Ha hb))
   refine Hn (hK8 (Jr fun hK44=>(JLm (BL true) O (G7 (hK44 (Gn (fin1 BL h)))))))

def Y8 (out:Ln Row) (l:List Row):Option Bool:=
 bif decide ((out.1.length:Int)≠(l.length:Int)) then
 (some false)
 else
 (chk ((l.length:Int)+12) fun v6=>
  bnd (G5e v6 (out.1++out.2).length) fun m7=>
  each (fun y29 i29 (s29:Unit) nx29=>
   bnd (bif decide ((i29:Int) < (l.length:Int)) then Qq l (i29:Int) some else some default) fun y34=>
   bnd (bif ((!((decide ((i29:Int) < (l.length:Int)))&&(!(decide (y29=y34)))))&&(decide ((l.length:Int)≤(i29:Int)))) then chk ((i29:Int) - (l.length:Int)) some else some 0) fun v35=>
   bnd (bif ((!((decide ((i29:Int) < (l.length:Int)))&&(!(decide (y29=y34)))))&&(decide ((l.length:Int)≤(i29:Int)))) then Rk 1 v35 else some default) fun r36=>
   bif (((decide ((i29:Int) < (l.length:Int)))&&(!(decide (y29=y34))))||((decide ((l.length:Int)≤(i29:Int)))&&(!(decide (y29=r36))))) then
   (some false)
   else
   (nx29 ()))
  (fun(s29:Unit)=>
   some true) ((out.1++out.2).take m7) 0 ())
theorem H57 (out:Ln Row) (l:List Row) (r:Bool) (h:Y8 out l=some r):Pure Ei 74 [LT 5 Row.av out,E7 l] (·=BL r):=by
 unfold Y8 at h
 refine Gz [.tmp 4] Tryz.func74 O O (Jr fun hK1=>(JLm (BL false) O (G7 (hK1 (Js fun hK2=>Jr fun hK3=>(JLm (LT 5 Row.av out) O (JLl Q9 O O O fun hm8=>(JLm (E7 l) O (JLl Q9 O O O fun hm10=>(JLh (BL (decide ((out.1.length:Int)≠(l.length:Int)))) (G0e O O O) O (G7 (hK3 (JCc O h (fun h hb=>?_) (fun h hb=>?_))))))))))))))
 ·
  refine Jr fun hK4=>(JLm (BL false) O (G7 (hK4 (Gn (fin1 BL h)))))
 ·
  refine Gk (hK2 (Jr fun hK5=>(JLm (LT 5 Row.av out) O (JLm (E7 l) O (JLl Q9 O O O fun hm14=>?_)))))
  obtain⟨v6,hv6,h⟩:=Q2 h
  refine JLh (I64 v6) (Hs hv6 O O O) O ?_
  obtain⟨m7,hm7,h⟩:=Gc h
  refine JLh (E7 ((out.1++out.2).take m7)) (H70 (f:=Row.av) (e:=out) O O O Q9 (Rq hm7)) O (JLm (E7 ((out.1++out.2).take m7)) O (G7 (hK5 (Js fun hK8=>Jr fun hK9=>(JLm (I64 0) O (G7 (hK9 (Gq ?_))))))))
  obtain⟨b29,kx29,hb29,hkx29,h⟩:=J3 h
  refine Hd (fun i29 (s29:Unit)=>each b29 kx29 (List.drop i29 ((out.1++out.2).take m7)) i29 s29=some r) (fun i29 s29=>[(1,E7 l),(5,E7 ((out.1++out.2).take m7)),(6,Eh i29)]) (fun i29 s29=>[]) (fun i29=>((out.1++out.2).take m7).length - i29) 0 () h ⟨(.sm O O),G,O⟩ ?_
  clear h
  intro i29 s29 hi29 K29 e29
  refine Js fun hK30=>Jr fun hK31=>(JLm (Eh i29) O (JLm (E7 ((out.1++out.2).take m7)) O (JLl Q9 O O O fun hm19=>(JLh (BL (decide ((i29:Int) < (((out.1++out.2).take m7).length:Int)))) (Hz O O O) O (G7 (hK31 (Gi O (fun hb=>?_) (fun hb=>?_))))))))
  ·
   have hk29:=Jj hb
   obtain⟨y29,nx29,hy29,hn29,h⟩:=Hu hi29 hk29
   replace h:=Z9 hb29 h
   refine Gk (hK30 (Js fun hK32=>Gq (Js fun hK33=>?_)))
   obtain⟨y34,hy34,h⟩:=Gc h
   obtain⟨v35,hv35,h⟩:=Gc h
   obtain⟨r36,hr36,h⟩:=Gc h
   refine JC_d0 J6 (by kernel_rfl) (Dq (Eh i29) (G4 O O) O (Dq (E7 l) (G4 O O) O (Dq (Eh l.length) (Qe (f:=Row.av) (xs:=l) Q9 O O) O (Dq (BL (decide ((i29:Int) < (l.length:Int)))) (Hz O O O) O (Dq (BL (decide ((i29:Int) < (l.length:Int)))) (G4 O O) O (Do (E7 ((out.1++out.2).take m7)) [] O .sct G (fun hc=>G4 O O) O (Do (Eh i29) [] O .sct G (fun hc=>G4 O O) O (Do (.dptr (Row.cs y29)) [28,29] O .sct ⟨Ua,Ua,G⟩ (fun hc=>Gw (f:=Row.av) (xs:=((out.1++out.2).take m7)) (y:=y29) O O O Q9 hy29 O) O (Do (.agg (Row.cs y29)) [30] O .sct ⟨Ua,G⟩ (fun hc=>Gh Gee O O O) O (Do (E7 l) [] O .sct G (fun hc=>G4 O O) O (Do (Eh i29) [] O .sct G (fun hc=>G4 O O) O (Do (.dptr (Row.cs y34)) [32,33] O .sct ⟨Ua,Ua,G⟩ (fun hc=>(match Jx (Gu hc hy34) with | ⟨_,hm_,hy_⟩=>Gw (f:=Row.av) (xs:=l) (y:=y34) O O O Q9 hy_ hm_)) O (Do (.agg (Row.cs y34)) [34] O .sct ⟨Ua,G⟩ (fun hc=>Gh Gee O O O) O ?_)))))))))))))
   refine Do (BL (decide (y29=y34))) [31,35] O .sct ⟨Ua,Ua,G⟩ (fun hc=>Ge1 (vs:=[.int .i64 y29.Draught,.int .i64 y29.Kilos,.int .i64 y29.Buoy,.int .i64 y29.Metacentre,.int .i64 y29.He7]) (us:=[.int .i64 y34.Draught,.int .i64 y34.Kilos,.int .i64 y34.Buoy,.int .i64 y34.Metacentre,.int .i64 y34.He7]) 4 O (R01 y29 y34) Ha9 J18 O O O) O (Do (BL (!(decide (y29=y34)))) [36] O .sct ⟨Ua,G⟩ (fun hc=>Q7 (b:=decide (y29=y34)) O O) O (Dq (BL ((decide ((i29:Int) < (l.length:Int)))&&(!(decide (y29=y34))))) (Hy O O O O) O (Dq (BL ((decide ((i29:Int) < (l.length:Int)))&&(!(decide (y29=y34))))) (G4 O O) O (Do (Eh i29) [] O .scf G (fun hc=>G4 O O) O (Do (E7 l) [] O .scf G (fun hc=>G4 O O) O (Do (Eh l.length) [41] O .scf ⟨Ua,G⟩ (fun hc=>Qe (f:=Row.av) (xs:=l) Q9 O O) O (Do (BL (decide ((l.length:Int)≤(i29:Int)))) [40,42] O .scf ⟨Ua,Ua,G⟩ (fun hc=>Zf O O O) O (Do (BL (decide ((l.length:Int)≤(i29:Int)))) [43] O .scf ⟨Ua,G⟩ (fun hc=>G4 O O) O (Do (E7 ((out.1++out.2).take m7)) [] O .optt G (fun hc=>G4 O O) O (Do (Eh i29) [] O .optt G (fun hc=>G4 O O) O (Do (.dptr (Row.cs y29)) [45,46] O .optt ⟨Ua,Ua,G⟩ (fun hc=>Gw (f:=Row.av) (xs:=((out.1++out.2).take m7)) (y:=y29) O O O Q9 hy29 O) O (Do (.agg (Row.cs y29)) [47] O .optt ⟨Ua,G⟩ (fun hc=>Gh Gee O O O) O (Do (Eh i29) [] O .optt G (fun hc=>G4 O O) O ?_)))))))))))))
   refine Do (E7 l) [] O .optt G (fun hc=>G4 O O) O (Do (Eh l.length) [50] O .optt ⟨Ua,G⟩ (fun hc=>Qe (f:=Row.av) (xs:=l) Q9 O O) O (Do (I64 v35) [49,51] O .optt ⟨Ua,Ua,G⟩ (fun hc=>Gcc (Zo (Gu hc hv35)) O O O) O (Do (.agg (Row.cs r36)) [52] O .optt ⟨Ua,G⟩ (fun hc=>Gm (args:=[I64 1,I64 v35]) O (Gad 1 v35 r36 (Gu hc hr36)) Jc7 ⟨O,O,O,O,G⟩) O (Do (BL (decide (y29=r36))) [48,53] O .optt ⟨Ua,Ua,G⟩ (fun hc=>Ge1 (vs:=[.int .i64 y29.Draught,.int .i64 y29.Kilos,.int .i64 y29.Buoy,.int .i64 y29.Metacentre,.int .i64 y29.He7]) (us:=[.int .i64 r36.Draught,.int .i64 r36.Kilos,.int .i64 r36.Buoy,.int .i64 r36.Metacentre,.int .i64 r36.He7]) 4 O (R01 y29 r36) Ha9 J18 O O O) O (Do (BL (!(decide (y29=r36)))) [54] O .optt ⟨Ua,G⟩ (fun hc=>Q7 (b:=decide (y29=r36)) O O) O (Dg (.opt (!((decide ((i29:Int) < (l.length:Int)))&&(!(decide (y29=y34))))) (BL ((decide ((l.length:Int)≤(i29:Int)))&&(!(decide (y29=r36)))))) (Ge [(44,BL (decide ((l.length:Int)≤(i29:Int)))),(55,_)] O O O .scf ⟨.all id,.part,G⟩ (fun hc=>Hy O O O O) O) O (Dq (BL (((decide ((i29:Int) < (l.length:Int)))&&(!(decide (y29=y34))))||((decide ((l.length:Int)≤(i29:Int)))&&(!(decide (y29=r36)))))) (Y4 O O O O) O (Dnil ?_))))))))
   refine hK33 (JCc O h (fun h hb=>?_) (fun h hb=>?_))
   ·
    refine Jr fun hK37=>(JLm (BL false) O (G7 (hK37 (Gn (fin1 BL h)))))
   ·
    refine Gk (hK32 (G2 (JLm (Eh i29) O (JLh (I64 ((i29+1:Nat):Int)) (Hs (Hf hk29 hm19) O O O) O (JLm (I64 ((i29+1:Nat):Int)) O (G7 (e29 _ _ (i29+1) () (app1 hn29 h) (by omega) ⟨(.sm O O),G,rfl⟩)))))))
  ·
   have h:=app1 hkx29 (Hv hi29 (Ha hb))
   refine Hn (hK8 (Jr fun hK38=>(JLm (BL true) O (G7 (hK38 (Gn (fin1 BL h)))))))

def Rg (out:Ln Frame) (l:List Frame):Option Bool:=
 bif decide ((out.1.length:Int)≠(l.length:Int)) then
 (some false)
 else
 (chk ((l.length:Int)+12) fun v6=>
  bnd (G5e v6 (out.1++out.2).length) fun m7=>
  each (fun y29 i29 (s29:Unit) nx29=>
   bnd (bif decide ((i29:Int) < (l.length:Int)) then Qq l (i29:Int) some else some default) fun y34=>
   bnd (bif ((!((decide ((i29:Int) < (l.length:Int)))&&(!(decide (y29=y34)))))&&(decide ((l.length:Int)≤(i29:Int)))) then chk ((i29:Int) - (l.length:Int)) some else some 0) fun v35=>
   bnd (bif ((!((decide ((i29:Int) < (l.length:Int)))&&(!(decide (y29=y34)))))&&(decide ((l.length:Int)≤(i29:Int)))) then Qx 1 v35 else some default) fun r36=>
   bif (((decide ((i29:Int) < (l.length:Int)))&&(!(decide (y29=y34))))||((decide ((l.length:Int)≤(i29:Int)))&&(!(decide (y29=r36))))) then
   (some false)
   else
   (nx29 ()))
  (fun(s29:Unit)=>
   some true) ((out.1++out.2).take m7) 0 ())
theorem H22 (out:Ln Frame) (l:List Frame) (r:Bool) (h:Rg out l=some r):Pure Ei 75 [LT 5 Frame.av out,E6 l] (·=BL r):=by
 unfold Rg at h
 refine Gz [.tmp 4] Tryz.func75 O O (Jr fun hK1=>(JLm (BL false) O (G7 (hK1 (Js fun hK2=>Jr fun hK3=>(JLm (LT 5 Frame.av out) O (JLl Q8 O O O fun hm8=>(JLm (E6 l) O (JLl Q8 O O O fun hm10=>(JLh (BL (decide ((out.1.length:Int)≠(l.length:Int)))) (G0e O O O) O (G7 (hK3 (JCc O h (fun h hb=>?_) (fun h hb=>?_))))))))))))))
 ·
  refine Jr fun hK4=>(JLm (BL false) O (G7 (hK4 (Gn (fin1 BL h)))))
 ·
  refine Gk (hK2 (Jr fun hK5=>(JLm (LT 5 Frame.av out) O (JLm (E6 l) O (JLl Q8 O O O fun hm14=>?_)))))
  obtain⟨v6,hv6,h⟩:=Q2 h
  refine JLh (I64 v6) (Hs hv6 O O O) O ?_
  obtain⟨m7,hm7,h⟩:=Gc h
  refine JLh (E6 ((out.1++out.2).take m7)) (H70 (f:=Frame.av) (e:=out) O O O Q8 (Rq hm7)) O (JLm (E6 ((out.1++out.2).take m7)) O (G7 (hK5 (Js fun hK8=>Jr fun hK9=>(JLm (I64 0) O (G7 (hK9 (Gq ?_))))))))
  obtain⟨b29,kx29,hb29,hkx29,h⟩:=J3 h
  refine Hd (fun i29 (s29:Unit)=>each b29 kx29 (List.drop i29 ((out.1++out.2).take m7)) i29 s29=some r) (fun i29 s29=>[(1,E6 l),(5,E6 ((out.1++out.2).take m7)),(6,Eh i29)]) (fun i29 s29=>[]) (fun i29=>((out.1++out.2).take m7).length - i29) 0 () h ⟨(.sm O O),G,O⟩ ?_
  clear h
  intro i29 s29 hi29 K29 e29
  refine Js fun hK30=>Jr fun hK31=>(JLm (Eh i29) O (JLm (E6 ((out.1++out.2).take m7)) O (JLl Q8 O O O fun hm19=>(JLh (BL (decide ((i29:Int) < (((out.1++out.2).take m7).length:Int)))) (Hz O O O) O (G7 (hK31 (Gi O (fun hb=>?_) (fun hb=>?_))))))))
  ·
   have hk29:=Jj hb
   obtain⟨y29,nx29,hy29,hn29,h⟩:=Hu hi29 hk29
   replace h:=Z9 hb29 h
   refine Gk (hK30 (Js fun hK32=>Gq (Js fun hK33=>?_)))
   obtain⟨y34,hy34,h⟩:=Gc h
   obtain⟨v35,hv35,h⟩:=Gc h
   obtain⟨r36,hr36,h⟩:=Gc h
   refine JC_d0 J6 (by kernel_rfl) (Dq (Eh i29) (G4 O O) O (Dq (E6 l) (G4 O O) O (Dq (Eh l.length) (Qe (f:=Frame.av) (xs:=l) Q8 O O) O (Dq (BL (decide ((i29:Int) < (l.length:Int)))) (Hz O O O) O (Dq (BL (decide ((i29:Int) < (l.length:Int)))) (G4 O O) O (Do (E6 ((out.1++out.2).take m7)) [] O .sct G (fun hc=>G4 O O) O (Do (Eh i29) [] O .sct G (fun hc=>G4 O O) O (Do (.dptr (Frame.cs y29)) [28,29] O .sct ⟨Ua,Ua,G⟩ (fun hc=>Gw (f:=Frame.av) (xs:=((out.1++out.2).take m7)) (y:=y29) O O O Q8 hy29 O) O (Do (.agg (Frame.cs y29)) [30] O .sct ⟨Ua,G⟩ (fun hc=>Gh Ged O O O) O (Do (E6 l) [] O .sct G (fun hc=>G4 O O) O (Do (Eh i29) [] O .sct G (fun hc=>G4 O O) O (Do (.dptr (Frame.cs y34)) [32,33] O .sct ⟨Ua,Ua,G⟩ (fun hc=>(match Jx (Gu hc hy34) with | ⟨_,hm_,hy_⟩=>Gw (f:=Frame.av) (xs:=l) (y:=y34) O O O Q8 hy_ hm_)) O (Do (.agg (Frame.cs y34)) [34] O .sct ⟨Ua,G⟩ (fun hc=>Gh Ged O O O) O ?_)))))))))))))
   refine Do (BL (decide (y29=y34))) [31,35] O .sct ⟨Ua,Ua,G⟩ (fun hc=>Ge1 (vs:=[.int .i64 y29.X,.int .i64 y29.Light,.int .i64 y29.Share,.int .i64 y29.Shear,.int .i64 y29.Bend]) (us:=[.int .i64 y34.X,.int .i64 y34.Light,.int .i64 y34.Share,.int .i64 y34.Shear,.int .i64 y34.Bend]) 4 O (R00 y29 y34) Ha8 J17 O O O) O (Do (BL (!(decide (y29=y34)))) [36] O .sct ⟨Ua,G⟩ (fun hc=>Q7 (b:=decide (y29=y34)) O O) O (Dq (BL ((decide ((i29:Int) < (l.length:Int)))&&(!(decide (y29=y34))))) (Hy O O O O) O (Dq (BL ((decide ((i29:Int) < (l.length:Int)))&&(!(decide (y29=y34))))) (G4 O O) O (Do (Eh i29) [] O .scf G (fun hc=>G4 O O) O (Do (E6 l) [] O .scf G (fun hc=>G4 O O) O (Do (Eh l.length) [41] O .scf ⟨Ua,G⟩ (fun hc=>Qe (f:=Frame.av) (xs:=l) Q8 O O) O (Do (BL (decide ((l.length:Int)≤(i29:Int)))) [40,42] O .scf ⟨Ua,Ua,G⟩ (fun hc=>Zf O O O) O (Do (BL (decide ((l.length:Int)≤(i29:Int)))) [43] O .scf ⟨Ua,G⟩ (fun hc=>G4 O O) O (Do (E6 ((out.1++out.2).take m7)) [] O .optt G (fun hc=>G4 O O) O (Do (Eh i29) [] O .optt G (fun hc=>G4 O O) O (Do (.dptr (Frame.cs y29)) [45,46] O .optt ⟨Ua,Ua,G⟩ (fun hc=>Gw (f:=Frame.av) (xs:=((out.1++out.2).take m7)) (y:=y29) O O O Q8 hy29 O) O (Do (.agg (Frame.cs y29)) [47] O .optt ⟨Ua,G⟩ (fun hc=>Gh Ged O O O) O (Do (Eh i29) [] O .optt G (fun hc=>G4 O O) O ?_)))))))))))))
   refine Do (E6 l) [] O .optt G (fun hc=>G4 O O) O (Do (Eh l.length) [50] O .optt ⟨Ua,G⟩ (fun hc=>Qe (f:=Frame.av) (xs:=l) Q8 O O) O (Do (I64 v35) [49,51] O .optt ⟨Ua,Ua,G⟩ (fun hc=>Gcc (Zo (Gu hc hv35)) O O O) O (Do (.agg (Frame.cs r36)) [52] O .optt ⟨Ua,G⟩ (fun hc=>Gm (args:=[I64 1,I64 v35]) O (G86 1 v35 r36 (Gu hc hr36)) Jc6 ⟨O,O,O,O,G⟩) O (Do (BL (decide (y29=r36))) [48,53] O .optt ⟨Ua,Ua,G⟩ (fun hc=>Ge1 (vs:=[.int .i64 y29.X,.int .i64 y29.Light,.int .i64 y29.Share,.int .i64 y29.Shear,.int .i64 y29.Bend]) (us:=[.int .i64 r36.X,.int .i64 r36.Light,.int .i64 r36.Share,.int .i64 r36.Shear,.int .i64 r36.Bend]) 4 O (R00 y29 r36) Ha8 J17 O O O) O (Do (BL (!(decide (y29=r36)))) [54] O .optt ⟨Ua,G⟩ (fun hc=>Q7 (b:=decide (y29=r36)) O O) O (Dg (.opt (!((decide ((i29:Int) < (l.length:Int)))&&(!(decide (y29=y34))))) (BL ((decide ((l.length:Int)≤(i29:Int)))&&(!(decide (y29=r36)))))) (Ge [(44,BL (decide ((l.length:Int)≤(i29:Int)))),(55,_)] O O O .scf ⟨.all id,.part,G⟩ (fun hc=>Hy O O O O) O) O (Dq (BL (((decide ((i29:Int) < (l.length:Int)))&&(!(decide (y29=y34))))||((decide ((l.length:Int)≤(i29:Int)))&&(!(decide (y29=r36)))))) (Y4 O O O O) O (Dnil ?_))))))))
   refine hK33 (JCc O h (fun h hb=>?_) (fun h hb=>?_))
   ·
    refine Jr fun hK37=>(JLm (BL false) O (G7 (hK37 (Gn (fin1 BL h)))))
   ·
    refine Gk (hK32 (G2 (JLm (Eh i29) O (JLh (I64 ((i29+1:Nat):Int)) (Hs (Hf hk29 hm19) O O O) O (JLm (I64 ((i29+1:Nat):Int)) O (G7 (e29 _ _ (i29+1) () (app1 hn29 h) (by omega) ⟨(.sm O O),G,rfl⟩)))))))
  ·
   have h:=app1 hkx29 (Hv hi29 (Ha hb))
   refine Hn (hK8 (Jr fun hK38=>(JLm (BL true) O (G7 (hK38 (Gn (fin1 BL h)))))))

def Y7 (x:H9) (y:Gg):Option Bool:=
 bnd (Jz (Gg.mk x.Kilos x.X x.Y x.Z x.Surface x.Steps.1) y) fun r3=>
 bnd (bif r3 then J7 x.Steps y.Steps else some default) fun r4=>
 some (r3&&r4)
theorem H55 (x:H9) (y:Gg) (r:Bool) (h:Y7 x y=some r):Pure Ei 126 [.agg (H9.cs x),.agg (Gg.cs y)] (·=BL r):=by
 unfold Y7 at h
 refine Gz [.tmp 4] Tryz.func126 O O (Jr fun hK1=>(JLh (.ptr 1137 0) (Je (cs:=[I64 x.Kilos,I64 x.X,I64 x.Y,I64 x.Z,I64 x.Surface,LT 1 I64 x.Steps]) 1137 O O O O O) O (JLh (.ptr 1138 0) (Je (cs:=[I64 y.Kilos,I64 y.X,I64 y.Y,I64 y.Z,I64 y.Surface,E1 y.Steps]) 1138 O O O O O) O (JLm (BL false) O (G7 (hK1 (Gx [(2,.dptr (H9.cs x)),(3,.ptr 1138 0)] [(1138,.box 129 [I64 y.Kilos,I64 y.X,I64 y.Y,I64 y.Z,I64 y.Surface,E1 y.Steps])] 1137 rfl rfl rfl ⟨⟨_,rfl,.boxEq rfl rfl⟩,G⟩ rfl (by exact⟨.ptr,.conv (.same rfl),G⟩) (Gx [(2,.dptr (H9.cs x)),(3,Eg y)] [] 1138 rfl rfl rfl G rfl (by exact⟨.conv (.same rfl),.ptr,G⟩) ?_))))))))
 refine Jr fun hK2=>(JLh (.agg [I64 x.Kilos,I64 x.X,I64 x.Y,I64 x.Z,I64 x.Surface,E1 x.Steps.1]) (H1.cv (Cv.aggL (cs:=(H9.cs x)) ⟨.same,.same,.same,.same,.same,Cv.lst0 x.Steps,G⟩) (Gh G2b O O O)) O (JLh (.agg (Gg.cs y)) (Gh G2b O O O) O ?_))
 obtain⟨r3,hr3,h⟩:=Gc h
 refine JLh (BL r3) (Gm O (G49 (Gg.mk x.Kilos x.X x.Y x.Z x.Surface x.Steps.1) y r3 hr3) Hd4 ⟨O,O,O,O,G⟩) O (JLm (BL r3) O (JLo (.dptr [LT 1 I64 x.Steps]) [] O .sct G (fun hc=>Ga G5c O O O) O (JLo (LT 1 I64 x.Steps) [9] O .sct ⟨Ua,G⟩ (fun hc=>Gf Hw O O O) O (JLo (.dptr [E1 y.Steps]) [] O .sct G (fun hc=>Ga G5c O O O) O (JLo (E1 y.Steps) [11] O .sct ⟨Ua,G⟩ (fun hc=>Gf Hw O O O) O ?_)))))
 obtain⟨r4,hr4,h⟩:=Gc h
 refine JLo (BL r4) [10,12] O .sct ⟨Ua,Ua,G⟩ (fun hc=>Gm (args:=[LT 1 I64 x.Steps,E1 y.Steps]) O (G10 x.Steps y.Steps r4 (Gu hc hr4)) Ha7 ⟨O,O,O,O,G⟩) O (JLh (BL (r3&&r4)) (Hy O O O O) O (JLm (BL (r3&&r4)) O (G7 (hK2 (Gn (fin1 BL h))))))

def Rs (out:Ln H9) (l:List Gg):Option Bool:=
 bif decide ((out.1.length:Int)≠(l.length:Int)) then
 (some false)
 else
 (chk ((l.length:Int)+12) fun v6=>
  bnd (G5e v6 (out.1++out.2).length) fun m7=>
  each (fun y33 i33 (s33:Unit) nx33=>
   bnd (bif decide ((i33:Int) < (l.length:Int)) then Qq l (i33:Int) some else some default) fun y38=>
   bnd (bif decide ((i33:Int) < (l.length:Int)) then Y7 y33 y38 else some default) fun r39=>
   bnd (bif ((!((decide ((i33:Int) < (l.length:Int)))&&(!r39)))&&(decide ((l.length:Int)≤(i33:Int)))) then chk ((i33:Int) - (l.length:Int)) some else some 0) fun v40=>
   bnd (bif ((!((decide ((i33:Int) < (l.length:Int)))&&(!r39)))&&(decide ((l.length:Int)≤(i33:Int)))) then R9 1 v40 else some default) fun r41=>
   bnd (bif ((!((decide ((i33:Int) < (l.length:Int)))&&(!r39)))&&(decide ((l.length:Int)≤(i33:Int)))) then Jz (Gg.mk y33.Kilos y33.X y33.Y y33.Z y33.Surface y33.Steps.1) r41 else some default) fun r42=>
   bif (((decide ((i33:Int) < (l.length:Int)))&&(!r39))||((decide ((l.length:Int)≤(i33:Int)))&&(!r42))) then
   (some false)
   else
   (nx33 ()))
  (fun(s33:Unit)=>
   some true) ((out.1++out.2).take m7) 0 ())
theorem H45 (out:Ln H9) (l:List Gg) (r:Bool) (h:Rs out l=some r):Pure Ei 76 [LT 6 H9.av out,E8 l] (·=BL r):=by
 unfold Rs at h
 refine Gz [.tmp 4] Tryz.func76 O O (Jr fun hK1=>(JLm (BL false) O (G7 (hK1 (Js fun hK2=>Jr fun hK3=>(JLm (LT 6 H9.av out) O (JLl Jt O O O fun hm8=>(JLm (E8 l) O (JLl Jt O O O fun hm10=>(JLh (BL (decide ((out.1.length:Int)≠(l.length:Int)))) (G0e O O O) O (G7 (hK3 (JCc O h (fun h hb=>?_) (fun h hb=>?_))))))))))))))
 ·
  refine Jr fun hK4=>(JLm (BL false) O (G7 (hK4 (Gn (fin1 BL h)))))
 ·
  refine Gk (hK2 (Jr fun hK5=>(JLm (LT 6 H9.av out) O (JLm (E8 l) O (JLl Jt O O O fun hm14=>?_)))))
  obtain⟨v6,hv6,h⟩:=Q2 h
  refine JLh (I64 v6) (Hs hv6 O O O) O ?_
  obtain⟨m7,hm7,h⟩:=Gc h
  refine JLh (LS 6 H9.av ((out.1++out.2).take m7)) (H70 (f:=H9.av) (e:=out) O O O Jt (Rq hm7)) O (JLm (LS 6 H9.av ((out.1++out.2).take m7)) O (G7 (hK5 (Js fun hK8=>Jr fun hK9=>(JLm (I64 0) O (G7 (hK9 (Gq ?_))))))))
  obtain⟨b33,kx33,hb33,hkx33,h⟩:=J3 h
  refine Hd (fun i33 (s33:Unit)=>each b33 kx33 (List.drop i33 ((out.1++out.2).take m7)) i33 s33=some r) (fun i33 s33=>[(1,E8 l),(5,LS 6 H9.av ((out.1++out.2).take m7)),(6,Eh i33)]) (fun i33 s33=>[]) (fun i33=>((out.1++out.2).take m7).length - i33) 0 () h ⟨(.sm O O),G,O⟩ ?_
  clear h
  intro i33 s33 hi33 K33 e33
  refine Js fun hK34=>Jr fun hK35=>(JLm (Eh i33) O (JLm (LS 6 H9.av ((out.1++out.2).take m7)) O (JLl Jt O O O fun hm19=>(JLh (BL (decide ((i33:Int) < (((out.1++out.2).take m7).length:Int)))) (Hz O O O) O (G7 (hK35 (Gi O (fun hb=>?_) (fun hb=>?_))))))))
  ·
   have hk33:=Jj hb
   obtain⟨y33,nx33,hy33,hn33,h⟩:=Hu hi33 hk33
   replace h:=Z9 hb33 h
   refine Gk (hK34 (Js fun hK36=>Gq (Js fun hK37=>?_)))
   obtain⟨y38,hy38,h⟩:=Gc h
   obtain⟨r39,hr39,h⟩:=Gc h
   obtain⟨v40,hv40,h⟩:=Gc h
   obtain⟨r41,hr41,h⟩:=Gc h
   obtain⟨r42,hr42,h⟩:=Gc h
   refine JC_d0 J6 (by kernel_rfl) (Dq (Eh i33) (G4 O O) O (Dq (E8 l) (G4 O O) O (Dq (Eh l.length) (Qe (f:=Gg.av) (xs:=l) Jt O O) O (Dq (BL (decide ((i33:Int) < (l.length:Int)))) (Hz O O O) O (Dq (BL (decide ((i33:Int) < (l.length:Int)))) (G4 O O) O (Do (LS 6 H9.av ((out.1++out.2).take m7)) [] O .sct G (fun hc=>G4 O O) O (Do (Eh i33) [] O .sct G (fun hc=>G4 O O) O (Do (.dptr (H9.cs y33)) [28,29] O .sct ⟨Ua,Ua,G⟩ (fun hc=>Gw (f:=H9.av) (xs:=((out.1++out.2).take m7)) (y:=y33) O O O Jt hy33 O) O (Do (.agg (H9.cs y33)) [30] O .sct ⟨Ua,G⟩ (fun hc=>Gh G2b O O O) O (Do (E8 l) [] O .sct G (fun hc=>G4 O O) O (Do (Eh i33) [] O .sct G (fun hc=>G4 O O) O (Do (Eg y38) [32,33] O .sct ⟨Ua,Ua,G⟩ (fun hc=>(match Jx (Gu hc hy38) with | ⟨_,hm_,hy_⟩=>Gw (f:=Gg.av) (xs:=l) (y:=y38) O O O Jt hy_ hm_)) O (Do (.agg (Gg.cs y38)) [34] O .sct ⟨Ua,G⟩ (fun hc=>Gh G2b O O O) O ?_)))))))))))))
   refine Do (BL r39) [31,35] O .sct ⟨Ua,Ua,G⟩ (fun hc=>Gm (args:=[.agg (H9.cs y33),.agg (Gg.cs y38)]) O (H55 y33 y38 r39 (Gu hc hr39)) Qae ⟨O,O,O,O,G⟩) O (Do (BL (!r39)) [36] O .sct ⟨Ua,G⟩ (fun hc=>Q7 (b:=r39) O O) O (Dq (BL ((decide ((i33:Int) < (l.length:Int)))&&(!r39))) (Hy O O O O) O (Dq (BL ((decide ((i33:Int) < (l.length:Int)))&&(!r39))) (G4 O O) O (Do (Eh i33) [] O .scf G (fun hc=>G4 O O) O (Do (E8 l) [] O .scf G (fun hc=>G4 O O) O (Do (Eh l.length) [41] O .scf ⟨Ua,G⟩ (fun hc=>Qe (f:=Gg.av) (xs:=l) Jt O O) O (Do (BL (decide ((l.length:Int)≤(i33:Int)))) [40,42] O .scf ⟨Ua,Ua,G⟩ (fun hc=>Zf O O O) O (Do (BL (decide ((l.length:Int)≤(i33:Int)))) [43] O .scf ⟨Ua,G⟩ (fun hc=>G4 O O) O (Do (LS 6 H9.av ((out.1++out.2).take m7)) [] O .optt G (fun hc=>G4 O O) O (Do (Eh i33) [] O .optt G (fun hc=>G4 O O) O (Do (.dptr (H9.cs y33)) [45,46] O .optt ⟨Ua,Ua,G⟩ (fun hc=>Gw (f:=H9.av) (xs:=((out.1++out.2).take m7)) (y:=y33) O O O Jt hy33 O) O (Do (.agg [I64 y33.Kilos,I64 y33.X,I64 y33.Y,I64 y33.Z,I64 y33.Surface,E1 y33.Steps.1]) [47] O .optt ⟨Ua,G⟩ (fun hc=>H1.cv (Cv.aggL (cs:=(H9.cs y33)) ⟨.same,.same,.same,.same,.same,Cv.lst0 y33.Steps,G⟩) (Gh G2b O O O)) O (Do (Eh i33) [] O .optt G (fun hc=>G4 O O) O ?_)))))))))))))
   refine Do (E8 l) [] O .optt G (fun hc=>G4 O O) O (Do (Eh l.length) [50] O .optt ⟨Ua,G⟩ (fun hc=>Qe (f:=Gg.av) (xs:=l) Jt O O) O (Do (I64 v40) [49,51] O .optt ⟨Ua,Ua,G⟩ (fun hc=>Gcc (Zo (Gu hc hv40)) O O O) O (Do (.agg (Gg.cs r41)) [52] O .optt ⟨Ua,G⟩ (fun hc=>Gm (args:=[I64 1,I64 v40]) O (G9f 1 v40 r41 (Gu hc hr41)) Jc5 ⟨O,O,O,O,G⟩) O (Do (BL r42) [48,53] O .optt ⟨Ua,Ua,G⟩ (fun hc=>Gm (args:=[.agg [I64 y33.Kilos,I64 y33.X,I64 y33.Y,I64 y33.Z,I64 y33.Surface,E1 y33.Steps.1],.agg (Gg.cs r41)]) O (G49 (Gg.mk y33.Kilos y33.X y33.Y y33.Z y33.Surface y33.Steps.1) r41 r42 (Gu hc hr42)) Hd4 ⟨O,O,O,O,G⟩) O (Do (BL (!r42)) [54] O .optt ⟨Ua,G⟩ (fun hc=>Q7 (b:=r42) O O) O (Dg (.opt (!((decide ((i33:Int) < (l.length:Int)))&&(!r39))) (BL ((decide ((l.length:Int)≤(i33:Int)))&&(!r42)))) (Ge [(44,BL (decide ((l.length:Int)≤(i33:Int)))),(55,_)] O O O .scf ⟨.all id,.part,G⟩ (fun hc=>Hy O O O O) O) O (Dq (BL (((decide ((i33:Int) < (l.length:Int)))&&(!r39))||((decide ((l.length:Int)≤(i33:Int)))&&(!r42)))) (Y4 O O O O) O (Dnil ?_))))))))
   refine hK37 (JCc O h (fun h hb=>?_) (fun h hb=>?_))
   ·
    refine Jr fun hK43=>(JLm (BL false) O (G7 (hK43 (Gn (fin1 BL h)))))
   ·
    refine Gk (hK36 (G2 (JLm (Eh i33) O (JLh (I64 ((i33+1:Nat):Int)) (Hs (Hf hk33 hm19) O O O) O (JLm (I64 ((i33+1:Nat):Int)) O (G7 (e33 _ _ (i33+1) () (app1 hn33 h) (by omega) ⟨(.sm O O),G,rfl⟩)))))))
  ·
   have h:=app1 hkx33 (Hv hi33 (Ha hb))
   refine Hn (hK8 (Jr fun hK44=>(JLm (BL true) O (G7 (hK44 (Gn (fin1 BL h)))))))

def Zw (x:Rv) (y:H0):Option Bool:=
 bnd (Zq (H0.mk (x.Columns.1.map Gv.pl) (x.Covers.1.map H3.pl) x.Light x.Rows.1 x.Frames.1 (x.Tanks.1.map H9.pl) x.G1) y) fun r3=>
 bnd (bif r3 then Rb x.Columns y.Columns else some default) fun r4=>
 bnd (bif (r3&&r4) then Rh x.Covers y.Covers else some default) fun r5=>
 bnd (bif ((r3&&r4)&&r5) then Y8 x.Rows y.Rows else some default) fun r6=>
 bnd (bif (((r3&&r4)&&r5)&&r6) then Rg x.Frames y.Frames else some default) fun r7=>
 bnd (bif ((((r3&&r4)&&r5)&&r6)&&r7) then Rs x.Tanks y.Tanks else some default) fun r8=>
 some (((((r3&&r4)&&r5)&&r6)&&r7)&&r8)
theorem H56 (x:Rv) (y:H0) (r:Bool) (h:Zw x y=some r):Pure Ei 20 [.agg (Rv.cs x),.agg (H0.cs y)] (·=BL r):=by
 unfold Zw at h
 refine Gz [.tmp 4] Tryz.func20 O O (Jr fun hK1=>(JLh (.ptr 1032 0) (Je (cs:=(Rv.cs x)) 1032 O O O O O) O (JLh (.ptr 1033 0) (Je (cs:=(H0.cs y)) 1033 O O O O O) O (JLm (BL false) O (G7 (hK1 ?_))))))
 refine Gx [(2,.dptr (Rv.cs x)),(3,.ptr 1033 0)] [(1033,.box 32 (H0.cs y))] 1032 rfl rfl rfl ⟨⟨_,rfl,.boxEq rfl rfl⟩,G⟩ rfl (by exact⟨.ptr,.conv (.same rfl),G⟩) (Gx [(2,.dptr (Rv.cs x)),(3,Eb y)] [] 1033 rfl rfl rfl G rfl (by exact⟨.conv (.same rfl),.ptr,G⟩) ?_)
 refine Jr fun hK2=>(JLh (.agg [E5 (x.Columns.1.map Gv.pl),E4 (x.Covers.1.map H3.pl),I64 x.Light.Kilos,I64 x.Light.X,I64 x.Light.Y,I64 x.Light.Z,E7 x.Rows.1,E6 x.Frames.1,E8 (x.Tanks.1.map H9.pl),I64 x.G1.Tolerance,I64 x.G1.Trim,I64 x.G1.List_,I64 x.G1.Stability]) (H1.cv (Cv.aggL (cs:=(Rv.cs x)) ⟨Cv.lstM (f:=Gv.av) (g:=G3.av) Gv.pl Gv.cvl x.Columns,Cv.lstM (f:=H3.av) (g:=G9.av) H3.pl H3.cvl x.Covers,.same,.same,.same,.same,Cv.lst0 x.Rows,Cv.lst0 x.Frames,Cv.lstM (f:=H9.av) (g:=Gg.av) H9.pl H9.cvl x.Tanks,.same,.same,.same,.same,G⟩) (Gh Hc O O O)) O (JLh (.agg (H0.cs y)) (Gh Hc O O O) O ?_))
 obtain⟨r3,hr3,h⟩:=Gc h
 refine JLh (BL r3) (Gm O (H4f (H0.mk (x.Columns.1.map Gv.pl) (x.Covers.1.map H3.pl) x.Light x.Rows.1 x.Frames.1 (x.Tanks.1.map H9.pl) x.G1) y r3 hr3) R19 ⟨O,O,O,O,G⟩) O (JLm (BL r3) O (JLo (.dptr (Rv.cs x)) [] O .sct G (fun hc=>Ga Hi O O O) O (JLo (LT 12 Gv.av x.Columns) [9] O .sct ⟨Ua,G⟩ (fun hc=>Gf Ht O O O) O (JLo (Eb y) [] O .sct G (fun hc=>Ga Hi O O O) O (JLo (E5 y.Columns) [11] O .sct ⟨Ua,G⟩ (fun hc=>Gf Ht O O O) O ?_)))))
 obtain⟨r4,hr4,h⟩:=Gc h
 refine JLo (BL r4) [10,12] O .sct ⟨Ua,Ua,G⟩ (fun hc=>Gm (args:=[LT 12 Gv.av x.Columns,E5 y.Columns]) O (H13 x.Columns y.Columns r4 (Gu hc hr4)) R18 ⟨O,O,O,O,G⟩) O (JLh (BL (r3&&r4)) (Hy O O O O) O (JLm (BL (r3&&r4)) O (JLo (.dptr ((Rv.cs x).drop 1)) [] O .sct G (fun hc=>Ga J0 O O O) O (JLo (LT 2 H3.av x.Covers) [16] O .sct ⟨Ua,G⟩ (fun hc=>Gf J8 O O O) O (JLo (.dptr ((H0.cs y).drop 1)) [] O .sct G (fun hc=>Ga J0 O O O) O (JLo (E4 y.Covers) [18] O .sct ⟨Ua,G⟩ (fun hc=>Gf J8 O O O) O ?_))))))
 obtain⟨r5,hr5,h⟩:=Gc h
 refine JLo (BL r5) [17,19] O .sct ⟨Ua,Ua,G⟩ (fun hc=>Gm (args:=[LT 2 H3.av x.Covers,E4 y.Covers]) O (H23 x.Covers y.Covers r5 (Gu hc hr5)) R17 ⟨O,O,O,O,G⟩) O (JLh (BL ((r3&&r4)&&r5)) (Hy O O O O) O (JLm (BL ((r3&&r4)&&r5)) O (JLo (.dptr ((Rv.cs x).drop 6)) [] O .sct G (fun hc=>Ga G71 O O O) O (JLo (LT 5 Row.av x.Rows) [23] O .sct ⟨Ua,G⟩ (fun hc=>Gf Gd4 O O O) O (JLo (.dptr ((H0.cs y).drop 6)) [] O .sct G (fun hc=>Ga G71 O O O) O (JLo (E7 y.Rows) [25] O .sct ⟨Ua,G⟩ (fun hc=>Gf Gd4 O O O) O ?_))))))
 obtain⟨r6,hr6,h⟩:=Gc h
 refine JLo (BL r6) [24,26] O .sct ⟨Ua,Ua,G⟩ (fun hc=>Gm (args:=[LT 5 Row.av x.Rows,E7 y.Rows]) O (H57 x.Rows y.Rows r6 (Gu hc hr6)) R16 ⟨O,O,O,O,G⟩) O (JLh (BL (((r3&&r4)&&r5)&&r6)) (Hy O O O O) O (JLm (BL (((r3&&r4)&&r5)&&r6)) O (JLo (.dptr ((Rv.cs x).drop 7)) [] O .sct G (fun hc=>Ga G70 O O O) O (JLo (LT 5 Frame.av x.Frames) [30] O .sct ⟨Ua,G⟩ (fun hc=>Gf Gd3 O O O) O (JLo (.dptr ((H0.cs y).drop 7)) [] O .sct G (fun hc=>Ga G70 O O O) O (JLo (E6 y.Frames) [32] O .sct ⟨Ua,G⟩ (fun hc=>Gf Gd3 O O O) O ?_))))))
 obtain⟨r7,hr7,h⟩:=Gc h
 refine JLo (BL r7) [31,33] O .sct ⟨Ua,Ua,G⟩ (fun hc=>Gm (args:=[LT 5 Frame.av x.Frames,E6 y.Frames]) O (H22 x.Frames y.Frames r7 (Gu hc hr7)) R15 ⟨O,O,O,O,G⟩) O (JLh (BL ((((r3&&r4)&&r5)&&r6)&&r7)) (Hy O O O O) O (JLm (BL ((((r3&&r4)&&r5)&&r6)&&r7)) O (JLo (.dptr ((Rv.cs x).drop 8)) [] O .sct G (fun hc=>Ga G6f O O O) O (JLo (LT 6 H9.av x.Tanks) [37] O .sct ⟨Ua,G⟩ (fun hc=>Gf Gd2 O O O) O (JLo (.dptr ((H0.cs y).drop 8)) [] O .sct G (fun hc=>Ga G6f O O O) O (JLo (E8 y.Tanks) [39] O .sct ⟨Ua,G⟩ (fun hc=>Gf Gd2 O O O) O ?_))))))
 obtain⟨r8,hr8,h⟩:=Gc h
 refine JLo (BL r8) [38,40] O .sct ⟨Ua,Ua,G⟩ (fun hc=>Gm (args:=[LT 6 H9.av x.Tanks,E8 y.Tanks]) O (H45 x.Tanks y.Tanks r8 (Gu hc hr8)) R14 ⟨O,O,O,O,G⟩) O (JLh (BL (((((r3&&r4)&&r5)&&r6)&&r7)&&r8)) (Hy O O O O) O (JLm (BL (((((r3&&r4)&&r5)&&r6)&&r7)&&r8)) O (G7 (hK2 (Gn (fin1 BL h))))))

def Rm (k:Int) (i:Int):Option Box:=
 bnd (Ja k i) fun r3=>
 some (Box.mk r3 ByteArray.empty 0 false 0 0 0 0 false)
theorem Gae (k:Int) (i:Int) (r:Box) (h:Rm k i=some r):Pure Ei 37 [I64 k,I64 i] (·=.agg (Box.cs r)):=by
 unfold Rm at h
 refine Gz [.cell 4 72] Tryz.func37 O O (Jr fun hK1=>(JLh (.ptr 1055 0) (G47 1055 [I64 0,ST ByteArray.empty,U8 0,BL false,I64 0,I64 0,I64 0,U8 0,BL false] [E0,.string ByteArray.empty,.int .u8 0,.bool false,E0,E0,E0,.int .u8 0,.bool false] G13 ⟨.inl O,.inl O,.inl O,.inl O,.inl O,.inl O,.inl O,.inl O,.inl O,G⟩ O O) O (G7 (hK1 (Jr fun hK2=>(JLm (I64 k) O (JLm (I64 i) O ?_)))))))
 obtain⟨r3,hr3,h⟩:=Gc h
 refine JLh (I64 r3) (Gm O (Q1 k i r3 hr3) G3f ⟨O,O,O,O,G⟩) O (JLh (.agg [I64 r3,ST ByteArray.empty,U8 0,BL false,I64 0,I64 0,I64 0,U8 0,BL false]) (Jp (cs:=[I64 r3,ST ByteArray.empty,U8 0,BL false,I64 0,I64 0,I64 0,U8 0,BL false]) [(0,1),(1,1),(2,1),(3,1),(4,1),(5,1),(6,1),(7,1),(8,1)] [I64 0,ST ByteArray.empty,U8 0,BL false,I64 0,I64 0,I64 0,U8 0,BL false] [E0,.string ByteArray.empty,.int .u8 0,.bool false,E0,E0,E0,.int .u8 0,.bool false] G16 G13 ⟨.inl O,.inl O,.inl O,.inl O,.inl O,.inl O,.inl O,.inl O,.inl O,G⟩ O O) O (Jo (u:=.junk) (Jh (u:=.agg [I64 r3,ST ByteArray.empty,U8 0,BL false,I64 0,I64 0,I64 0,U8 0,BL false]) (ds:=[I64 r3,ST ByteArray.empty,U8 0,BL false,I64 0,I64 0,I64 0,U8 0,BL false]) G29 O O O O O O O O) (G7 (hK2 ?_))))
 refine Gn (⟨[.agg [I64 r3,ST ByteArray.empty,U8 0,BL false,I64 0,I64 0,I64 0,U8 0,BL false]],[],G,O,⟨⟨_,⟨_,_,_,_,O,O,O,.inl ⟨G4b,O⟩⟩,.conv (.same O)⟩,G⟩,O,congrArg (fun r:Box=>(.agg (Box.cs r):AV)) (Option.some.inj h)⟩)

def Zd (l:List Box):Option (Ln Box):=
 chk ((l.length:Int)+12) fun v3=>
 bnd (H60 v3) fun m4=>
 need (decide (64*m4≤281474976710656∧m4≤maxLen)) <|
 need (decide ((([]:List Box).length+l.length)*64≤140737488355328∧([]:List Box).length+l.length≤maxLen)) <|
 need (decide (12≤9223372036854775807)) <|
 upto (fun i19 (s19:(List Box)) nx19=>
  bnd (Rm 1 (i19:Int)) fun r23=>
  need (decide ((s19.length+[r23].length)*64≤140737488355328∧s19.length+[r23].length≤maxLen)) <|
  nx19 (s19++[r23]))
 (fun(s19:(List Box))=>
  bnd (G5e (l.length:Int) s19.length) fun m26=>
  some (s19.take m26,s19.drop m26)) (12:Int).toNat 0 (([]:List Box)++l)
theorem H44 (l:List Box) (r:(Ln Box)) (h:Zd l=some r):Pure Ei 7 [E3 l] (·=LT 9 Box.av r):=by
 unfold Zd at h
 refine Gz [.tmp 2] Tryz.func7 O O (Jr fun hK1=>(JLh (E3 ([]:List Box)) (Hb 9 O O) O (G7 (hK1 (Jr fun hK2=>(JLm (E3 l) O (JLl Jq O O O fun hm6=>?_)))))))
 obtain⟨v3,hv3,h⟩:=Q2 h
 refine JLh (I64 v3) (Hs hv3 O O O) O ?_
 obtain⟨m4,hm4,h⟩:=Gc h
 obtain⟨ha5,h⟩:=Hr h
 refine JLh (OW 1010 9 Box.av ([]:List Box)) (Gcd 1010 O O O O Jq J19 O (G72 hm4) ha5) O (JLm (OW 1010 9 Box.av ([]:List Box)) O (G7 (hK2 (Jr fun hK6=>(JLm (OW 1010 9 Box.av ([]:List Box)) O (JLm (E3 l) O ?_))))))
 obtain⟨ha7,h⟩:=Hr h
 refine JLh (OW 1010 9 Box.av (([]:List Box)++l)) (Gf4 (f:=Box.av) (xs:=([]:List Box)) (ys:=l) O O O O Jq J19 ha7 (fun _=>O) (.inl O)) O (JLm (OW 1010 9 Box.av (([]:List Box)++l)) O (G7 (hK6 (Js fun hK8=>Jr fun hK9=>(JLm (I64 0) O (G7 (hK9 (Gq ?_))))))))
 obtain⟨hx19,h⟩:=Hr h
 obtain⟨b19,kx19,hb19,hkx19,h⟩:=G4d h
 refine Hd (fun i19 (s19:(List Box))=>upto b19 kx19 ((12:Int).toNat - i19) i19 s19=some r) (fun i19 s19=>[(0,E3 l),(3,OW 1010 9 Box.av s19),(4,Eh i19)]) (fun i19 s19=>[(1010,.spare 72 9 s19.length s19.length)]) (fun i19=>(12:Int).toNat - i19) 0 (([]:List Box)++l) h ⟨(.sm O O),⟨⟨_,O,.same⟩,G⟩,O⟩ ?_
 clear h
 intro i19 s19 hi19 K19 e19
 refine Js fun hK20=>Jr fun hK21=>(JLm (Eh i19) O (JLh (BL (decide ((i19:Int) < 12))) (Hz O O O) O (G7 (hK21 (Gi O (fun hb=>?_) (fun hb=>?_))))))
 ·
  have hk19:=G21 hb
  obtain⟨nx19,hn19,h⟩:=G1e hi19 hk19
  replace h:=Hba hb19 h
  refine Gk (hK20 (Js fun hK22=>Gq (G2 (JLm (OW 1010 9 Box.av s19) O (JLm (Eh i19) O ?_)))))
  obtain⟨r23,hr23,h⟩:=Gc h
  refine JLh (.agg (Box.cs r23)) (Gm O (Gae 1 (i19:Int) r23 hr23) Jdc ⟨O,O,O,O,G⟩) O (JLh (E3 [r23]) (Hj (xs:=[.agg (Box.cs r23)]) O ⟨O,O,G⟩ Jq G4e O O O O) O ?_)
  obtain⟨ha24,h⟩:=Hr h
  refine JLh (OW 1010 9 Box.av (s19++[r23])) (Qt (f:=Box.av) (xs:=s19) (ys:=[r23]) O O O O Jq J19 ha24 (fun _=>O) (.inl O) O) O (JLm (OW 1010 9 Box.av (s19++[r23])) O (G7 (hK22 (G2 (JLm (Eh i19) O (JLh (I64 ((i19+1:Nat):Int)) (Hs (Hf hk19 (Zj hx19)) O O O) O (JLm (I64 ((i19+1:Nat):Int)) O (G7 (e19 _ _ (i19+1) (s19++[r23]) (app1 hn19 h) (by omega) ⟨(.sm O O),⟨⟨_,rfl,.same⟩,G⟩,rfl⟩)))))))))
 ·
  have h:=app1 hkx19 (G1f hi19 (Qu hb))
  refine Hn (hK8 (Jr fun hK25=>(JLm (OW 1010 9 Box.av s19) O (JLm (E3 l) O (JLl Jq O O O fun hm23=>?_)))))
  obtain⟨m26,hm26,h⟩:=Gc h
  refine JLh (LT 9 Box.av (s19.take m26,s19.drop m26)) (Ja2 (f:=Box.av) (xs:=s19) O O O Jq (Rq hm26)) O (JLm (LT 9 Box.av (s19.take m26,s19.drop m26)) O (G7 (hK25 (Gn (fin1 (fun r:(Ln Box)=>(LT 9 Box.av r:AV)) h)))))

def Ze (out:Ln Box) (l:List Box):Option Bool:=
 bif decide ((out.1.length:Int)≠(l.length:Int)) then
 (some false)
 else
 (chk ((l.length:Int)+12) fun v6=>
  bnd (G5e v6 (out.1++out.2).length) fun m7=>
  each (fun y29 i29 (s29:Unit) nx29=>
   bnd (bif decide ((i29:Int) < (l.length:Int)) then Qq l (i29:Int) some else some default) fun y34=>
   bnd (bif ((!((decide ((i29:Int) < (l.length:Int)))&&(!(decide (y29=y34)))))&&(decide ((l.length:Int)≤(i29:Int)))) then chk ((i29:Int) - (l.length:Int)) some else some 0) fun v35=>
   bnd (bif ((!((decide ((i29:Int) < (l.length:Int)))&&(!(decide (y29=y34)))))&&(decide ((l.length:Int)≤(i29:Int)))) then Rm 1 v35 else some default) fun r36=>
   bif (((decide ((i29:Int) < (l.length:Int)))&&(!(decide (y29=y34))))||((decide ((l.length:Int)≤(i29:Int)))&&(!(decide (y29=r36))))) then
   (some false)
   else
   (nx29 ()))
  (fun(s29:Unit)=>
   some true) ((out.1++out.2).take m7) 0 ())
theorem H47 (out:Ln Box) (l:List Box) (r:Bool) (h:Ze out l=some r):Pure Ei 21 [LT 9 Box.av out,E3 l] (·=BL r):=by
 unfold Ze at h
 refine Gz [.tmp 4] Tryz.func21 O O (Jr fun hK1=>(JLm (BL false) O (G7 (hK1 (Js fun hK2=>Jr fun hK3=>(JLm (LT 9 Box.av out) O (JLl Jq O O O fun hm8=>(JLm (E3 l) O (JLl Jq O O O fun hm10=>(JLh (BL (decide ((out.1.length:Int)≠(l.length:Int)))) (G0e O O O) O (G7 (hK3 (JCc O h (fun h hb=>?_) (fun h hb=>?_))))))))))))))
 ·
  refine Jr fun hK4=>(JLm (BL false) O (G7 (hK4 (Gn (fin1 BL h)))))
 ·
  refine Gk (hK2 (Jr fun hK5=>(JLm (LT 9 Box.av out) O (JLm (E3 l) O (JLl Jq O O O fun hm14=>?_)))))
  obtain⟨v6,hv6,h⟩:=Q2 h
  refine JLh (I64 v6) (Hs hv6 O O O) O ?_
  obtain⟨m7,hm7,h⟩:=Gc h
  refine JLh (E3 ((out.1++out.2).take m7)) (H70 (f:=Box.av) (e:=out) O O O Jq (Rq hm7)) O (JLm (E3 ((out.1++out.2).take m7)) O (G7 (hK5 (Js fun hK8=>Jr fun hK9=>(JLm (I64 0) O (G7 (hK9 (Gq ?_))))))))
  obtain⟨b29,kx29,hb29,hkx29,h⟩:=J3 h
  refine Hd (fun i29 (s29:Unit)=>each b29 kx29 (List.drop i29 ((out.1++out.2).take m7)) i29 s29=some r) (fun i29 s29=>[(1,E3 l),(5,E3 ((out.1++out.2).take m7)),(6,Eh i29)]) (fun i29 s29=>[]) (fun i29=>((out.1++out.2).take m7).length - i29) 0 () h ⟨(.sm O O),G,O⟩ ?_
  clear h
  intro i29 s29 hi29 K29 e29
  refine Js fun hK30=>Jr fun hK31=>(JLm (Eh i29) O (JLm (E3 ((out.1++out.2).take m7)) O (JLl Jq O O O fun hm19=>(JLh (BL (decide ((i29:Int) < (((out.1++out.2).take m7).length:Int)))) (Hz O O O) O (G7 (hK31 (Gi O (fun hb=>?_) (fun hb=>?_))))))))
  ·
   have hk29:=Jj hb
   obtain⟨y29,nx29,hy29,hn29,h⟩:=Hu hi29 hk29
   replace h:=Z9 hb29 h
   refine Gk (hK30 (Js fun hK32=>Gq (Js fun hK33=>?_)))
   obtain⟨y34,hy34,h⟩:=Gc h
   obtain⟨v35,hv35,h⟩:=Gc h
   obtain⟨r36,hr36,h⟩:=Gc h
   refine JC_d0 J6 (by kernel_rfl) (Dq (Eh i29) (G4 O O) O (Dq (E3 l) (G4 O O) O (Dq (Eh l.length) (Qe (f:=Box.av) (xs:=l) Jq O O) O (Dq (BL (decide ((i29:Int) < (l.length:Int)))) (Hz O O O) O (Dq (BL (decide ((i29:Int) < (l.length:Int)))) (G4 O O) O (Do (E3 ((out.1++out.2).take m7)) [] O .sct G (fun hc=>G4 O O) O (Do (Eh i29) [] O .sct G (fun hc=>G4 O O) O (Do (Ee y29) [28,29] O .sct ⟨Ua,Ua,G⟩ (fun hc=>Gw (f:=Box.av) (xs:=((out.1++out.2).take m7)) (y:=y29) O O O Jq hy29 O) O (Do (.agg (Box.cs y29)) [30] O .sct ⟨Ua,G⟩ (fun hc=>Gh G4b O O O) O (Do (E3 l) [] O .sct G (fun hc=>G4 O O) O (Do (Eh i29) [] O .sct G (fun hc=>G4 O O) O (Do (Ee y34) [32,33] O .sct ⟨Ua,Ua,G⟩ (fun hc=>(match Jx (Gu hc hy34) with | ⟨_,hm_,hy_⟩=>Gw (f:=Box.av) (xs:=l) (y:=y34) O O O Jq hy_ hm_)) O (Do (.agg (Box.cs y34)) [34] O .sct ⟨Ua,G⟩ (fun hc=>Gh G4b O O O) O ?_)))))))))))))
   refine Do (BL (decide (y29=y34))) [31,35] O .sct ⟨Ua,Ua,G⟩ (fun hc=>Ge1 (vs:=[.int .i64 y29.ID,.string y29.Number,.int .u8 y29.Size,.bool y29.High,.int .i64 y29.Kilos,.int .i64 y29.Load,.int .i64 y29.Discharge,.int .u8 y29.Class,.bool y29.Reefer]) (us:=[.int .i64 y34.ID,.string y34.Number,.int .u8 y34.Size,.bool y34.High,.int .i64 y34.Kilos,.int .i64 y34.Load,.int .i64 y34.Discharge,.int .u8 y34.Class,.bool y34.Reefer]) 4 O (Y1c y29 y34) J84 Q3f O O O) O (Do (BL (!(decide (y29=y34)))) [36] O .sct ⟨Ua,G⟩ (fun hc=>Q7 (b:=decide (y29=y34)) O O) O (Dq (BL ((decide ((i29:Int) < (l.length:Int)))&&(!(decide (y29=y34))))) (Hy O O O O) O (Dq (BL ((decide ((i29:Int) < (l.length:Int)))&&(!(decide (y29=y34))))) (G4 O O) O (Do (Eh i29) [] O .scf G (fun hc=>G4 O O) O (Do (E3 l) [] O .scf G (fun hc=>G4 O O) O (Do (Eh l.length) [41] O .scf ⟨Ua,G⟩ (fun hc=>Qe (f:=Box.av) (xs:=l) Jq O O) O (Do (BL (decide ((l.length:Int)≤(i29:Int)))) [40,42] O .scf ⟨Ua,Ua,G⟩ (fun hc=>Zf O O O) O (Do (BL (decide ((l.length:Int)≤(i29:Int)))) [43] O .scf ⟨Ua,G⟩ (fun hc=>G4 O O) O (Do (E3 ((out.1++out.2).take m7)) [] O .optt G (fun hc=>G4 O O) O (Do (Eh i29) [] O .optt G (fun hc=>G4 O O) O (Do (Ee y29) [45,46] O .optt ⟨Ua,Ua,G⟩ (fun hc=>Gw (f:=Box.av) (xs:=((out.1++out.2).take m7)) (y:=y29) O O O Jq hy29 O) O (Do (.agg (Box.cs y29)) [47] O .optt ⟨Ua,G⟩ (fun hc=>Gh G4b O O O) O (Do (Eh i29) [] O .optt G (fun hc=>G4 O O) O ?_)))))))))))))
   refine Do (E3 l) [] O .optt G (fun hc=>G4 O O) O (Do (Eh l.length) [50] O .optt ⟨Ua,G⟩ (fun hc=>Qe (f:=Box.av) (xs:=l) Jq O O) O (Do (I64 v35) [49,51] O .optt ⟨Ua,Ua,G⟩ (fun hc=>Gcc (Zo (Gu hc hv35)) O O O) O (Do (.agg (Box.cs r36)) [52] O .optt ⟨Ua,G⟩ (fun hc=>Gm (args:=[I64 1,I64 v35]) O (Gae 1 v35 r36 (Gu hc hr36)) Jdc ⟨O,O,O,O,G⟩) O (Do (BL (decide (y29=r36))) [48,53] O .optt ⟨Ua,Ua,G⟩ (fun hc=>Ge1 (vs:=[.int .i64 y29.ID,.string y29.Number,.int .u8 y29.Size,.bool y29.High,.int .i64 y29.Kilos,.int .i64 y29.Load,.int .i64 y29.Discharge,.int .u8 y29.Class,.bool y29.Reefer]) (us:=[.int .i64 r36.ID,.string r36.Number,.int .u8 r36.Size,.bool r36.High,.int .i64 r36.Kilos,.int .i64 r36.Load,.int .i64 r36.Discharge,.int .u8 r36.Class,.bool r36.Reefer]) 4 O (Y1c y29 r36) J84 Q3f O O O) O (Do (BL (!(decide (y29=r36)))) [54] O .optt ⟨Ua,G⟩ (fun hc=>Q7 (b:=decide (y29=r36)) O O) O (Dg (.opt (!((decide ((i29:Int) < (l.length:Int)))&&(!(decide (y29=y34))))) (BL ((decide ((l.length:Int)≤(i29:Int)))&&(!(decide (y29=r36)))))) (Ge [(44,BL (decide ((l.length:Int)≤(i29:Int)))),(55,_)] O O O .scf ⟨.all id,.part,G⟩ (fun hc=>Hy O O O O) O) O (Dq (BL (((decide ((i29:Int) < (l.length:Int)))&&(!(decide (y29=y34))))||((decide ((l.length:Int)≤(i29:Int)))&&(!(decide (y29=r36)))))) (Y4 O O O O) O (Dnil ?_))))))))
   refine hK33 (JCc O h (fun h hb=>?_) (fun h hb=>?_))
   ·
    refine Jr fun hK37=>(JLm (BL false) O (G7 (hK37 (Gn (fin1 BL h)))))
   ·
    refine Gk (hK32 (G2 (JLm (Eh i29) O (JLh (I64 ((i29+1:Nat):Int)) (Hs (Hf hk29 hm19) O O O) O (JLm (I64 ((i29+1:Nat):Int)) O (G7 (e29 _ _ (i29+1) () (app1 hn29 h) (by omega) ⟨(.sm O O),G,rfl⟩)))))))
  ·
   have h:=app1 hkx29 (Hv hi29 (Ha hb))
   refine Hn (hK8 (Jr fun hK38=>(JLm (BL true) O (G7 (hK38 (Gn (fin1 BL h)))))))

def Jk (k:Int) (i:Int):Option Stowed:=
 bnd (Ja k i) fun r3=>
 some (Stowed.mk r3 (Slot.mk 0 0 0))
theorem Zz (k:Int) (i:Int) (r:Stowed) (h:Jk k i=some r):Pure Ei 38 [I64 k,I64 i] (·=.agg (Stowed.cs r)):=by
 unfold Jk at h
 refine Gz [.cell 4 39] Tryz.func38 O O (Jr fun hK1=>(JLh (.ptr 1056 0) (G47 1056 [I64 0,I64 0,I64 0,U8 0] [E0,E0,E0,.int .u8 0] H9f ⟨.inl O,.inl O,.inl O,.inl O,G⟩ O O) O (G7 (hK1 (Jr fun hK2=>(JLm (I64 k) O (JLm (I64 i) O ?_)))))))
 obtain⟨r3,hr3,h⟩:=Gc h
 refine JLh (I64 r3) (Gm O (Q1 k i r3 hr3) G3f ⟨O,O,O,O,G⟩) O (JLh (.agg [I64 r3,I64 0,I64 0,U8 0]) (Jp (cs:=[I64 r3,I64 0,I64 0,U8 0]) [(0,1),(1,3)] [I64 0,I64 0,I64 0,U8 0] [E0,E0,E0,.int .u8 0] J3a H9f ⟨.inl O,.inl O,.inl O,.inl O,G⟩ O O) O (Jo (u:=.junk) (Jh (u:=.agg [I64 r3,I64 0,I64 0,U8 0]) (ds:=[I64 r3,I64 0,I64 0,U8 0]) G7f O O O O O O O O) (G7 (hK2 (Gn (⟨[.agg [I64 r3,I64 0,I64 0,U8 0]],[],G,O,⟨⟨_,⟨_,_,_,_,O,O,O,.inl ⟨R6,O⟩⟩,.conv (.same O)⟩,G⟩,O,congrArg (fun r:Stowed=>(.agg (Stowed.cs r):AV)) (Option.some.inj h)⟩))))))

def Qn (l:List Stowed):Option (Ln Stowed):=
 chk ((l.length:Int)+12) fun v3=>
 bnd (H60 v3) fun m4=>
 need (decide (32*m4≤281474976710656∧m4≤maxLen)) <|
 need (decide ((([]:List Stowed).length+l.length)*32≤140737488355328∧([]:List Stowed).length+l.length≤maxLen)) <|
 need (decide (12≤9223372036854775807)) <|
 upto (fun i19 (s19:(List Stowed)) nx19=>
  bnd (Jk 1 (i19:Int)) fun r23=>
  need (decide ((s19.length+[r23].length)*32≤140737488355328∧s19.length+[r23].length≤maxLen)) <|
  nx19 (s19++[r23]))
 (fun(s19:(List Stowed))=>
  bnd (G5e (l.length:Int) s19.length) fun m26=>
  some (s19.take m26,s19.drop m26)) (12:Int).toNat 0 (([]:List Stowed)++l)
def Yh (out:Ln Stowed) (l:List Stowed):Option Bool:=
 bif decide ((out.1.length:Int)≠(l.length:Int)) then
 (some false)
 else
 (chk ((l.length:Int)+12) fun v6=>
  bnd (G5e v6 (out.1++out.2).length) fun m7=>
  each (fun y29 i29 (s29:Unit) nx29=>
   bnd (bif decide ((i29:Int) < (l.length:Int)) then Qq l (i29:Int) some else some default) fun y34=>
   bnd (bif ((!((decide ((i29:Int) < (l.length:Int)))&&(!(decide (y29=y34)))))&&(decide ((l.length:Int)≤(i29:Int)))) then chk ((i29:Int) - (l.length:Int)) some else some 0) fun v35=>
   bnd (bif ((!((decide ((i29:Int) < (l.length:Int)))&&(!(decide (y29=y34)))))&&(decide ((l.length:Int)≤(i29:Int)))) then Jk 1 v35 else some default) fun r36=>
   bif (((decide ((i29:Int) < (l.length:Int)))&&(!(decide (y29=y34))))||((decide ((l.length:Int)≤(i29:Int)))&&(!(decide (y29=r36))))) then
   (some false)
   else
   (nx29 ()))
  (fun(s29:Unit)=>
   some true) ((out.1++out.2).take m7) 0 ())
theorem H12 (out:Ln Stowed) (l:List Stowed) (r:Bool) (h:Yh out l=some r):Pure Ei 22 [LT 4 Stowed.av out,E2 l] (·=BL r):=by
 unfold Yh at h
 refine Gz [.tmp 4] Tryz.func22 O O (Jr fun hK1=>(JLm (BL false) O (G7 (hK1 (Js fun hK2=>Jr fun hK3=>(JLm (LT 4 Stowed.av out) O (JLl Gt O O O fun hm8=>(JLm (E2 l) O (JLl Gt O O O fun hm10=>(JLh (BL (decide ((out.1.length:Int)≠(l.length:Int)))) (G0e O O O) O (G7 (hK3 (JCc O h (fun h hb=>?_) (fun h hb=>?_))))))))))))))
 ·
  refine Jr fun hK4=>(JLm (BL false) O (G7 (hK4 (Gn (fin1 BL h)))))
 ·
  refine Gk (hK2 (Jr fun hK5=>(JLm (LT 4 Stowed.av out) O (JLm (E2 l) O (JLl Gt O O O fun hm14=>?_)))))
  obtain⟨v6,hv6,h⟩:=Q2 h
  refine JLh (I64 v6) (Hs hv6 O O O) O ?_
  obtain⟨m7,hm7,h⟩:=Gc h
  refine JLh (E2 ((out.1++out.2).take m7)) (H70 (f:=Stowed.av) (e:=out) O O O Gt (Rq hm7)) O (JLm (E2 ((out.1++out.2).take m7)) O (G7 (hK5 (Js fun hK8=>Jr fun hK9=>(JLm (I64 0) O (G7 (hK9 (Gq ?_))))))))
  obtain⟨b29,kx29,hb29,hkx29,h⟩:=J3 h
  refine Hd (fun i29 (s29:Unit)=>each b29 kx29 (List.drop i29 ((out.1++out.2).take m7)) i29 s29=some r) (fun i29 s29=>[(1,E2 l),(5,E2 ((out.1++out.2).take m7)),(6,Eh i29)]) (fun i29 s29=>[]) (fun i29=>((out.1++out.2).take m7).length - i29) 0 () h ⟨(.sm O O),G,O⟩ ?_
  clear h
  intro i29 s29 hi29 K29 e29
  refine Js fun hK30=>Jr fun hK31=>(JLm (Eh i29) O (JLm (E2 ((out.1++out.2).take m7)) O (JLl Gt O O O fun hm19=>(JLh (BL (decide ((i29:Int) < (((out.1++out.2).take m7).length:Int)))) (Hz O O O) O (G7 (hK31 (Gi O (fun hb=>?_) (fun hb=>?_))))))))
  ·
   have hk29:=Jj hb
   obtain⟨y29,nx29,hy29,hn29,h⟩:=Hu hi29 hk29
   replace h:=Z9 hb29 h
   refine Gk (hK30 (Js fun hK32=>Gq (Js fun hK33=>?_)))
   obtain⟨y34,hy34,h⟩:=Gc h
   obtain⟨v35,hv35,h⟩:=Gc h
   obtain⟨r36,hr36,h⟩:=Gc h
   refine JC_d0 J6 (by kernel_rfl) (Dq (Eh i29) (G4 O O) O (Dq (E2 l) (G4 O O) O (Dq (Eh l.length) (Qe (f:=Stowed.av) (xs:=l) Gt O O) O (Dq (BL (decide ((i29:Int) < (l.length:Int)))) (Hz O O O) O (Dq (BL (decide ((i29:Int) < (l.length:Int)))) (G4 O O) O (Do (E2 ((out.1++out.2).take m7)) [] O .sct G (fun hc=>G4 O O) O (Do (Eh i29) [] O .sct G (fun hc=>G4 O O) O (Do (Ec y29) [28,29] O .sct ⟨Ua,Ua,G⟩ (fun hc=>Gw (f:=Stowed.av) (xs:=((out.1++out.2).take m7)) (y:=y29) O O O Gt hy29 O) O (Do (.agg (Stowed.cs y29)) [30] O .sct ⟨Ua,G⟩ (fun hc=>Gh R6 O O O) O (Do (E2 l) [] O .sct G (fun hc=>G4 O O) O (Do (Eh i29) [] O .sct G (fun hc=>G4 O O) O (Do (Ec y34) [32,33] O .sct ⟨Ua,Ua,G⟩ (fun hc=>(match Jx (Gu hc hy34) with | ⟨_,hm_,hy_⟩=>Gw (f:=Stowed.av) (xs:=l) (y:=y34) O O O Gt hy_ hm_)) O (Do (.agg (Stowed.cs y34)) [34] O .sct ⟨Ua,G⟩ (fun hc=>Gh R6 O O O) O ?_)))))))))))))
   refine Do (BL (decide (y29=y34))) [31,35] O .sct ⟨Ua,Ua,G⟩ (fun hc=>Ge1 (vs:=[.int .i64 y29.Box,.int .i64 y29.Slot.G3,.int .i64 y29.Slot.Tier,.int .u8 y29.Slot.Half]) (us:=[.int .i64 y34.Box,.int .i64 y34.Slot.G3,.int .i64 y34.Slot.Tier,.int .u8 y34.Slot.Half]) 4 O (Rc0 y29 y34) Hd7 J5e O O O) O (Do (BL (!(decide (y29=y34)))) [36] O .sct ⟨Ua,G⟩ (fun hc=>Q7 (b:=decide (y29=y34)) O O) O (Dq (BL ((decide ((i29:Int) < (l.length:Int)))&&(!(decide (y29=y34))))) (Hy O O O O) O (Dq (BL ((decide ((i29:Int) < (l.length:Int)))&&(!(decide (y29=y34))))) (G4 O O) O (Do (Eh i29) [] O .scf G (fun hc=>G4 O O) O (Do (E2 l) [] O .scf G (fun hc=>G4 O O) O (Do (Eh l.length) [41] O .scf ⟨Ua,G⟩ (fun hc=>Qe (f:=Stowed.av) (xs:=l) Gt O O) O (Do (BL (decide ((l.length:Int)≤(i29:Int)))) [40,42] O .scf ⟨Ua,Ua,G⟩ (fun hc=>Zf O O O) O (Do (BL (decide ((l.length:Int)≤(i29:Int)))) [43] O .scf ⟨Ua,G⟩ (fun hc=>G4 O O) O (Do (E2 ((out.1++out.2).take m7)) [] O .optt G (fun hc=>G4 O O) O (Do (Eh i29) [] O .optt G (fun hc=>G4 O O) O (Do (Ec y29) [45,46] O .optt ⟨Ua,Ua,G⟩ (fun hc=>Gw (f:=Stowed.av) (xs:=((out.1++out.2).take m7)) (y:=y29) O O O Gt hy29 O) O (Do (.agg (Stowed.cs y29)) [47] O .optt ⟨Ua,G⟩ (fun hc=>Gh R6 O O O) O (Do (Eh i29) [] O .optt G (fun hc=>G4 O O) O ?_)))))))))))))
   refine Do (E2 l) [] O .optt G (fun hc=>G4 O O) O (Do (Eh l.length) [50] O .optt ⟨Ua,G⟩ (fun hc=>Qe (f:=Stowed.av) (xs:=l) Gt O O) O (Do (I64 v35) [49,51] O .optt ⟨Ua,Ua,G⟩ (fun hc=>Gcc (Zo (Gu hc hv35)) O O O) O (Do (.agg (Stowed.cs r36)) [52] O .optt ⟨Ua,G⟩ (fun hc=>Gm (args:=[I64 1,I64 v35]) O (Zz 1 v35 r36 (Gu hc hr36)) Ha6 ⟨O,O,O,O,G⟩) O (Do (BL (decide (y29=r36))) [48,53] O .optt ⟨Ua,Ua,G⟩ (fun hc=>Ge1 (vs:=[.int .i64 y29.Box,.int .i64 y29.Slot.G3,.int .i64 y29.Slot.Tier,.int .u8 y29.Slot.Half]) (us:=[.int .i64 r36.Box,.int .i64 r36.Slot.G3,.int .i64 r36.Slot.Tier,.int .u8 r36.Slot.Half]) 4 O (Rc0 y29 r36) Hd7 J5e O O O) O (Do (BL (!(decide (y29=r36)))) [54] O .optt ⟨Ua,G⟩ (fun hc=>Q7 (b:=decide (y29=r36)) O O) O (Dg (.opt (!((decide ((i29:Int) < (l.length:Int)))&&(!(decide (y29=y34))))) (BL ((decide ((l.length:Int)≤(i29:Int)))&&(!(decide (y29=r36)))))) (Ge [(44,BL (decide ((l.length:Int)≤(i29:Int)))),(55,_)] O O O .scf ⟨.all id,.part,G⟩ (fun hc=>Hy O O O O) O) O (Dq (BL (((decide ((i29:Int) < (l.length:Int)))&&(!(decide (y29=y34))))||((decide ((l.length:Int)≤(i29:Int)))&&(!(decide (y29=r36)))))) (Y4 O O O O) O (Dnil ?_))))))))
   refine hK33 (JCc O h (fun h hb=>?_) (fun h hb=>?_))
   ·
    refine Jr fun hK37=>(JLm (BL false) O (G7 (hK37 (Gn (fin1 BL h)))))
   ·
    refine Gk (hK32 (G2 (JLm (Eh i29) O (JLh (I64 ((i29+1:Nat):Int)) (Hs (Hf hk29 hm19) O O O) O (JLm (I64 ((i29+1:Nat):Int)) O (G7 (e29 _ _ (i29+1) () (app1 hn29 h) (by omega) ⟨(.sm O O),G,rfl⟩)))))))
  ·
   have h:=app1 hkx29 (Hv hi29 (Ha hb))
   refine Hn (hK8 (Jr fun hK38=>(JLm (BL true) O (G7 (hK38 (Gn (fin1 BL h)))))))


theorem H10 (l:List Stowed) (r:(Ln Stowed)) (h:Qn l=some r):Qb Ei 8 [E2 l] [] (fun av L'=>∃ p:Nat,av=.vsl 1011 p 4 0 r.1.length∧L'=[(1011,Jg.vec 39 4 p ((r.1++r.2).map Stowed.av))]):=by
 unfold Qn at h
 refine Qz [] [.tmp 2] Tryz.func8 O O (Ga6 O) (Jr fun hK1=>(JLh (E2 ([]:List Stowed)) (Hb 4 O O) O (G7 (hK1 (Jr fun hK2=>(JLm (E2 l) O (JLl Gt O O O fun hm6=>?_)))))))
 obtain⟨v3,hv3,h⟩:=Q2 h
 refine JLh (I64 v3) (Hs hv3 O O O) O ?_
 obtain⟨m4,hm4,h⟩:=Gc h
 obtain⟨ha5,h⟩:=Hr h
 refine JLh (.vec 1011 0 4 0) (Qf6 1011 O O O O Gt G2a O (G72 hm4) ha5) O (JLm (.vec 1011 0 4 0) O (G7 (hK2 (Jr fun hK6=>(JLm (.vec 1011 0 4 0) O (JLm (E2 l) O ?_))))))
 obtain⟨ha7,h⟩:=Hr h
 refine JLh (.vec 1011 ((([]:List Stowed)++l).length+1) 4 ((([]:List Stowed)++l).length)) (G68 (f:=Stowed.av) (xs:=([]:List Stowed)) (ys:=l) (ver:=0) (ver1:=((([]:List Stowed)++l).length+1)) rfl rfl rfl rfl Gt G2a ha7 (fun _=>rfl) (.inl rfl) (by simp)) O (JLm (.vec 1011 ((([]:List Stowed)++l).length+1) 4 ((([]:List Stowed)++l).length)) O (G7 (hK6 (Js fun hK8=>Jr fun hK9=>(JLm (I64 0) O (G7 (hK9 (Gq ?_))))))))
 obtain⟨hx28,h⟩:=Hr h
 obtain⟨b28,kx28,hb28,hkx28,h⟩:=G4d h
 refine Hd (fun i28 (q28:((List Stowed))×Nat)=>(fun(s28:(List Stowed))=>upto b28 kx28 ((12:Int).toNat - i28) i28 s28=some r) q28.1) (fun i28 q28=>(fun(s28:(List Stowed)) (gv28:Nat)=>[(0,E2 l),(3,.vec 1011 gv28 4 s28.length),(4,Eh i28)]) q28.1 q28.2) (fun i28 q28=>(fun(s28:(List Stowed)) (gv28:Nat)=>[(1011,.vec 39 4 gv28 (s28.map Stowed.av))]) q28.1 q28.2) (fun i28=>(12:Int).toNat - i28) 0 ((([]:List Stowed)++l),((([]:List Stowed)++l).length+1)) h ⟨(.sm O O),⟨⟨_,O,.vec⟩,G⟩,O⟩ ?_
 clear h
 rintro i28 ⟨s28,gv28⟩ hi28 K28 e28
 replace hi28:upto b28 kx28 ((12:Int).toNat - i28) i28 s28=some r:=hi28
 change JC _ _ _ _ [(0,E2 l),(3,.vec 1011 gv28 4 s28.length),(4,Eh i28)] [(1011,.vec 39 4 gv28 (s28.map Stowed.av))]
 refine Js fun hK29=>Jr fun hK30=>(JLm (Eh i28) O (JLh (BL (decide ((i28:Int) < 12))) (Hz O O O) O (G7 (hK30 (Gi O (fun hb=>?_) (fun hb=>?_))))))
 ·
  have hk28:=G21 hb
  obtain⟨nx28,hn28,h⟩:=G1e hi28 hk28
  replace h:=Hba hb28 h
  refine Gk (hK29 (Js fun hK31=>Gq (G2 (JLm (.vec 1011 gv28 4 s28.length) O (JLm (Eh i28) O ?_)))))
  obtain⟨r32,hr32,h⟩:=Gc h
  refine JLh (.agg (Stowed.cs r32)) (Gm O (Zz 1 (i28:Int) r32 hr32) Ha6 ⟨O,O,O,O,G⟩) O (JLh (E2 [r32]) (Hj (xs:=[.agg (Stowed.cs r32)]) O ⟨O,O,G⟩ Gt G0f O O O O) O ?_)
  obtain⟨ha33,h⟩:=Hr h
  refine JLh (.vec 1011 (gv28+1) 4 ((s28++[r32]).length)) (G68 (f:=Stowed.av) (xs:=s28) (ys:=[r32]) (ver:=gv28) (ver1:=(gv28+1)) rfl rfl rfl rfl Gt G2a ha33 (fun _=>rfl) (.inl rfl) (by simp)) O (JLm (.vec 1011 (gv28+1) 4 ((s28++[r32]).length)) O (G7 (hK31 (G2 (JLm (Eh i28) O (JLh (I64 ((i28+1:Nat):Int)) (Hs (Hf hk28 (Zj hx28)) O O O) O (JLm (I64 ((i28+1:Nat):Int)) O (G7 (e28 _ _ (i28+1) ((s28++[r32]),(gv28+1)) (app1 hn28 h) (by omega) ⟨(.sm O O),⟨⟨_,rfl,.vec⟩,G⟩,rfl⟩)))))))))
 ·
  have h:=app1 hkx28 (G1f hi28 (Qu hb))
  refine Hn (hK8 (Jr fun hK34=>(JLm (.vec 1011 gv28 4 s28.length) O (JLm (E2 l) O (JLl Gt O O O fun hm23=>?_)))))
  obtain⟨m35,hm35,h⟩:=Gc h
  refine JLh (.vsl 1011 gv28 4 0 m35) (J03 (f:=Stowed.av) (xs:=s28) O O O O Gt (Rq hm35)) O (JLm (.vsl 1011 gv28 4 0 m35) O (G7 (hK34 (Gn ?_))))
  obtain rfl:=Option.some.inj h
  exact⟨[.vsl 1011 gv28 4 0 m35],[(1011,.vec 39 4 gv28 (s28.map Stowed.av))],⟨⟨_,O,.vec⟩,G⟩,O,⟨⟨_,O,.conv (.same O)⟩,G⟩,gv28,congrArg (fun n_:Nat=>(.vsl 1011 gv28 4 0 n_:AV)) (R66 (Rq hm35)),congrArg (fun q_:List Stowed=>[(1011,Jg.vec 39 4 gv28 (q_.map Stowed.av))]) (List.take_append_drop _ _).symm⟩


theorem H54 (l:List Int) (r:(Ln Int)) (h:Q0 l=some r):Qb Ei 9 [E1 l] [] (fun av L'=>∃ p:Nat,av=.vsl 1012 p 1 0 r.1.length∧L'=[(1012,Jg.vec 3 1 p ((r.1++r.2).map I64))]):=by
 unfold Q0 at h
 refine Qz [] [.tmp 2] Tryz.func9 O O (Ga6 O) (Jr fun hK1=>(JLh (E1 ([]:List Int)) (Hb 1 O O) O (G7 (hK1 (Jr fun hK2=>(JLm (E1 l) O (JLl Gs O O O fun hm6=>?_)))))))
 obtain⟨v3,hv3,h⟩:=Q2 h
 refine JLh (I64 v3) (Hs hv3 O O O) O ?_
 obtain⟨m4,hm4,h⟩:=Gc h
 obtain⟨ha5,h⟩:=Hr h
 refine JLh (.vec 1012 0 1 0) (Qf6 1012 O O O O Gs Zm O (G72 hm4) ha5) O (JLm (.vec 1012 0 1 0) O (G7 (hK2 (Jr fun hK6=>(JLm (.vec 1012 0 1 0) O (JLm (E1 l) O ?_))))))
 obtain⟨ha7,h⟩:=Hr h
 refine JLh (.vec 1012 ((([]:List Int)++l).length+1) 1 ((([]:List Int)++l).length)) (G68 (f:=I64) (xs:=([]:List Int)) (ys:=l) (ver:=0) (ver1:=((([]:List Int)++l).length+1)) rfl rfl rfl rfl Gs Zm ha7 (fun _=>rfl) (.inl rfl) (by simp)) O (JLm (.vec 1012 ((([]:List Int)++l).length+1) 1 ((([]:List Int)++l).length)) O (G7 (hK6 (Js fun hK8=>Jr fun hK9=>(JLm (I64 0) O (G7 (hK9 (Gq ?_))))))))
 obtain⟨hx28,h⟩:=Hr h
 obtain⟨b28,kx28,hb28,hkx28,h⟩:=G4d h
 refine Hd (fun i28 (q28:((List Int))×Nat)=>(fun(s28:(List Int))=>upto b28 kx28 ((12:Int).toNat - i28) i28 s28=some r) q28.1) (fun i28 q28=>(fun(s28:(List Int)) (gv28:Nat)=>[(0,E1 l),(3,.vec 1012 gv28 1 s28.length),(4,Eh i28)]) q28.1 q28.2) (fun i28 q28=>(fun(s28:(List Int)) (gv28:Nat)=>[(1012,.vec 3 1 gv28 (s28.map I64))]) q28.1 q28.2) (fun i28=>(12:Int).toNat - i28) 0 ((([]:List Int)++l),((([]:List Int)++l).length+1)) h ⟨(.sm O O),⟨⟨_,O,.vec⟩,G⟩,O⟩ ?_
 clear h
 rintro i28 ⟨s28,gv28⟩ hi28 K28 e28
 replace hi28:upto b28 kx28 ((12:Int).toNat - i28) i28 s28=some r:=hi28
 change JC _ _ _ _ [(0,E1 l),(3,.vec 1012 gv28 1 s28.length),(4,Eh i28)] [(1012,.vec 3 1 gv28 (s28.map I64))]
 refine Js fun hK29=>Jr fun hK30=>(JLm (Eh i28) O (JLh (BL (decide ((i28:Int) < 12))) (Hz O O O) O (G7 (hK30 (Gi O (fun hb=>?_) (fun hb=>?_))))))
 ·
  have hk28:=G21 hb
  obtain⟨nx28,hn28,h⟩:=G1e hi28 hk28
  replace h:=Hba hb28 h
  refine Gk (hK29 (Js fun hK31=>Gq (G2 (JLm (.vec 1012 gv28 1 s28.length) O (JLm (Eh i28) O ?_)))))
  obtain⟨r32,hr32,h⟩:=Gc h
  refine JLh (I64 r32) (Gm O (Q1 1 (i28:Int) r32 hr32) G3f ⟨O,O,O,O,G⟩) O (JLh (E1 [r32]) (Hj (xs:=[I64 r32]) O ⟨O,O,G⟩ Gs Rw O O O O) O ?_)
  obtain⟨ha33,h⟩:=Hr h
  refine JLh (.vec 1012 (gv28+1) 1 ((s28++[r32]).length)) (G68 (f:=I64) (xs:=s28) (ys:=[r32]) (ver:=gv28) (ver1:=(gv28+1)) rfl rfl rfl rfl Gs Zm ha33 (fun _=>rfl) (.inl rfl) (by simp)) O (JLm (.vec 1012 (gv28+1) 1 ((s28++[r32]).length)) O (G7 (hK31 (G2 (JLm (Eh i28) O (JLh (I64 ((i28+1:Nat):Int)) (Hs (Hf hk28 (Zj hx28)) O O O) O (JLm (I64 ((i28+1:Nat):Int)) O (G7 (e28 _ _ (i28+1) ((s28++[r32]),(gv28+1)) (app1 hn28 h) (by omega) ⟨(.sm O O),⟨⟨_,rfl,.vec⟩,G⟩,rfl⟩)))))))))
 ·
  have h:=app1 hkx28 (G1f hi28 (Qu hb))
  refine Hn (hK8 (Jr fun hK34=>(JLm (.vec 1012 gv28 1 s28.length) O (JLm (E1 l) O (JLl Gs O O O fun hm23=>?_)))))
  obtain⟨m35,hm35,h⟩:=Gc h
  refine JLh (.vsl 1012 gv28 1 0 m35) (J03 (f:=I64) (xs:=s28) O O O O Gs (Rq hm35)) O (JLm (.vsl 1012 gv28 1 0 m35) O (G7 (hK34 (Gn ?_))))
  obtain rfl:=Option.some.inj h
  exact⟨[.vsl 1012 gv28 1 0 m35],[(1012,.vec 3 1 gv28 (s28.map I64))],⟨⟨_,O,.vec⟩,G⟩,O,⟨⟨_,O,.conv (.same O)⟩,G⟩,gv28,congrArg (fun n_:Nat=>(.vsl 1012 gv28 1 0 n_:AV)) (R66 (Rq hm35)),congrArg (fun q_:List Int=>[(1012,Jg.vec 3 1 gv28 (q_.map I64))]) (List.take_append_drop _ _).symm⟩
end
end Go.Proofs.YtecjdioomlhhiaaGreat
