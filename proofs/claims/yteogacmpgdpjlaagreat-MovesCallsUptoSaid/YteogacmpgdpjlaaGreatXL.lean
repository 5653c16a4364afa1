/-
 Models of functions of the program,and that they return what the models say.
-/
import Derived.Test.YteogacmpgdpjlaaGreatXLa
set_option maxRecDepth 100000
namespace Go.Proofs.YteogacmpgdpjlaaGreat
open Go.RowKit
noncomputable section
open XAF
open XLF

def Ry (out:Ln Hf) (l:List Ge):Option Bool:=
 bif decide ((out.1.length:Int)≠(l.length:Int)) then
 (some false)
 else
 (Yn ((l.length:Int)+12) fun v6=>
  bnd (G61 v6 (out.1++out.2).length) fun m7=>
  each (fun y33 i33 (s33:Unit) nx33=>
   bnd (bif decide ((i33:Int) < (l.length:Int)) then Jc l (i33:Int) some else some default) fun y38=>
   bnd (bif decide ((i33:Int) < (l.length:Int)) then Yf y33 y38 else some default) fun r39=>
   bnd (bif ((!((decide ((i33:Int) < (l.length:Int)))&&(!r39)))&&(decide ((l.length:Int)≤(i33:Int)))) then Yn ((i33:Int) - (l.length:Int)) some else some 0) fun v40=>
   bnd (bif ((!((decide ((i33:Int) < (l.length:Int)))&&(!r39)))&&(decide ((l.length:Int)≤(i33:Int)))) then R8 1 v40 else some default) fun r41=>
   bnd (bif ((!((decide ((i33:Int) < (l.length:Int)))&&(!r39)))&&(decide ((l.length:Int)≤(i33:Int)))) then Q8 (Ge.mk y33.Bay y33.Rows.1) r41 else some default) fun r42=>
   bif (((decide ((i33:Int) < (l.length:Int)))&&(!r39))||((decide ((l.length:Int)≤(i33:Int)))&&(!r42))) then
   (some false)
   else
   (nx33 ()))
  (fun(s33:Unit)=>
   some true) ((out.1++out.2).take m7) 0 ())
theorem H49 (out:Ln Hf) (l:List Ge) (r:Bool) (h:Ry out l=some r):Pure En 72 [LT 2 Hf.av out,E4 l] (·=BL r):=by
 unfold Ry at h
 refine H0 [.tmp 4] Tryz.func72 O O (Jr fun hK1=>(JLm (BL false) O (G8 (hK1 (Js fun hK2=>Jr fun hK3=>(JLm (LT 2 Hf.av out) O (JLl Hu O O O fun hm8=>(JLm (E4 l) O (JLl Hu O O O fun hm10=>(JLh (BL (decide ((out.1.length:Int)≠(l.length:Int)))) (G56 O O O) O (G8 (hK3 (JCc O h (fun h hb=>?_) (fun h hb=>?_))))))))))))))
 ·
  refine Jr fun hK4=>(JLm (BL false) O (G8 (hK4 (Gt (fin1 BL h)))))
 ·
  refine Gm (hK2 (Jr fun hK5=>(JLm (LT 2 Hf.av out) O (JLm (E4 l) O (JLl Hu O O O fun hm14=>?_)))))
  obtain⟨v6,hv6,h⟩:=Jh h
  refine JLh (G0 v6) (Hx hv6 O O O) O ?_
  obtain⟨m7,hm7,h⟩:=Gf h
  refine JLh (LS 2 Hf.av ((out.1++out.2).take m7)) (H4f (f:=Hf.av) (e:=out) O O O Hu (Yv hm7)) O (JLm (LS 2 Hf.av ((out.1++out.2).take m7)) O (G8 (hK5 (Js fun hK8=>Jr fun hK9=>(JLm (G0 0) O (G8 (hK9 (Gk ?_))))))))
  obtain⟨b33,kx33,hb33,hkx33,h⟩:=J4 h
  refine H6 (fun i33 (s33:Unit)=>each b33 kx33 (List.drop i33 ((out.1++out.2).take m7)) i33 s33=some r) (fun i33 s33=>[(1,E4 l),(5,LS 2 Hf.av ((out.1++out.2).take m7)),(6,Em i33)]) (fun i33 s33=>[]) (fun i33=>((out.1++out.2).take m7).length - i33) 0 () h ⟨⟨.same O,.same O,.same O,G⟩,G,O⟩ ?_
  clear h
  intro i33 s33 hi33 K33 e33
  refine Js fun hK34=>Jr fun hK35=>(JLm (Em i33) O (JLm (LS 2 Hf.av ((out.1++out.2).take m7)) O (JLl Hu O O O fun hm19=>(JLh (BL (decide ((i33:Int) < (((out.1++out.2).take m7).length:Int)))) (Hy O O O) O (G8 (hK35 (Gj O (fun hb=>?_) (fun hb=>?_))))))))
  ·
   have hk33:=Je hb
   obtain⟨y33,nx33,hy33,hn33,h⟩:=Hs hi33 hk33
   replace h:=Y8 hb33 h
   refine Gm (hK34 (Js fun hK36=>Gk (Js fun hK37=>?_)))
   obtain⟨y38,hy38,h⟩:=Gf h
   obtain⟨r39,hr39,h⟩:=Gf h
   obtain⟨v40,hv40,h⟩:=Gf h
   obtain⟨r41,hr41,h⟩:=Gf h
   obtain⟨r42,hr42,h⟩:=Gf h
   refine JC_d0 Jb (by kernel_rfl) (Dq (Em i33) (G5 O O) O (Dq (E4 l) (G5 O O) O (Dq (Em l.length) (Qx (f:=Ge.av) (xs:=l) Hu O O) O (Dq (BL (decide ((i33:Int) < (l.length:Int)))) (Hy O O O) O (Dq (BL (decide ((i33:Int) < (l.length:Int)))) (G5 O O) O (Do (LS 2 Hf.av ((out.1++out.2).take m7)) [] O .sct G (fun hc=>G5 O O) O (Do (Em i33) [] O .sct G (fun hc=>G5 O O) O (Do (.dptr [G0 y33.Bay,LT 1 G0 y33.Rows]) [28,29] O .sct ⟨Ua,Ua,G⟩ (fun hc=>Gs (f:=Hf.av) (xs:=((out.1++out.2).take m7)) (y:=y33) O O O Hu hy33 O) O (Do (.agg [G0 y33.Bay,LT 1 G0 y33.Rows]) [30] O .sct ⟨Ua,G⟩ (fun hc=>Gi Z8 O O O) O (Do (E4 l) [] O .sct G (fun hc=>G5 O O) O (Do (Em i33) [] O .sct G (fun hc=>G5 O O) O (Do (.dptr [G0 y38.Bay,E1 y38.Rows]) [32,33] O .sct ⟨Ua,Ua,G⟩ (fun hc=>(match Jm (Gv hc hy38) with | ⟨_,hm_,hy_⟩=>Gs (f:=Ge.av) (xs:=l) (y:=y38) O O O Hu hy_ hm_)) O (Do (.agg [G0 y38.Bay,E1 y38.Rows]) [34] O .sct ⟨Ua,G⟩ (fun hc=>Gi Z8 O O O) O ?_)))))))))))))
   refine Do (BL r39) [31,35] O .sct ⟨Ua,Ua,G⟩ (fun hc=>Gq (args:=[.agg [G0 y33.Bay,LT 1 G0 y33.Rows],.agg [G0 y38.Bay,E1 y38.Rows]]) O (H74 y33 y38 r39 (Gv hc hr39)) Qa5 ⟨O,O,O,O,G⟩) O (Do (BL (!r39)) [36] O .sct ⟨Ua,G⟩ (fun hc=>R9 (b:=r39) O O) O (Dq (BL ((decide ((i33:Int) < (l.length:Int)))&&(!r39))) (J3 O O O O) O (Dq (BL ((decide ((i33:Int) < (l.length:Int)))&&(!r39))) (G5 O O) O (Do (Em i33) [] O .scf G (fun hc=>G5 O O) O (Do (E4 l) [] O .scf G (fun hc=>G5 O O) O (Do (Em l.length) [41] O .scf ⟨Ua,G⟩ (fun hc=>Qx (f:=Ge.av) (xs:=l) Hu O O) O (Do (BL (decide ((l.length:Int)≤(i33:Int)))) [40,42] O .scf ⟨Ua,Ua,G⟩ (fun hc=>G06 O O O) O (Do (BL (decide ((l.length:Int)≤(i33:Int)))) [43] O .scf ⟨Ua,G⟩ (fun hc=>G5 O O) O (Do (LS 2 Hf.av ((out.1++out.2).take m7)) [] O .optt G (fun hc=>G5 O O) O (Do (Em i33) [] O .optt G (fun hc=>G5 O O) O (Do (.dptr [G0 y33.Bay,LT 1 G0 y33.Rows]) [45,46] O .optt ⟨Ua,Ua,G⟩ (fun hc=>Gs (f:=Hf.av) (xs:=((out.1++out.2).take m7)) (y:=y33) O O O Hu hy33 O) O (Do (.agg [G0 y33.Bay,E1 y33.Rows.1]) [47] O .optt ⟨Ua,G⟩ (fun hc=>Ha.cv (Cv.aggL (cs:=[G0 y33.Bay,LT 1 G0 y33.Rows]) ⟨.same,Cv.lst0 y33.Rows,G⟩) (Gi Z8 O O O)) O (Do (Em i33) [] O .optt G (fun hc=>G5 O O) O ?_)))))))))))))
   refine Do (E4 l) [] O .optt G (fun hc=>G5 O O) O (Do (Em l.length) [50] O .optt ⟨Ua,G⟩ (fun hc=>Qx (f:=Ge.av) (xs:=l) Hu O O) O (Do (G0 v40) [49,51] O .optt ⟨Ua,Ua,G⟩ (fun hc=>G6d (G1c (Gv hc hv40)) O O O) O (Do (.agg [G0 r41.Bay,E1 r41.Rows]) [52] O .optt ⟨Ua,G⟩ (fun hc=>Gq (args:=[G0 1,G0 v40]) O (Ga8 1 v40 r41 (Gv hc hr41)) Q21 ⟨O,O,O,O,G⟩) O (Do (BL r42) [48,53] O .optt ⟨Ua,Ua,G⟩ (fun hc=>Gq (args:=[.agg [G0 y33.Bay,E1 y33.Rows.1],.agg [G0 r41.Bay,E1 r41.Rows]]) O (G52 (Ge.mk y33.Bay y33.Rows.1) r41 r42 (Gv hc hr42)) J06 ⟨O,O,O,O,G⟩) O (Do (BL (!r42)) [54] O .optt ⟨Ua,G⟩ (fun hc=>R9 (b:=r42) O O) O (Dg (.opt (!((decide ((i33:Int) < (l.length:Int)))&&(!r39))) (BL ((decide ((l.length:Int)≤(i33:Int)))&&(!r42)))) (Gg [(44,BL (decide ((l.length:Int)≤(i33:Int)))),(55,_)] O O O .scf ⟨.all id,.part,G⟩ (fun hc=>J3 O O O O) O) O (Dq (BL (((decide ((i33:Int) < (l.length:Int)))&&(!r39))||((decide ((l.length:Int)≤(i33:Int)))&&(!r42)))) (Y7 O O O O) O (Dnil ?_))))))))
   refine hK37 (JCc O h (fun h hb=>?_) (fun h hb=>?_))
   ·
    refine Jr fun hK43=>(JLm (BL false) O (G8 (hK43 (Gt (fin1 BL h)))))
   ·
    refine Gm (hK36 (G2 (JLm (Em i33) O (JLh (G0 ((i33+1:Nat):Int)) (Hx (Hc hk33 hm19) O O O) O (JLm (G0 ((i33+1:Nat):Int)) O (G8 (e33 _ _ (i33+1) () (app1 hn33 h) (by omega) ⟨⟨.same rfl,.same rfl,.same rfl,G⟩,G,rfl⟩)))))))
  ·
   have h:=app1 hkx33 (Ht hi33 (H9 hb))
   refine Hd (hK8 (Jr fun hK44=>(JLm (BL true) O (G8 (hK44 (Gt (fin1 BL h)))))))

def Yk (out:Ln Row) (l:List Row):Option Bool:=
 bif decide ((out.1.length:Int)≠(l.length:Int)) then
 (some false)
 else
 (Yn ((l.length:Int)+12) fun v6=>
  bnd (G61 v6 (out.1++out.2).length) fun m7=>
  each (fun y29 i29 (s29:Unit) nx29=>
   bnd (bif decide ((i29:Int) < (l.length:Int)) then Jc l (i29:Int) some else some default) fun y34=>
   bnd (bif ((!((decide ((i29:Int) < (l.length:Int)))&&(!(decide (y29=y34)))))&&(decide ((l.length:Int)≤(i29:Int)))) then Yn ((i29:Int) - (l.length:Int)) some else some 0) fun v35=>
   bnd (bif ((!((decide ((i29:Int) < (l.length:Int)))&&(!(decide (y29=y34)))))&&(decide ((l.length:Int)≤(i29:Int)))) then Y5 1 v35 else some default) fun r36=>
   bif (((decide ((i29:Int) < (l.length:Int)))&&(!(decide (y29=y34))))||((decide ((l.length:Int)≤(i29:Int)))&&(!(decide (y29=r36))))) then
   (some false)
   else
   (nx29 ()))
  (fun(s29:Unit)=>
   some true) ((out.1++out.2).take m7) 0 ())
theorem H86 (out:Ln Row) (l:List Row) (r:Bool) (h:Yk out l=some r):Pure En 73 [LT 5 Row.av out,E7 l] (·=BL r):=by
 unfold Yk at h
 refine H0 [.tmp 4] Tryz.func73 O O (Jr fun hK1=>(JLm (BL false) O (G8 (hK1 (Js fun hK2=>Jr fun hK3=>(JLm (LT 5 Row.av out) O (JLl Qf O O O fun hm8=>(JLm (E7 l) O (JLl Qf O O O fun hm10=>(JLh (BL (decide ((out.1.length:Int)≠(l.length:Int)))) (G56 O O O) O (G8 (hK3 (JCc O h (fun h hb=>?_) (fun h hb=>?_))))))))))))))
 ·
  refine Jr fun hK4=>(JLm (BL false) O (G8 (hK4 (Gt (fin1 BL h)))))
 ·
  refine Gm (hK2 (Jr fun hK5=>(JLm (LT 5 Row.av out) O (JLm (E7 l) O (JLl Qf O O O fun hm14=>?_)))))
  obtain⟨v6,hv6,h⟩:=Jh h
  refine JLh (G0 v6) (Hx hv6 O O O) O ?_
  obtain⟨m7,hm7,h⟩:=Gf h
  refine JLh (E7 ((out.1++out.2).take m7)) (H4f (f:=Row.av) (e:=out) O O O Qf (Yv hm7)) O (JLm (E7 ((out.1++out.2).take m7)) O (G8 (hK5 (Js fun hK8=>Jr fun hK9=>(JLm (G0 0) O (G8 (hK9 (Gk ?_))))))))
  obtain⟨b29,kx29,hb29,hkx29,h⟩:=J4 h
  refine H6 (fun i29 (s29:Unit)=>each b29 kx29 (List.drop i29 ((out.1++out.2).take m7)) i29 s29=some r) (fun i29 s29=>[(1,E7 l),(5,E7 ((out.1++out.2).take m7)),(6,Em i29)]) (fun i29 s29=>[]) (fun i29=>((out.1++out.2).take m7).length - i29) 0 () h ⟨⟨.same O,.same O,.same O,G⟩,G,O⟩ ?_
  clear h
  intro i29 s29 hi29 K29 e29
  refine Js fun hK30=>Jr fun hK31=>(JLm (Em i29) O (JLm (E7 ((out.1++out.2).take m7)) O (JLl Qf O O O fun hm19=>(JLh (BL (decide ((i29:Int) < (((out.1++out.2).take m7).length:Int)))) (Hy O O O) O (G8 (hK31 (Gj O (fun hb=>?_) (fun hb=>?_))))))))
  ·
   have hk29:=Je hb
   obtain⟨y29,nx29,hy29,hn29,h⟩:=Hs hi29 hk29
   replace h:=Y8 hb29 h
   refine Gm (hK30 (Js fun hK32=>Gk (Js fun hK33=>?_)))
   obtain⟨y34,hy34,h⟩:=Gf h
   obtain⟨v35,hv35,h⟩:=Gf h
   obtain⟨r36,hr36,h⟩:=Gf h
   refine JC_d0 Jb (by kernel_rfl) (Dq (Em i29) (G5 O O) O (Dq (E7 l) (G5 O O) O (Dq (Em l.length) (Qx (f:=Row.av) (xs:=l) Qf O O) O (Dq (BL (decide ((i29:Int) < (l.length:Int)))) (Hy O O O) O (Dq (BL (decide ((i29:Int) < (l.length:Int)))) (G5 O O) O (Do (E7 ((out.1++out.2).take m7)) [] O .sct G (fun hc=>G5 O O) O (Do (Em i29) [] O .sct G (fun hc=>G5 O O) O (Do (.dptr (Row.cs y29)) [28,29] O .sct ⟨Ua,Ua,G⟩ (fun hc=>Gs (f:=Row.av) (xs:=((out.1++out.2).take m7)) (y:=y29) O O O Qf hy29 O) O (Do (.agg (Row.cs y29)) [30] O .sct ⟨Ua,G⟩ (fun hc=>Gi H0c O O O) O (Do (E7 l) [] O .sct G (fun hc=>G5 O O) O (Do (Em i29) [] O .sct G (fun hc=>G5 O O) O (Do (.dptr (Row.cs y34)) [32,33] O .sct ⟨Ua,Ua,G⟩ (fun hc=>(match Jm (Gv hc hy34) with | ⟨_,hm_,hy_⟩=>Gs (f:=Row.av) (xs:=l) (y:=y34) O O O Qf hy_ hm_)) O (Do (.agg (Row.cs y34)) [34] O .sct ⟨Ua,G⟩ (fun hc=>Gi H0c O O O) O ?_)))))))))))))
   refine Do (BL (decide (y29=y34))) [31,35] O .sct ⟨Ua,Ua,G⟩ (fun hc=>G81 (vs:=[.int .i64 y29.Draught,.int .i64 y29.Kilos,.int .i64 y29.Buoy,.int .i64 y29.Metacentre,.int .i64 y29.J1d]) (us:=[.int .i64 y34.Draught,.int .i64 y34.Kilos,.int .i64 y34.Buoy,.int .i64 y34.Metacentre,.int .i64 y34.J1d]) 4 O (tq_104 y29 y34) Hd6 J53 O O O) O (Do (BL (!(decide (y29=y34)))) [36] O .sct ⟨Ua,G⟩ (fun hc=>R9 (b:=decide (y29=y34)) O O) O (Dq (BL ((decide ((i29:Int) < (l.length:Int)))&&(!(decide (y29=y34))))) (J3 O O O O) O (Dq (BL ((decide ((i29:Int) < (l.length:Int)))&&(!(decide (y29=y34))))) (G5 O O) O (Do (Em i29) [] O .scf G (fun hc=>G5 O O) O (Do (E7 l) [] O .scf G (fun hc=>G5 O O) O (Do (Em l.length) [41] O .scf ⟨Ua,G⟩ (fun hc=>Qx (f:=Row.av) (xs:=l) Qf O O) O (Do (BL (decide ((l.length:Int)≤(i29:Int)))) [40,42] O .scf ⟨Ua,Ua,G⟩ (fun hc=>G06 O O O) O (Do (BL (decide ((l.length:Int)≤(i29:Int)))) [43] O .scf ⟨Ua,G⟩ (fun hc=>G5 O O) O (Do (E7 ((out.1++out.2).take m7)) [] O .optt G (fun hc=>G5 O O) O (Do (Em i29) [] O .optt G (fun hc=>G5 O O) O (Do (.dptr (Row.cs y29)) [45,46] O .optt ⟨Ua,Ua,G⟩ (fun hc=>Gs (f:=Row.av) (xs:=((out.1++out.2).take m7)) (y:=y29) O O O Qf hy29 O) O (Do (.agg (Row.cs y29)) [47] O .optt ⟨Ua,G⟩ (fun hc=>Gi H0c O O O) O (Do (Em i29) [] O .optt G (fun hc=>G5 O O) O ?_)))))))))))))
   refine Do (E7 l) [] O .optt G (fun hc=>G5 O O) O (Do (Em l.length) [50] O .optt ⟨Ua,G⟩ (fun hc=>Qx (f:=Row.av) (xs:=l) Qf O O) O (Do (G0 v35) [49,51] O .optt ⟨Ua,Ua,G⟩ (fun hc=>G6d (G1c (Gv hc hv35)) O O O) O (Do (.agg (Row.cs r36)) [52] O .optt ⟨Ua,G⟩ (fun hc=>Gq (args:=[G0 1,G0 v35]) O (Gcc 1 v35 r36 (Gv hc hr36)) Q20 ⟨O,O,O,O,G⟩) O (Do (BL (decide (y29=r36))) [48,53] O .optt ⟨Ua,Ua,G⟩ (fun hc=>G81 (vs:=[.int .i64 y29.Draught,.int .i64 y29.Kilos,.int .i64 y29.Buoy,.int .i64 y29.Metacentre,.int .i64 y29.J1d]) (us:=[.int .i64 r36.Draught,.int .i64 r36.Kilos,.int .i64 r36.Buoy,.int .i64 r36.Metacentre,.int .i64 r36.J1d]) 4 O (tq_104 y29 r36) Hd6 J53 O O O) O (Do (BL (!(decide (y29=r36)))) [54] O .optt ⟨Ua,G⟩ (fun hc=>R9 (b:=decide (y29=r36)) O O) O (Dg (.opt (!((decide ((i29:Int) < (l.length:Int)))&&(!(decide (y29=y34))))) (BL ((decide ((l.length:Int)≤(i29:Int)))&&(!(decide (y29=r36)))))) (Gg [(44,BL (decide ((l.length:Int)≤(i29:Int)))),(55,_)] O O O .scf ⟨.all id,.part,G⟩ (fun hc=>J3 O O O O) O) O (Dq (BL (((decide ((i29:Int) < (l.length:Int)))&&(!(decide (y29=y34))))||((decide ((l.length:Int)≤(i29:Int)))&&(!(decide (y29=r36)))))) (Y7 O O O O) O (Dnil ?_))))))))
   refine hK33 (JCc O h (fun h hb=>?_) (fun h hb=>?_))
   ·
    refine Jr fun hK37=>(JLm (BL false) O (G8 (hK37 (Gt (fin1 BL h)))))
   ·
    refine Gm (hK32 (G2 (JLm (Em i29) O (JLh (G0 ((i29+1:Nat):Int)) (Hx (Hc hk29 hm19) O O O) O (JLm (G0 ((i29+1:Nat):Int)) O (G8 (e29 _ _ (i29+1) () (app1 hn29 h) (by omega) ⟨⟨.same rfl,.same rfl,.same rfl,G⟩,G,rfl⟩)))))))
  ·
   have h:=app1 hkx29 (Ht hi29 (H9 hb))
   refine Hd (hK8 (Jr fun hK38=>(JLm (BL true) O (G8 (hK38 (Gt (fin1 BL h)))))))

def Rx (out:Ln Frame) (l:List Frame):Option Bool:=
 bif decide ((out.1.length:Int)≠(l.length:Int)) then
 (some false)
 else
 (Yn ((l.length:Int)+12) fun v6=>
  bnd (G61 v6 (out.1++out.2).length) fun m7=>
  each (fun y29 i29 (s29:Unit) nx29=>
   bnd (bif decide ((i29:Int) < (l.length:Int)) then Jc l (i29:Int) some else some default) fun y34=>
   bnd (bif ((!((decide ((i29:Int) < (l.length:Int)))&&(!(decide (y29=y34)))))&&(decide ((l.length:Int)≤(i29:Int)))) then Yn ((i29:Int) - (l.length:Int)) some else some 0) fun v35=>
   bnd (bif ((!((decide ((i29:Int) < (l.length:Int)))&&(!(decide (y29=y34)))))&&(decide ((l.length:Int)≤(i29:Int)))) then R7 1 v35 else some default) fun r36=>
   bif (((decide ((i29:Int) < (l.length:Int)))&&(!(decide (y29=y34))))||((decide ((l.length:Int)≤(i29:Int)))&&(!(decide (y29=r36))))) then
   (some false)
   else
   (nx29 ()))
  (fun(s29:Unit)=>
   some true) ((out.1++out.2).take m7) 0 ())
theorem H48 (out:Ln Frame) (l:List Frame) (r:Bool) (h:Rx out l=some r):Pure En 74 [LT 5 Frame.av out,E6 l] (·=BL r):=by
 unfold Rx at h
 refine H0 [.tmp 4] Tryz.func74 O O (Jr fun hK1=>(JLm (BL false) O (G8 (hK1 (Js fun hK2=>Jr fun hK3=>(JLm (LT 5 Frame.av out) O (JLl Qe O O O fun hm8=>(JLm (E6 l) O (JLl Qe O O O fun hm10=>(JLh (BL (decide ((out.1.length:Int)≠(l.length:Int)))) (G56 O O O) O (G8 (hK3 (JCc O h (fun h hb=>?_) (fun h hb=>?_))))))))))))))
 ·
  refine Jr fun hK4=>(JLm (BL false) O (G8 (hK4 (Gt (fin1 BL h)))))
 ·
  refine Gm (hK2 (Jr fun hK5=>(JLm (LT 5 Frame.av out) O (JLm (E6 l) O (JLl Qe O O O fun hm14=>?_)))))
  obtain⟨v6,hv6,h⟩:=Jh h
  refine JLh (G0 v6) (Hx hv6 O O O) O ?_
  obtain⟨m7,hm7,h⟩:=Gf h
  refine JLh (E6 ((out.1++out.2).take m7)) (H4f (f:=Frame.av) (e:=out) O O O Qe (Yv hm7)) O (JLm (E6 ((out.1++out.2).take m7)) O (G8 (hK5 (Js fun hK8=>Jr fun hK9=>(JLm (G0 0) O (G8 (hK9 (Gk ?_))))))))
  obtain⟨b29,kx29,hb29,hkx29,h⟩:=J4 h
  refine H6 (fun i29 (s29:Unit)=>each b29 kx29 (List.drop i29 ((out.1++out.2).take m7)) i29 s29=some r) (fun i29 s29=>[(1,E6 l),(5,E6 ((out.1++out.2).take m7)),(6,Em i29)]) (fun i29 s29=>[]) (fun i29=>((out.1++out.2).take m7).length - i29) 0 () h ⟨⟨.same O,.same O,.same O,G⟩,G,O⟩ ?_
  clear h
  intro i29 s29 hi29 K29 e29
  refine Js fun hK30=>Jr fun hK31=>(JLm (Em i29) O (JLm (E6 ((out.1++out.2).take m7)) O (JLl Qe O O O fun hm19=>(JLh (BL (decide ((i29:Int) < (((out.1++out.2).take m7).length:Int)))) (Hy O O O) O (G8 (hK31 (Gj O (fun hb=>?_) (fun hb=>?_))))))))
  ·
   have hk29:=Je hb
   obtain⟨y29,nx29,hy29,hn29,h⟩:=Hs hi29 hk29
   replace h:=Y8 hb29 h
   refine Gm (hK30 (Js fun hK32=>Gk (Js fun hK33=>?_)))
   obtain⟨y34,hy34,h⟩:=Gf h
   obtain⟨v35,hv35,h⟩:=Gf h
   obtain⟨r36,hr36,h⟩:=Gf h
   refine JC_d0 Jb (by kernel_rfl) (Dq (Em i29) (G5 O O) O (Dq (E6 l) (G5 O O) O (Dq (Em l.length) (Qx (f:=Frame.av) (xs:=l) Qe O O) O (Dq (BL (decide ((i29:Int) < (l.length:Int)))) (Hy O O O) O (Dq (BL (decide ((i29:Int) < (l.length:Int)))) (G5 O O) O (Do (E6 ((out.1++out.2).take m7)) [] O .sct G (fun hc=>G5 O O) O (Do (Em i29) [] O .sct G (fun hc=>G5 O O) O (Do (.dptr (Frame.cs y29)) [28,29] O .sct ⟨Ua,Ua,G⟩ (fun hc=>Gs (f:=Frame.av) (xs:=((out.1++out.2).take m7)) (y:=y29) O O O Qe hy29 O) O (Do (.agg (Frame.cs y29)) [30] O .sct ⟨Ua,G⟩ (fun hc=>Gi H0b O O O) O (Do (E6 l) [] O .sct G (fun hc=>G5 O O) O (Do (Em i29) [] O .sct G (fun hc=>G5 O O) O (Do (.dptr (Frame.cs y34)) [32,33] O .sct ⟨Ua,Ua,G⟩ (fun hc=>(match Jm (Gv hc hy34) with | ⟨_,hm_,hy_⟩=>Gs (f:=Frame.av) (xs:=l) (y:=y34) O O O Qe hy_ hm_)) O (Do (.agg (Frame.cs y34)) [34] O .sct ⟨Ua,G⟩ (fun hc=>Gi H0b O O O) O ?_)))))))))))))
   refine Do (BL (decide (y29=y34))) [31,35] O .sct ⟨Ua,Ua,G⟩ (fun hc=>G81 (vs:=[.int .i64 y29.X,.int .i64 y29.Light,.int .i64 y29.Share,.int .i64 y29.Shear,.int .i64 y29.Bend]) (us:=[.int .i64 y34.X,.int .i64 y34.Light,.int .i64 y34.Share,.int .i64 y34.Shear,.int .i64 y34.Bend]) 4 O (tq_107 y29 y34) Hd5 J52 O O O) O (Do (BL (!(decide (y29=y34)))) [36] O .sct ⟨Ua,G⟩ (fun hc=>R9 (b:=decide (y29=y34)) O O) O (Dq (BL ((decide ((i29:Int) < (l.length:Int)))&&(!(decide (y29=y34))))) (J3 O O O O) O (Dq (BL ((decide ((i29:Int) < (l.length:Int)))&&(!(decide (y29=y34))))) (G5 O O) O (Do (Em i29) [] O .scf G (fun hc=>G5 O O) O (Do (E6 l) [] O .scf G (fun hc=>G5 O O) O (Do (Em l.length) [41] O .scf ⟨Ua,G⟩ (fun hc=>Qx (f:=Frame.av) (xs:=l) Qe O O) O (Do (BL (decide ((l.length:Int)≤(i29:Int)))) [40,42] O .scf ⟨Ua,Ua,G⟩ (fun hc=>G06 O O O) O (Do (BL (decide ((l.length:Int)≤(i29:Int)))) [43] O .scf ⟨Ua,G⟩ (fun hc=>G5 O O) O (Do (E6 ((out.1++out.2).take m7)) [] O .optt G (fun hc=>G5 O O) O (Do (Em i29) [] O .optt G (fun hc=>G5 O O) O (Do (.dptr (Frame.cs y29)) [45,46] O .optt ⟨Ua,Ua,G⟩ (fun hc=>Gs (f:=Frame.av) (xs:=((out.1++out.2).take m7)) (y:=y29) O O O Qe hy29 O) O (Do (.agg (Frame.cs y29)) [47] O .optt ⟨Ua,G⟩ (fun hc=>Gi H0b O O O) O (Do (Em i29) [] O .optt G (fun hc=>G5 O O) O ?_)))))))))))))
   refine Do (E6 l) [] O .optt G (fun hc=>G5 O O) O (Do (Em l.length) [50] O .optt ⟨Ua,G⟩ (fun hc=>Qx (f:=Frame.av) (xs:=l) Qe O O) O (Do (G0 v35) [49,51] O .optt ⟨Ua,Ua,G⟩ (fun hc=>G6d (G1c (Gv hc hv35)) O O O) O (Do (.agg (Frame.cs r36)) [52] O .optt ⟨Ua,G⟩ (fun hc=>Gq (args:=[G0 1,G0 v35]) O (Ga7 1 v35 r36 (Gv hc hr36)) Q1f ⟨O,O,O,O,G⟩) O (Do (BL (decide (y29=r36))) [48,53] O .optt ⟨Ua,Ua,G⟩ (fun hc=>G81 (vs:=[.int .i64 y29.X,.int .i64 y29.Light,.int .i64 y29.Share,.int .i64 y29.Shear,.int .i64 y29.Bend]) (us:=[.int .i64 r36.X,.int .i64 r36.Light,.int .i64 r36.Share,.int .i64 r36.Shear,.int .i64 r36.Bend]) 4 O (tq_107 y29 r36) Hd5 J52 O O O) O (Do (BL (!(decide (y29=r36)))) [54] O .optt ⟨Ua,G⟩ (fun hc=>R9 (b:=decide (y29=r36)) O O) O (Dg (.opt (!((decide ((i29:Int) < (l.length:Int)))&&(!(decide (y29=y34))))) (BL ((decide ((l.length:Int)≤(i29:Int)))&&(!(decide (y29=r36)))))) (Gg [(44,BL (decide ((l.length:Int)≤(i29:Int)))),(55,_)] O O O .scf ⟨.all id,.part,G⟩ (fun hc=>J3 O O O O) O) O (Dq (BL (((decide ((i29:Int) < (l.length:Int)))&&(!(decide (y29=y34))))||((decide ((l.length:Int)≤(i29:Int)))&&(!(decide (y29=r36)))))) (Y7 O O O O) O (Dnil ?_))))))))
   refine hK33 (JCc O h (fun h hb=>?_) (fun h hb=>?_))
   ·
    refine Jr fun hK37=>(JLm (BL false) O (G8 (hK37 (Gt (fin1 BL h)))))
   ·
    refine Gm (hK32 (G2 (JLm (Em i29) O (JLh (G0 ((i29+1:Nat):Int)) (Hx (Hc hk29 hm19) O O O) O (JLm (G0 ((i29+1:Nat):Int)) O (G8 (e29 _ _ (i29+1) () (app1 hn29 h) (by omega) ⟨⟨.same rfl,.same rfl,.same rfl,G⟩,G,rfl⟩)))))))
  ·
   have h:=app1 hkx29 (Ht hi29 (H9 hb))
   refine Hd (hK8 (Jr fun hK38=>(JLm (BL true) O (G8 (hK38 (Gt (fin1 BL h)))))))

def Yj (x:Hq) (y:Gp):Option Bool:=
 bnd (Q9 (Gp.mk x.Kilos x.X x.Y x.Z x.Surface x.Steps.1) y) fun r3=>
 bnd (bif r3 then Jj x.Steps y.Steps else some default) fun r4=>
 some (r3&&r4)
theorem H84 (x:Hq) (y:Gp) (r:Bool) (h:Yj x y=some r):Pure En 121 [.agg (Hq.cs x),.agg (Gp.cs y)] (·=BL r):=by
 unfold Yj at h
 refine H0 [.tmp 4] Tryz.func121 O O (Jr fun hK1=>(JLh (.ptr 1168 0) (Jq (cs:=[G0 x.Kilos,G0 x.X,G0 x.Y,G0 x.Z,G0 x.Surface,LT 1 G0 x.Steps]) 1168 O O O O O) O (JLh (.ptr 1169 0) (Jq (cs:=[G0 y.Kilos,G0 y.X,G0 y.Y,G0 y.Z,G0 y.Surface,E1 y.Steps]) 1169 O O O O O) O (JLm (BL false) O (G8 (hK1 (Gx [(2,.dptr (Hq.cs x)),(3,.ptr 1169 0)] [(1169,.box 110 [G0 y.Kilos,G0 y.X,G0 y.Y,G0 y.Z,G0 y.Surface,E1 y.Steps])] 1168 rfl rfl rfl ⟨⟨_,rfl,.boxEq rfl rfl⟩,G⟩ rfl (by exact⟨.ptr,.conv (.same rfl),G⟩) (Gx [(2,.dptr (Hq.cs x)),(3,Ej y)] [] 1169 rfl rfl rfl G rfl (by exact⟨.conv (.same rfl),.ptr,G⟩) ?_))))))))
 refine Jr fun hK2=>(JLh (.agg [G0 x.Kilos,G0 x.X,G0 x.Y,G0 x.Z,G0 x.Surface,E1 x.Steps.1]) (Ha.cv (Cv.aggL (cs:=(Hq.cs x)) ⟨.same,.same,.same,.same,.same,Cv.lst0 x.Steps,G⟩) (Gi G3c O O O)) O (JLh (.agg (Gp.cs y)) (Gi G3c O O O) O ?_))
 obtain⟨r3,hr3,h⟩:=Gf h
 refine JLh (BL r3) (Gq O (G57 (Gp.mk x.Kilos x.X x.Y x.Z x.Surface x.Steps.1) y r3 hr3) J05 ⟨O,O,O,O,G⟩) O (JLm (BL r3) O (JLo (.dptr [LT 1 G0 x.Steps]) [] O .sct G (fun hc=>Ga G70 O O O) O (JLo (LT 1 G0 x.Steps) [9] O .sct ⟨Ua,G⟩ (fun hc=>Gh J2 O O O) O (JLo (.dptr [E1 y.Steps]) [] O .sct G (fun hc=>Ga G70 O O O) O (JLo (E1 y.Steps) [11] O .sct ⟨Ua,G⟩ (fun hc=>Gh J2 O O O) O ?_)))))
 obtain⟨r4,hr4,h⟩:=Gf h
 refine JLo (BL r4) [10,12] O .sct ⟨Ua,Ua,G⟩ (fun hc=>Gq (args:=[LT 1 G0 x.Steps,E1 y.Steps]) O (G5a x.Steps y.Steps r4 (Gv hc hr4)) J03 ⟨O,O,O,O,G⟩) O (JLh (BL (r3&&r4)) (J3 O O O O) O (JLm (BL (r3&&r4)) O (G8 (hK2 (Gt (fin1 BL h))))))

def Ye (out:Ln Hq) (l:List Gp):Option Bool:=
 bif decide ((out.1.length:Int)≠(l.length:Int)) then
 (some false)
 else
 (Yn ((l.length:Int)+12) fun v6=>
  bnd (G61 v6 (out.1++out.2).length) fun m7=>
  each (fun y33 i33 (s33:Unit) nx33=>
   bnd (bif decide ((i33:Int) < (l.length:Int)) then Jc l (i33:Int) some else some default) fun y38=>
   bnd (bif decide ((i33:Int) < (l.length:Int)) then Yj y33 y38 else some default) fun r39=>
   bnd (bif ((!((decide ((i33:Int) < (l.length:Int)))&&(!r39)))&&(decide ((l.length:Int)≤(i33:Int)))) then Yn ((i33:Int) - (l.length:Int)) some else some 0) fun v40=>
   bnd (bif ((!((decide ((i33:Int) < (l.length:Int)))&&(!r39)))&&(decide ((l.length:Int)≤(i33:Int)))) then Rf 1 v40 else some default) fun r41=>
   bnd (bif ((!((decide ((i33:Int) < (l.length:Int)))&&(!r39)))&&(decide ((l.length:Int)≤(i33:Int)))) then Q9 (Gp.mk y33.Kilos y33.X y33.Y y33.Z y33.Surface y33.Steps.1) r41 else some default) fun r42=>
   bif (((decide ((i33:Int) < (l.length:Int)))&&(!r39))||((decide ((l.length:Int)≤(i33:Int)))&&(!r42))) then
   (some false)
   else
   (nx33 ()))
  (fun(s33:Unit)=>
   some true) ((out.1++out.2).take m7) 0 ())
theorem H72 (out:Ln Hq) (l:List Gp) (r:Bool) (h:Ye out l=some r):Pure En 75 [LT 6 Hq.av out,E8 l] (·=BL r):=by
 unfold Ye at h
 refine H0 [.tmp 4] Tryz.func75 O O (Jr fun hK1=>(JLm (BL false) O (G8 (hK1 (Js fun hK2=>Jr fun hK3=>(JLm (LT 6 Hq.av out) O (JLl Q5 O O O fun hm8=>(JLm (E8 l) O (JLl Q5 O O O fun hm10=>(JLh (BL (decide ((out.1.length:Int)≠(l.length:Int)))) (G56 O O O) O (G8 (hK3 (JCc O h (fun h hb=>?_) (fun h hb=>?_))))))))))))))
 ·
  refine Jr fun hK4=>(JLm (BL false) O (G8 (hK4 (Gt (fin1 BL h)))))
 ·
  refine Gm (hK2 (Jr fun hK5=>(JLm (LT 6 Hq.av out) O (JLm (E8 l) O (JLl Q5 O O O fun hm14=>?_)))))
  obtain⟨v6,hv6,h⟩:=Jh h
  refine JLh (G0 v6) (Hx hv6 O O O) O ?_
  obtain⟨m7,hm7,h⟩:=Gf h
  refine JLh (LS 6 Hq.av ((out.1++out.2).take m7)) (H4f (f:=Hq.av) (e:=out) O O O Q5 (Yv hm7)) O (JLm (LS 6 Hq.av ((out.1++out.2).take m7)) O (G8 (hK5 (Js fun hK8=>Jr fun hK9=>(JLm (G0 0) O (G8 (hK9 (Gk ?_))))))))
  obtain⟨b33,kx33,hb33,hkx33,h⟩:=J4 h
  refine H6 (fun i33 (s33:Unit)=>each b33 kx33 (List.drop i33 ((out.1++out.2).take m7)) i33 s33=some r) (fun i33 s33=>[(1,E8 l),(5,LS 6 Hq.av ((out.1++out.2).take m7)),(6,Em i33)]) (fun i33 s33=>[]) (fun i33=>((out.1++out.2).take m7).length - i33) 0 () h ⟨⟨.same O,.same O,.same O,G⟩,G,O⟩ ?_
  clear h
  intro i33 s33 hi33 K33 e33
  refine Js fun hK34=>Jr fun hK35=>(JLm (Em i33) O (JLm (LS 6 Hq.av ((out.1++out.2).take m7)) O (JLl Q5 O O O fun hm19=>(JLh (BL (decide ((i33:Int) < (((out.1++out.2).take m7).length:Int)))) (Hy O O O) O (G8 (hK35 (Gj O (fun hb=>?_) (fun hb=>?_))))))))
  ·
   have hk33:=Je hb
   obtain⟨y33,nx33,hy33,hn33,h⟩:=Hs hi33 hk33
   replace h:=Y8 hb33 h
   refine Gm (hK34 (Js fun hK36=>Gk (Js fun hK37=>?_)))
   obtain⟨y38,hy38,h⟩:=Gf h
   obtain⟨r39,hr39,h⟩:=Gf h
   obtain⟨v40,hv40,h⟩:=Gf h
   obtain⟨r41,hr41,h⟩:=Gf h
   obtain⟨r42,hr42,h⟩:=Gf h
   refine JC_d0 Jb (by kernel_rfl) (Dq (Em i33) (G5 O O) O (Dq (E8 l) (G5 O O) O (Dq (Em l.length) (Qx (f:=Gp.av) (xs:=l) Q5 O O) O (Dq (BL (decide ((i33:Int) < (l.length:Int)))) (Hy O O O) O (Dq (BL (decide ((i33:Int) < (l.length:Int)))) (G5 O O) O (Do (LS 6 Hq.av ((out.1++out.2).take m7)) [] O .sct G (fun hc=>G5 O O) O (Do (Em i33) [] O .sct G (fun hc=>G5 O O) O (Do (.dptr (Hq.cs y33)) [28,29] O .sct ⟨Ua,Ua,G⟩ (fun hc=>Gs (f:=Hq.av) (xs:=((out.1++out.2).take m7)) (y:=y33) O O O Q5 hy33 O) O (Do (.agg (Hq.cs y33)) [30] O .sct ⟨Ua,G⟩ (fun hc=>Gi G3c O O O) O (Do (E8 l) [] O .sct G (fun hc=>G5 O O) O (Do (Em i33) [] O .sct G (fun hc=>G5 O O) O (Do (Ej y38) [32,33] O .sct ⟨Ua,Ua,G⟩ (fun hc=>(match Jm (Gv hc hy38) with | ⟨_,hm_,hy_⟩=>Gs (f:=Gp.av) (xs:=l) (y:=y38) O O O Q5 hy_ hm_)) O (Do (.agg (Gp.cs y38)) [34] O .sct ⟨Ua,G⟩ (fun hc=>Gi G3c O O O) O ?_)))))))))))))
   refine Do (BL r39) [31,35] O .sct ⟨Ua,Ua,G⟩ (fun hc=>Gq (args:=[.agg (Hq.cs y33),.agg (Gp.cs y38)]) O (H84 y33 y38 r39 (Gv hc hr39)) Qa4 ⟨O,O,O,O,G⟩) O (Do (BL (!r39)) [36] O .sct ⟨Ua,G⟩ (fun hc=>R9 (b:=r39) O O) O (Dq (BL ((decide ((i33:Int) < (l.length:Int)))&&(!r39))) (J3 O O O O) O (Dq (BL ((decide ((i33:Int) < (l.length:Int)))&&(!r39))) (G5 O O) O (Do (Em i33) [] O .scf G (fun hc=>G5 O O) O (Do (E8 l) [] O .scf G (fun hc=>G5 O O) O (Do (Em l.length) [41] O .scf ⟨Ua,G⟩ (fun hc=>Qx (f:=Gp.av) (xs:=l) Q5 O O) O (Do (BL (decide ((l.length:Int)≤(i33:Int)))) [40,42] O .scf ⟨Ua,Ua,G⟩ (fun hc=>G06 O O O) O (Do (BL (decide ((l.length:Int)≤(i33:Int)))) [43] O .scf ⟨Ua,G⟩ (fun hc=>G5 O O) O (Do (LS 6 Hq.av ((out.1++out.2).take m7)) [] O .optt G (fun hc=>G5 O O) O (Do (Em i33) [] O .optt G (fun hc=>G5 O O) O (Do (.dptr (Hq.cs y33)) [45,46] O .optt ⟨Ua,Ua,G⟩ (fun hc=>Gs (f:=Hq.av) (xs:=((out.1++out.2).take m7)) (y:=y33) O O O Q5 hy33 O) O (Do (.agg [G0 y33.Kilos,G0 y33.X,G0 y33.Y,G0 y33.Z,G0 y33.Surface,E1 y33.Steps.1]) [47] O .optt ⟨Ua,G⟩ (fun hc=>Ha.cv (Cv.aggL (cs:=(Hq.cs y33)) ⟨.same,.same,.same,.same,.same,Cv.lst0 y33.Steps,G⟩) (Gi G3c O O O)) O (Do (Em i33) [] O .optt G (fun hc=>G5 O O) O ?_)))))))))))))
   refine Do (E8 l) [] O .optt G (fun hc=>G5 O O) O (Do (Em l.length) [50] O .optt ⟨Ua,G⟩ (fun hc=>Qx (f:=Gp.av) (xs:=l) Q5 O O) O (Do (G0 v40) [49,51] O .optt ⟨Ua,Ua,G⟩ (fun hc=>G6d (G1c (Gv hc hv40)) O O O) O (Do (.agg (Gp.cs r41)) [52] O .optt ⟨Ua,G⟩ (fun hc=>Gq (args:=[G0 1,G0 v40]) O (Gbe 1 v40 r41 (Gv hc hr41)) Q1e ⟨O,O,O,O,G⟩) O (Do (BL r42) [48,53] O .optt ⟨Ua,Ua,G⟩ (fun hc=>Gq (args:=[.agg [G0 y33.Kilos,G0 y33.X,G0 y33.Y,G0 y33.Z,G0 y33.Surface,E1 y33.Steps.1],.agg (Gp.cs r41)]) O (G57 (Gp.mk y33.Kilos y33.X y33.Y y33.Z y33.Surface y33.Steps.1) r41 r42 (Gv hc hr42)) J05 ⟨O,O,O,O,G⟩) O (Do (BL (!r42)) [54] O .optt ⟨Ua,G⟩ (fun hc=>R9 (b:=r42) O O) O (Dg (.opt (!((decide ((i33:Int) < (l.length:Int)))&&(!r39))) (BL ((decide ((l.length:Int)≤(i33:Int)))&&(!r42)))) (Gg [(44,BL (decide ((l.length:Int)≤(i33:Int)))),(55,_)] O O O .scf ⟨.all id,.part,G⟩ (fun hc=>J3 O O O O) O) O (Dq (BL (((decide ((i33:Int) < (l.length:Int)))&&(!r39))||((decide ((l.length:Int)≤(i33:Int)))&&(!r42)))) (Y7 O O O O) O (Dnil ?_))))))))
   refine hK37 (JCc O h (fun h hb=>?_) (fun h hb=>?_))
   ·
    refine Jr fun hK43=>(JLm (BL false) O (G8 (hK43 (Gt (fin1 BL h)))))
   ·
    refine Gm (hK36 (G2 (JLm (Em i33) O (JLh (G0 ((i33+1:Nat):Int)) (Hx (Hc hk33 hm19) O O O) O (JLm (G0 ((i33+1:Nat):Int)) O (G8 (e33 _ _ (i33+1) () (app1 hn33 h) (by omega) ⟨⟨.same rfl,.same rfl,.same rfl,G⟩,G,rfl⟩)))))))
  ·
   have h:=app1 hkx33 (Ht hi33 (H9 hb))
   refine Hd (hK8 (Jr fun hK44=>(JLm (BL true) O (G8 (hK44 (Gt (fin1 BL h)))))))

def G02 (x:Rb) (y:H8):Option Bool:=
 bnd (Zx (H8.mk (x.Columns.1.map H1.pl) (x.Covers.1.map Hf.pl) x.Light x.Rows.1 x.Frames.1 (x.Tanks.1.map Hq.pl) x.G3) y) fun r3=>
 bnd (bif r3 then Rm x.Columns y.Columns else some default) fun r4=>
 bnd (bif (r3&&r4) then Ry x.Covers y.Covers else some default) fun r5=>
 bnd (bif ((r3&&r4)&&r5) then Yk x.Rows y.Rows else some default) fun r6=>
 bnd (bif (((r3&&r4)&&r5)&&r6) then Rx x.Frames y.Frames else some default) fun r7=>
 bnd (bif ((((r3&&r4)&&r5)&&r6)&&r7) then Ye x.Tanks y.Tanks else some default) fun r8=>
 some (((((r3&&r4)&&r5)&&r6)&&r7)&&r8)
theorem H85 (x:Rb) (y:H8) (r:Bool) (h:G02 x y=some r):Pure En 37 [.agg (Rb.cs x),.agg (H8.cs y)] (·=BL r):=by
 unfold G02 at h
 refine H0 [.tmp 4] Tryz.func37 O O (Jr fun hK1=>(JLh (.ptr 1056 0) (Jq (cs:=(Rb.cs x)) 1056 O O O O O) O (JLh (.ptr 1057 0) (Jq (cs:=(H8.cs y)) 1057 O O O O O) O (JLm (BL false) O (G8 (hK1 ?_))))))
 refine Gx [(2,.dptr (Rb.cs x)),(3,.ptr 1057 0)] [(1057,.box 32 (H8.cs y))] 1056 rfl rfl rfl ⟨⟨_,rfl,.boxEq rfl rfl⟩,G⟩ rfl (by exact⟨.ptr,.conv (.same rfl),G⟩) (Gx [(2,.dptr (Rb.cs x)),(3,Ed y)] [] 1057 rfl rfl rfl G rfl (by exact⟨.conv (.same rfl),.ptr,G⟩) ?_)
 refine Jr fun hK2=>(JLh (.agg [E5 (x.Columns.1.map H1.pl),E4 (x.Covers.1.map Hf.pl),G0 x.Light.Kilos,G0 x.Light.X,G0 x.Light.Y,G0 x.Light.Z,E7 x.Rows.1,E6 x.Frames.1,E8 (x.Tanks.1.map Hq.pl),G0 x.G3.Tolerance,G0 x.G3.Trim,G0 x.G3.List_,G0 x.G3.Stability]) (Ha.cv (Cv.aggL (cs:=(Rb.cs x)) ⟨Cv.lstM (f:=H1.av) (g:=G4.av) H1.pl H1.cvl x.Columns,Cv.lstM (f:=Hf.av) (g:=Ge.av) Hf.pl Hf.cvl x.Covers,.same,.same,.same,.same,Cv.lst0 x.Rows,Cv.lst0 x.Frames,Cv.lstM (f:=Hq.av) (g:=Gp.av) Hq.pl Hq.cvl x.Tanks,.same,.same,.same,.same,G⟩) (Gi J1 O O O)) O (JLh (.agg (H8.cs y)) (Gi J1 O O O) O ?_))
 obtain⟨r3,hr3,h⟩:=Gf h
 refine JLh (BL r3) (Gq O (H7f (H8.mk (x.Columns.1.map H1.pl) (x.Covers.1.map Hf.pl) x.Light x.Rows.1 x.Frames.1 (x.Tanks.1.map Hq.pl) x.G3) y r3 hr3) Qdf ⟨O,O,O,O,G⟩) O (JLm (BL r3) O (JLo (.dptr (Rb.cs x)) [] O .sct G (fun hc=>Ga Hi O O O) O (JLo (LT 12 H1.av x.Columns) [9] O .sct ⟨Ua,G⟩ (fun hc=>Gh Ho O O O) O (JLo (Ed y) [] O .sct G (fun hc=>Ga Hi O O O) O (JLo (E5 y.Columns) [11] O .sct ⟨Ua,G⟩ (fun hc=>Gh Ho O O O) O ?_)))))
 obtain⟨r4,hr4,h⟩:=Gf h
 refine JLo (BL r4) [10,12] O .sct ⟨Ua,Ua,G⟩ (fun hc=>Gq (args:=[LT 12 H1.av x.Columns,E5 y.Columns]) O (H38 x.Columns y.Columns r4 (Gv hc hr4)) Qde ⟨O,O,O,O,G⟩) O (JLh (BL (r3&&r4)) (J3 O O O O) O (JLm (BL (r3&&r4)) O (JLo (.dptr ((Rb.cs x).drop 1)) [] O .sct G (fun hc=>Ga Jp O O O) O (JLo (LT 2 Hf.av x.Covers) [16] O .sct ⟨Ua,G⟩ (fun hc=>Gh Q4 O O O) O (JLo (.dptr ((H8.cs y).drop 1)) [] O .sct G (fun hc=>Ga Jp O O O) O (JLo (E4 y.Covers) [18] O .sct ⟨Ua,G⟩ (fun hc=>Gh Q4 O O O) O ?_))))))
 obtain⟨r5,hr5,h⟩:=Gf h
 refine JLo (BL r5) [17,19] O .sct ⟨Ua,Ua,G⟩ (fun hc=>Gq (args:=[LT 2 Hf.av x.Covers,E4 y.Covers]) O (H49 x.Covers y.Covers r5 (Gv hc hr5)) Qdd ⟨O,O,O,O,G⟩) O (JLh (BL ((r3&&r4)&&r5)) (J3 O O O O) O (JLm (BL ((r3&&r4)&&r5)) O (JLo (.dptr ((Rb.cs x).drop 6)) [] O .sct G (fun hc=>Ga G94 O O O) O (JLo (LT 5 Row.av x.Rows) [23] O .sct ⟨Ua,G⟩ (fun hc=>Gh Gef O O O) O (JLo (.dptr ((H8.cs y).drop 6)) [] O .sct G (fun hc=>Ga G94 O O O) O (JLo (E7 y.Rows) [25] O .sct ⟨Ua,G⟩ (fun hc=>Gh Gef O O O) O ?_))))))
 obtain⟨r6,hr6,h⟩:=Gf h
 refine JLo (BL r6) [24,26] O .sct ⟨Ua,Ua,G⟩ (fun hc=>Gq (args:=[LT 5 Row.av x.Rows,E7 y.Rows]) O (H86 x.Rows y.Rows r6 (Gv hc hr6)) Qdc ⟨O,O,O,O,G⟩) O (JLh (BL (((r3&&r4)&&r5)&&r6)) (J3 O O O O) O (JLm (BL (((r3&&r4)&&r5)&&r6)) O (JLo (.dptr ((Rb.cs x).drop 7)) [] O .sct G (fun hc=>Ga G93 O O O) O (JLo (LT 5 Frame.av x.Frames) [30] O .sct ⟨Ua,G⟩ (fun hc=>Gh Gee O O O) O (JLo (.dptr ((H8.cs y).drop 7)) [] O .sct G (fun hc=>Ga G93 O O O) O (JLo (E6 y.Frames) [32] O .sct ⟨Ua,G⟩ (fun hc=>Gh Gee O O O) O ?_))))))
 obtain⟨r7,hr7,h⟩:=Gf h
 refine JLo (BL r7) [31,33] O .sct ⟨Ua,Ua,G⟩ (fun hc=>Gq (args:=[LT 5 Frame.av x.Frames,E6 y.Frames]) O (H48 x.Frames y.Frames r7 (Gv hc hr7)) Qdb ⟨O,O,O,O,G⟩) O (JLh (BL ((((r3&&r4)&&r5)&&r6)&&r7)) (J3 O O O O) O (JLm (BL ((((r3&&r4)&&r5)&&r6)&&r7)) O (JLo (.dptr ((Rb.cs x).drop 8)) [] O .sct G (fun hc=>Ga G92 O O O) O (JLo (LT 6 Hq.av x.Tanks) [37] O .sct ⟨Ua,G⟩ (fun hc=>Gh Ged O O O) O (JLo (.dptr ((H8.cs y).drop 8)) [] O .sct G (fun hc=>Ga G92 O O O) O (JLo (E8 y.Tanks) [39] O .sct ⟨Ua,G⟩ (fun hc=>Gh Ged O O O) O ?_))))))
 obtain⟨r8,hr8,h⟩:=Gf h
 refine JLo (BL r8) [38,40] O .sct ⟨Ua,Ua,G⟩ (fun hc=>Gq (args:=[LT 6 Hq.av x.Tanks,E8 y.Tanks]) O (H72 x.Tanks y.Tanks r8 (Gv hc hr8)) Qda ⟨O,O,O,O,G⟩) O (JLh (BL (((((r3&&r4)&&r5)&&r6)&&r7)&&r8)) (J3 O O O O) O (JLm (BL (((((r3&&r4)&&r5)&&r6)&&r7)&&r8)) O (G8 (hK2 (Gt (fin1 BL h))))))

def Y6 (k:Int) (i:Int):Option H2:=
 bnd (Jw k i) fun r3=>
 some (H2.mk r3 ByteArray.empty 0 false 0 0 0 0 false)
theorem Gcd (k:Int) (i:Int) (r:H2) (h:Y6 k i=some r):Pure En 25 [G0 k,G0 i] (·=.agg (H2.cs r)):=by
 unfold Y6 at h
 refine H0 [.cell 4 58] Tryz.func25 O O (Jr fun hK1=>(JLh (.ptr 1037 0) (G15 1037 [G0 0,ST ByteArray.empty,U8 0,BL false,G0 0,G0 0,G0 0,U8 0,BL false] [.int .i64 0,.string ByteArray.empty,.int .u8 0,.bool false,.int .i64 0,.int .i64 0,.int .i64 0,.int .u8 0,.bool false] G9e ⟨.inl O,.inl O,.inl O,.inl O,.inl O,.inl O,.inl O,.inl O,.inl O,G⟩ O O) O (G8 (hK1 (Jr fun hK2=>(JLm (G0 k) O (JLm (G0 i) O ?_)))))))
 obtain⟨r3,hr3,h⟩:=Gf h
 refine JLh (G0 r3) (Gq O (Qn k i r3 hr3) G68 ⟨O,O,O,O,G⟩) O (JLh (.agg [G0 r3,ST ByteArray.empty,U8 0,BL false,G0 0,G0 0,G0 0,U8 0,BL false]) (Ji (cs:=[G0 r3,ST ByteArray.empty,U8 0,BL false,G0 0,G0 0,G0 0,U8 0,BL false]) [(0,1),(1,1),(2,1),(3,1),(4,1),(5,1),(6,1),(7,1),(8,1)] [G0 0,ST ByteArray.empty,U8 0,BL false,G0 0,G0 0,G0 0,U8 0,BL false] [.int .i64 0,.string ByteArray.empty,.int .u8 0,.bool false,.int .i64 0,.int .i64 0,.int .i64 0,.int .u8 0,.bool false] Gf0 G9e ⟨.inl O,.inl O,.inl O,.inl O,.inl O,.inl O,.inl O,.inl O,.inl O,G⟩ O O) O (Ja (u:=.junk) (J0 (u:=.agg [G0 r3,ST ByteArray.empty,U8 0,BL false,G0 0,G0 0,G0 0,U8 0,BL false]) (ds:=[G0 r3,ST ByteArray.empty,U8 0,BL false,G0 0,G0 0,G0 0,U8 0,BL false]) G7c O O O O O O O O) (G8 (hK2 ?_))))
 refine Gt (⟨[.agg [G0 r3,ST ByteArray.empty,U8 0,BL false,G0 0,G0 0,G0 0,U8 0,BL false]],[],G,O,⟨⟨_,⟨_,_,_,_,O,O,O,.inl ⟨G5b,O⟩⟩,.conv (.same O)⟩,G⟩,O,congrArg (fun r:H2=>(.agg (H2.cs r):AV)) (Option.some.inj h)⟩)

def Zo (l:List H2):Option (Ln H2):=
 Yn ((l.length:Int)+12) fun v3=>
 bnd (H3a v3) fun m4=>
 need (decide (64*m4≤281474976710656∧m4≤maxLen)) <|
 need (decide ((([]:List H2).length+l.length)*64≤140737488355328∧([]:List H2).length+l.length≤maxLen)) <|
 need (decide (12≤9223372036854775807)) <|
 upto (fun i19 (s19:(List H2)) nx19=>
  bnd (Y6 1 (i19:Int)) fun r23=>
  need (decide ((s19.length+[r23].length)*64≤140737488355328∧s19.length+[r23].length≤maxLen)) <|
  nx19 (s19++[r23]))
 (fun(s19:(List H2))=>
  bnd (G61 (l.length:Int) s19.length) fun m26=>
  some (s19.take m26,s19.drop m26)) (12:Int).toNat 0 (([]:List H2)++l)
theorem H71 (l:List H2) (r:(Ln H2)) (h:Zo l=some r):Pure En 7 [E3 l] (·=LT 9 H2.av r):=by
 unfold Zo at h
 refine H0 [.tmp 2] Tryz.func7 O O (Jr fun hK1=>(JLh (E3 ([]:List H2)) (Q2 9 O O) O (G8 (hK1 (Jr fun hK2=>(JLm (E3 l) O (JLl Jy O O O fun hm6=>?_)))))))
 obtain⟨v3,hv3,h⟩:=Jh h
 refine JLh (G0 v3) (Hx hv3 O O O) O ?_
 obtain⟨m4,hm4,h⟩:=Gf h
 obtain⟨ha5,h⟩:=Hz h
 refine JLh (OW 1011 9 H2.av ([]:List H2)) (Gb9 1011 O O O O Jy J54 O (G71 hm4) ha5) O (JLm (OW 1011 9 H2.av ([]:List H2)) O (G8 (hK2 (Jr fun hK6=>(JLm (OW 1011 9 H2.av ([]:List H2)) O (JLm (E3 l) O ?_))))))
 obtain⟨ha7,h⟩:=Hz h
 refine JLh (OW 1011 9 H2.av (([]:List H2)++l)) (G5c (f:=H2.av) (xs:=([]:List H2)) (ys:=l) O O O O Jy J54 ha7 (fun _=>O) (.inl O)) O (JLm (OW 1011 9 H2.av (([]:List H2)++l)) O (G8 (hK6 (Js fun hK8=>Jr fun hK9=>(JLm (G0 0) O (G8 (hK9 (Gk ?_))))))))
 obtain⟨hx19,h⟩:=Hz h
 obtain⟨b19,kx19,hb19,hkx19,h⟩:=G44 h
 refine H6 (fun i19 (s19:(List H2))=>upto b19 kx19 ((12:Int).toNat - i19) i19 s19=some r) (fun i19 s19=>[(0,E3 l),(3,OW 1011 9 H2.av s19),(4,Em i19)]) (fun i19 s19=>[(1011,.spare 58 9 s19.length s19.length)]) (fun i19=>(12:Int).toNat - i19) 0 (([]:List H2)++l) h ⟨⟨.same O,.same O,.same O,G⟩,⟨⟨_,O,.same⟩,G⟩,O⟩ ?_
 clear h
 intro i19 s19 hi19 K19 e19
 refine Js fun hK20=>Jr fun hK21=>(JLm (Em i19) O (JLh (BL (decide ((i19:Int) < 12))) (Hy O O O) O (G8 (hK21 (Gj O (fun hb=>?_) (fun hb=>?_))))))
 ·
  have hk19:=G0b hb
  obtain⟨nx19,hn19,h⟩:=G07 hi19 hk19
  replace h:=H9f hb19 h
  refine Gm (hK20 (Js fun hK22=>Gk (G2 (JLm (OW 1011 9 H2.av s19) O (JLm (Em i19) O ?_)))))
  obtain⟨r23,hr23,h⟩:=Gf h
  refine JLh (.agg (H2.cs r23)) (Gq O (Gcd 1 (i19:Int) r23 hr23) Q26 ⟨O,O,O,O,G⟩) O (JLh (E3 [r23]) (Hv (xs:=[.agg (H2.cs r23)]) O ⟨O,O,G⟩ Jy Gdf O O O O) O ?_)
  obtain⟨ha24,h⟩:=Hz h
  refine JLh (OW 1011 9 H2.av (s19++[r23])) (Y0 (f:=H2.av) (xs:=s19) (ys:=[r23]) O O O O Jy J54 ha24 (fun _=>O) (.inl O) O) O (JLm (OW 1011 9 H2.av (s19++[r23])) O (G8 (hK22 (G2 (JLm (Em i19) O (JLh (G0 ((i19+1:Nat):Int)) (Hx (Hc hk19 (Yt hx19)) O O O) O (JLm (G0 ((i19+1:Nat):Int)) O (G8 (e19 _ _ (i19+1) (s19++[r23]) (app1 hn19 h) (by omega) ⟨⟨.same rfl,.same rfl,.same rfl,G⟩,⟨⟨_,rfl,.same⟩,G⟩,rfl⟩)))))))))
 ·
  have h:=app1 hkx19 (G08 hi19 (Qr hb))
  refine Hd (hK8 (Jr fun hK25=>(JLm (OW 1011 9 H2.av s19) O (JLm (E3 l) O (JLl Jy O O O fun hm23=>?_)))))
  obtain⟨m26,hm26,h⟩:=Gf h
  refine JLh (LT 9 H2.av (s19.take m26,s19.drop m26)) (J9c (f:=H2.av) (xs:=s19) O O O Jy (Yv hm26)) O (JLm (LT 9 H2.av (s19.take m26,s19.drop m26)) O (G8 (hK25 (Gt (fin1 (fun r:(Ln H2)=>(LT 9 H2.av r:AV)) h)))))

def Zq (out:Ln H2) (l:List H2):Option Bool:=
 bif decide ((out.1.length:Int)≠(l.length:Int)) then
 (some false)
 else
 (Yn ((l.length:Int)+12) fun v6=>
  bnd (G61 v6 (out.1++out.2).length) fun m7=>
  each (fun y29 i29 (s29:Unit) nx29=>
   bnd (bif decide ((i29:Int) < (l.length:Int)) then Jc l (i29:Int) some else some default) fun y34=>
   bnd (bif ((!((decide ((i29:Int) < (l.length:Int)))&&(!(decide (y29=y34)))))&&(decide ((l.length:Int)≤(i29:Int)))) then Yn ((i29:Int) - (l.length:Int)) some else some 0) fun v35=>
   bnd (bif ((!((decide ((i29:Int) < (l.length:Int)))&&(!(decide (y29=y34)))))&&(decide ((l.length:Int)≤(i29:Int)))) then Y6 1 v35 else some default) fun r36=>
   bif (((decide ((i29:Int) < (l.length:Int)))&&(!(decide (y29=y34))))||((decide ((l.length:Int)≤(i29:Int)))&&(!(decide (y29=r36))))) then
   (some false)
   else
   (nx29 ()))
  (fun(s29:Unit)=>
   some true) ((out.1++out.2).take m7) 0 ())
theorem H75 (out:Ln H2) (l:List H2) (r:Bool) (h:Zq out l=some r):Pure En 13 [LT 9 H2.av out,E3 l] (·=BL r):=by
 unfold Zq at h
 refine H0 [.tmp 4] Tryz.func13 O O (Jr fun hK1=>(JLm (BL false) O (G8 (hK1 (Js fun hK2=>Jr fun hK3=>(JLm (LT 9 H2.av out) O (JLl Jy O O O fun hm8=>(JLm (E3 l) O (JLl Jy O O O fun hm10=>(JLh (BL (decide ((out.1.length:Int)≠(l.length:Int)))) (G56 O O O) O (G8 (hK3 (JCc O h (fun h hb=>?_) (fun h hb=>?_))))))))))))))
 ·
  refine Jr fun hK4=>(JLm (BL false) O (G8 (hK4 (Gt (fin1 BL h)))))
 ·
  refine Gm (hK2 (Jr fun hK5=>(JLm (LT 9 H2.av out) O (JLm (E3 l) O (JLl Jy O O O fun hm14=>?_)))))
  obtain⟨v6,hv6,h⟩:=Jh h
  refine JLh (G0 v6) (Hx hv6 O O O) O ?_
  obtain⟨m7,hm7,h⟩:=Gf h
  refine JLh (E3 ((out.1++out.2).take m7)) (H4f (f:=H2.av) (e:=out) O O O Jy (Yv hm7)) O (JLm (E3 ((out.1++out.2).take m7)) O (G8 (hK5 (Js fun hK8=>Jr fun hK9=>(JLm (G0 0) O (G8 (hK9 (Gk ?_))))))))
  obtain⟨b29,kx29,hb29,hkx29,h⟩:=J4 h
  refine H6 (fun i29 (s29:Unit)=>each b29 kx29 (List.drop i29 ((out.1++out.2).take m7)) i29 s29=some r) (fun i29 s29=>[(1,E3 l),(5,E3 ((out.1++out.2).take m7)),(6,Em i29)]) (fun i29 s29=>[]) (fun i29=>((out.1++out.2).take m7).length - i29) 0 () h ⟨⟨.same O,.same O,.same O,G⟩,G,O⟩ ?_
  clear h
  intro i29 s29 hi29 K29 e29
  refine Js fun hK30=>Jr fun hK31=>(JLm (Em i29) O (JLm (E3 ((out.1++out.2).take m7)) O (JLl Jy O O O fun hm19=>(JLh (BL (decide ((i29:Int) < (((out.1++out.2).take m7).length:Int)))) (Hy O O O) O (G8 (hK31 (Gj O (fun hb=>?_) (fun hb=>?_))))))))
  ·
   have hk29:=Je hb
   obtain⟨y29,nx29,hy29,hn29,h⟩:=Hs hi29 hk29
   replace h:=Y8 hb29 h
   refine Gm (hK30 (Js fun hK32=>Gk (Js fun hK33=>?_)))
   obtain⟨y34,hy34,h⟩:=Gf h
   obtain⟨v35,hv35,h⟩:=Gf h
   obtain⟨r36,hr36,h⟩:=Gf h
   refine JC_d0 Jb (by kernel_rfl) (Dq (Em i29) (G5 O O) O (Dq (E3 l) (G5 O O) O (Dq (Em l.length) (Qx (f:=H2.av) (xs:=l) Jy O O) O (Dq (BL (decide ((i29:Int) < (l.length:Int)))) (Hy O O O) O (Dq (BL (decide ((i29:Int) < (l.length:Int)))) (G5 O O) O (Do (E3 ((out.1++out.2).take m7)) [] O .sct G (fun hc=>G5 O O) O (Do (Em i29) [] O .sct G (fun hc=>G5 O O) O (Do (Eh y29) [28,29] O .sct ⟨Ua,Ua,G⟩ (fun hc=>Gs (f:=H2.av) (xs:=((out.1++out.2).take m7)) (y:=y29) O O O Jy hy29 O) O (Do (.agg (H2.cs y29)) [30] O .sct ⟨Ua,G⟩ (fun hc=>Gi G5b O O O) O (Do (E3 l) [] O .sct G (fun hc=>G5 O O) O (Do (Em i29) [] O .sct G (fun hc=>G5 O O) O (Do (Eh y34) [32,33] O .sct ⟨Ua,Ua,G⟩ (fun hc=>(match Jm (Gv hc hy34) with | ⟨_,hm_,hy_⟩=>Gs (f:=H2.av) (xs:=l) (y:=y34) O O O Jy hy_ hm_)) O (Do (.agg (H2.cs y34)) [34] O .sct ⟨Ua,G⟩ (fun hc=>Gi G5b O O O) O ?_)))))))))))))
   refine Do (BL (decide (y29=y34))) [31,35] O .sct ⟨Ua,Ua,G⟩ (fun hc=>G81 (vs:=[.int .i64 y29.ID,.string y29.Number,.int .u8 y29.Size,.bool y29.High,.int .i64 y29.Kilos,.int .i64 y29.Load,.int .i64 y29.Discharge,.int .u8 y29.Class,.bool y29.Reefer]) (us:=[.int .i64 y34.ID,.string y34.Number,.int .u8 y34.Size,.bool y34.High,.int .i64 y34.Kilos,.int .i64 y34.Load,.int .i64 y34.Discharge,.int .u8 y34.Class,.bool y34.Reefer]) 4 O (tq_58 y29 y34) Jcc Q6e O O O) O (Do (BL (!(decide (y29=y34)))) [36] O .sct ⟨Ua,G⟩ (fun hc=>R9 (b:=decide (y29=y34)) O O) O (Dq (BL ((decide ((i29:Int) < (l.length:Int)))&&(!(decide (y29=y34))))) (J3 O O O O) O (Dq (BL ((decide ((i29:Int) < (l.length:Int)))&&(!(decide (y29=y34))))) (G5 O O) O (Do (Em i29) [] O .scf G (fun hc=>G5 O O) O (Do (E3 l) [] O .scf G (fun hc=>G5 O O) O (Do (Em l.length) [41] O .scf ⟨Ua,G⟩ (fun hc=>Qx (f:=H2.av) (xs:=l) Jy O O) O (Do (BL (decide ((l.length:Int)≤(i29:Int)))) [40,42] O .scf ⟨Ua,Ua,G⟩ (fun hc=>G06 O O O) O (Do (BL (decide ((l.length:Int)≤(i29:Int)))) [43] O .scf ⟨Ua,G⟩ (fun hc=>G5 O O) O (Do (E3 ((out.1++out.2).take m7)) [] O .optt G (fun hc=>G5 O O) O (Do (Em i29) [] O .optt G (fun hc=>G5 O O) O (Do (Eh y29) [45,46] O .optt ⟨Ua,Ua,G⟩ (fun hc=>Gs (f:=H2.av) (xs:=((out.1++out.2).take m7)) (y:=y29) O O O Jy hy29 O) O (Do (.agg (H2.cs y29)) [47] O .optt ⟨Ua,G⟩ (fun hc=>Gi G5b O O O) O (Do (Em i29) [] O .optt G (fun hc=>G5 O O) O ?_)))))))))))))
   refine Do (E3 l) [] O .optt G (fun hc=>G5 O O) O (Do (Em l.length) [50] O .optt ⟨Ua,G⟩ (fun hc=>Qx (f:=H2.av) (xs:=l) Jy O O) O (Do (G0 v35) [49,51] O .optt ⟨Ua,Ua,G⟩ (fun hc=>G6d (G1c (Gv hc hv35)) O O O) O (Do (.agg (H2.cs r36)) [52] O .optt ⟨Ua,G⟩ (fun hc=>Gq (args:=[G0 1,G0 v35]) O (Gcd 1 v35 r36 (Gv hc hr36)) Q26 ⟨O,O,O,O,G⟩) O (Do (BL (decide (y29=r36))) [48,53] O .optt ⟨Ua,Ua,G⟩ (fun hc=>G81 (vs:=[.int .i64 y29.ID,.string y29.Number,.int .u8 y29.Size,.bool y29.High,.int .i64 y29.Kilos,.int .i64 y29.Load,.int .i64 y29.Discharge,.int .u8 y29.Class,.bool y29.Reefer]) (us:=[.int .i64 r36.ID,.string r36.Number,.int .u8 r36.Size,.bool r36.High,.int .i64 r36.Kilos,.int .i64 r36.Load,.int .i64 r36.Discharge,.int .u8 r36.Class,.bool r36.Reefer]) 4 O (tq_58 y29 r36) Jcc Q6e O O O) O (Do (BL (!(decide (y29=r36)))) [54] O .optt ⟨Ua,G⟩ (fun hc=>R9 (b:=decide (y29=r36)) O O) O (Dg (.opt (!((decide ((i29:Int) < (l.length:Int)))&&(!(decide (y29=y34))))) (BL ((decide ((l.length:Int)≤(i29:Int)))&&(!(decide (y29=r36)))))) (Gg [(44,BL (decide ((l.length:Int)≤(i29:Int)))),(55,_)] O O O .scf ⟨.all id,.part,G⟩ (fun hc=>J3 O O O O) O) O (Dq (BL (((decide ((i29:Int) < (l.length:Int)))&&(!(decide (y29=y34))))||((decide ((l.length:Int)≤(i29:Int)))&&(!(decide (y29=r36)))))) (Y7 O O O O) O (Dnil ?_))))))))
   refine hK33 (JCc O h (fun h hb=>?_) (fun h hb=>?_))
   ·
    refine Jr fun hK37=>(JLm (BL false) O (G8 (hK37 (Gt (fin1 BL h)))))
   ·
    refine Gm (hK32 (G2 (JLm (Em i29) O (JLh (G0 ((i29+1:Nat):Int)) (Hx (Hc hk29 hm19) O O O) O (JLm (G0 ((i29+1:Nat):Int)) O (G8 (e29 _ _ (i29+1) () (app1 hn29 h) (by omega) ⟨⟨.same rfl,.same rfl,.same rfl,G⟩,G,rfl⟩)))))))
  ·
   have h:=app1 hkx29 (Ht hi29 (H9 hb))
   refine Hd (hK8 (Jr fun hK38=>(JLm (BL true) O (G8 (hK38 (Gt (fin1 BL h)))))))

def R3 (k:Int) (i:Int):Option G6:=
 bnd (Jw k i) fun r3=>
 some (G6.mk r3 (Slot.mk 0 0 0))
theorem G9a (k:Int) (i:Int) (r:G6) (h:R3 k i=some r):Pure En 26 [G0 k,G0 i] (·=.agg (G6.cs r)):=by
 unfold R3 at h
 refine H0 [.cell 4 62] Tryz.func26 O O (Jr fun hK1=>(JLh (.ptr 1038 0) (G15 1038 [G0 0,G0 0,G0 0,U8 0] [.int .i64 0,.int .i64 0,.int .i64 0,.int .u8 0] Hcb ⟨.inl O,.inl O,.inl O,.inl O,G⟩ O O) O (G8 (hK1 (Jr fun hK2=>(JLm (G0 k) O (JLm (G0 i) O ?_)))))))
 obtain⟨r3,hr3,h⟩:=Gf h
 refine JLh (G0 r3) (Gq O (Qn k i r3 hr3) G68 ⟨O,O,O,O,G⟩) O (JLh (.agg [G0 r3,G0 0,G0 0,U8 0]) (Ji (cs:=[G0 r3,G0 0,G0 0,U8 0]) [(0,1),(1,3)] [G0 0,G0 0,G0 0,U8 0] [.int .i64 0,.int .i64 0,.int .i64 0,.int .u8 0] J74 Hcb ⟨.inl O,.inl O,.inl O,.inl O,G⟩ O O) O (Ja (u:=.junk) (J0 (u:=.agg [G0 r3,G0 0,G0 0,U8 0]) (ds:=[G0 r3,G0 0,G0 0,U8 0]) Z4 O O O O O O O O) (G8 (hK2 (Gt (⟨[.agg [G0 r3,G0 0,G0 0,U8 0]],[],G,O,⟨⟨_,⟨_,_,_,_,O,O,O,.inl ⟨Qv,O⟩⟩,.conv (.same O)⟩,G⟩,O,congrArg (fun r:G6=>(.agg (G6.cs r):AV)) (Option.some.inj h)⟩))))))

def Ri (l:List G6):Option (Ln G6):=
 Yn ((l.length:Int)+12) fun v3=>
 bnd (H3a v3) fun m4=>
 need (decide (32*m4≤281474976710656∧m4≤maxLen)) <|
 need (decide ((([]:List G6).length+l.length)*32≤140737488355328∧([]:List G6).length+l.length≤maxLen)) <|
 need (decide (12≤9223372036854775807)) <|
 upto (fun i19 (s19:(List G6)) nx19=>
  bnd (R3 1 (i19:Int)) fun r23=>
  need (decide ((s19.length+[r23].length)*32≤140737488355328∧s19.length+[r23].length≤maxLen)) <|
  nx19 (s19++[r23]))
 (fun(s19:(List G6))=>
  bnd (G61 (l.length:Int) s19.length) fun m26=>
  some (s19.take m26,s19.drop m26)) (12:Int).toNat 0 (([]:List G6)++l)
theorem G87 (l:List G6) (r:(Ln G6)) (h:Ri l=some r):Pure En 8 [E0 l] (·=LT 4 G6.av r):=by
 unfold Ri at h
 refine H0 [.tmp 2] Tryz.func8 O O (Jr fun hK1=>(JLh (E0 ([]:List G6)) (Q2 4 O O) O (G8 (hK1 (Jr fun hK2=>(JLm (E0 l) O (JLl Gz O O O fun hm6=>?_)))))))
 obtain⟨v3,hv3,h⟩:=Jh h
 refine JLh (G0 v3) (Hx hv3 O O O) O ?_
 obtain⟨m4,hm4,h⟩:=Gf h
 obtain⟨ha5,h⟩:=Hz h
 refine JLh (OW 1012 4 G6.av ([]:List G6)) (Gb9 1012 O O O O Gz H52 O (G71 hm4) ha5) O (JLm (OW 1012 4 G6.av ([]:List G6)) O (G8 (hK2 (Jr fun hK6=>(JLm (OW 1012 4 G6.av ([]:List G6)) O (JLm (E0 l) O ?_))))))
 obtain⟨ha7,h⟩:=Hz h
 refine JLh (OW 1012 4 G6.av (([]:List G6)++l)) (G5c (f:=G6.av) (xs:=([]:List G6)) (ys:=l) O O O O Gz H52 ha7 (fun _=>O) (.inl O)) O (JLm (OW 1012 4 G6.av (([]:List G6)++l)) O (G8 (hK6 (Js fun hK8=>Jr fun hK9=>(JLm (G0 0) O (G8 (hK9 (Gk ?_))))))))
 obtain⟨hx19,h⟩:=Hz h
 obtain⟨b19,kx19,hb19,hkx19,h⟩:=G44 h
 refine H6 (fun i19 (s19:(List G6))=>upto b19 kx19 ((12:Int).toNat - i19) i19 s19=some r) (fun i19 s19=>[(0,E0 l),(3,OW 1012 4 G6.av s19),(4,Em i19)]) (fun i19 s19=>[(1012,.spare 62 4 s19.length s19.length)]) (fun i19=>(12:Int).toNat - i19) 0 (([]:List G6)++l) h ⟨⟨.same O,.same O,.same O,G⟩,⟨⟨_,O,.same⟩,G⟩,O⟩ ?_
 clear h
 intro i19 s19 hi19 K19 e19
 refine Js fun hK20=>Jr fun hK21=>(JLm (Em i19) O (JLh (BL (decide ((i19:Int) < 12))) (Hy O O O) O (G8 (hK21 (Gj O (fun hb=>?_) (fun hb=>?_))))))
 ·
  have hk19:=G0b hb
  obtain⟨nx19,hn19,h⟩:=G07 hi19 hk19
  replace h:=H9f hb19 h
  refine Gm (hK20 (Js fun hK22=>Gk (G2 (JLm (OW 1012 4 G6.av s19) O (JLm (Em i19) O ?_)))))
  obtain⟨r23,hr23,h⟩:=Gf h
  refine JLh (.agg (G6.cs r23)) (Gq O (G9a 1 (i19:Int) r23 hr23) Q25 ⟨O,O,O,O,G⟩) O (JLh (E0 [r23]) (Hv (xs:=[.agg (G6.cs r23)]) O ⟨O,O,G⟩ Gz Rv O O O O) O ?_)
  obtain⟨ha24,h⟩:=Hz h
  refine JLh (OW 1012 4 G6.av (s19++[r23])) (Y0 (f:=G6.av) (xs:=s19) (ys:=[r23]) O O O O Gz H52 ha24 (fun _=>O) (.inl O) O) O (JLm (OW 1012 4 G6.av (s19++[r23])) O (G8 (hK22 (G2 (JLm (Em i19) O (JLh (G0 ((i19+1:Nat):Int)) (Hx (Hc hk19 (Yt hx19)) O O O) O (JLm (G0 ((i19+1:Nat):Int)) O (G8 (e19 _ _ (i19+1) (s19++[r23]) (app1 hn19 h) (by omega) ⟨⟨.same rfl,.same rfl,.same rfl,G⟩,⟨⟨_,rfl,.same⟩,G⟩,rfl⟩)))))))))
 ·
  have h:=app1 hkx19 (G08 hi19 (Qr hb))
  refine Hd (hK8 (Jr fun hK25=>(JLm (OW 1012 4 G6.av s19) O (JLm (E0 l) O (JLl Gz O O O fun hm23=>?_)))))
  obtain⟨m26,hm26,h⟩:=Gf h
  refine JLh (LT 4 G6.av (s19.take m26,s19.drop m26)) (J9c (f:=G6.av) (xs:=s19) O O O Gz (Yv hm26)) O (JLm (LT 4 G6.av (s19.take m26,s19.drop m26)) O (G8 (hK25 (Gt (fin1 (fun r:(Ln G6)=>(LT 4 G6.av r:AV)) h)))))

def Rk (out:Ln G6) (l:List G6):Option Bool:=
 bif decide ((out.1.length:Int)≠(l.length:Int)) then
 (some false)
 else
 (Yn ((l.length:Int)+12) fun v6=>
  bnd (G61 v6 (out.1++out.2).length) fun m7=>
  each (fun y29 i29 (s29:Unit) nx29=>
   bnd (bif decide ((i29:Int) < (l.length:Int)) then Jc l (i29:Int) some else some default) fun y34=>
   bnd (bif ((!((decide ((i29:Int) < (l.length:Int)))&&(!(decide (y29=y34)))))&&(decide ((l.length:Int)≤(i29:Int)))) then Yn ((i29:Int) - (l.length:Int)) some else some 0) fun v35=>
   bnd (bif ((!((decide ((i29:Int) < (l.length:Int)))&&(!(decide (y29=y34)))))&&(decide ((l.length:Int)≤(i29:Int)))) then R3 1 v35 else some default) fun r36=>
   bif (((decide ((i29:Int) < (l.length:Int)))&&(!(decide (y29=y34))))||((decide ((l.length:Int)≤(i29:Int)))&&(!(decide (y29=r36))))) then
   (some false)
   else
   (nx29 ()))
  (fun(s29:Unit)=>
   some true) ((out.1++out.2).take m7) 0 ())
theorem G88 (out:Ln G6) (l:List G6) (r:Bool) (h:Rk out l=some r):Pure En 14 [LT 4 G6.av out,E0 l] (·=BL r):=by
 unfold Rk at h
 refine H0 [.tmp 4] Tryz.func14 O O (Jr fun hK1=>(JLm (BL false) O (G8 (hK1 (Js fun hK2=>Jr fun hK3=>(JLm (LT 4 G6.av out) O (JLl Gz O O O fun hm8=>(JLm (E0 l) O (JLl Gz O O O fun hm10=>(JLh (BL (decide ((out.1.length:Int)≠(l.length:Int)))) (G56 O O O) O (G8 (hK3 (JCc O h (fun h hb=>?_) (fun h hb=>?_))))))))))))))
 ·
  refine Jr fun hK4=>(JLm (BL false) O (G8 (hK4 (Gt (fin1 BL h)))))
 ·
  refine Gm (hK2 (Jr fun hK5=>(JLm (LT 4 G6.av out) O (JLm (E0 l) O (JLl Gz O O O fun hm14=>?_)))))
  obtain⟨v6,hv6,h⟩:=Jh h
  refine JLh (G0 v6) (Hx hv6 O O O) O ?_
  obtain⟨m7,hm7,h⟩:=Gf h
  refine JLh (E0 ((out.1++out.2).take m7)) (H4f (f:=G6.av) (e:=out) O O O Gz (Yv hm7)) O (JLm (E0 ((out.1++out.2).take m7)) O (G8 (hK5 (Js fun hK8=>Jr fun hK9=>(JLm (G0 0) O (G8 (hK9 (Gk ?_))))))))
  obtain⟨b29,kx29,hb29,hkx29,h⟩:=J4 h
  refine H6 (fun i29 (s29:Unit)=>each b29 kx29 (List.drop i29 ((out.1++out.2).take m7)) i29 s29=some r) (fun i29 s29=>[(1,E0 l),(5,E0 ((out.1++out.2).take m7)),(6,Em i29)]) (fun i29 s29=>[]) (fun i29=>((out.1++out.2).take m7).length - i29) 0 () h ⟨⟨.same O,.same O,.same O,G⟩,G,O⟩ ?_
  clear h
  intro i29 s29 hi29 K29 e29
  refine Js fun hK30=>Jr fun hK31=>(JLm (Em i29) O (JLm (E0 ((out.1++out.2).take m7)) O (JLl Gz O O O fun hm19=>(JLh (BL (decide ((i29:Int) < (((out.1++out.2).take m7).length:Int)))) (Hy O O O) O (G8 (hK31 (Gj O (fun hb=>?_) (fun hb=>?_))))))))
  ·
   have hk29:=Je hb
   obtain⟨y29,nx29,hy29,hn29,h⟩:=Hs hi29 hk29
   replace h:=Y8 hb29 h
   refine Gm (hK30 (Js fun hK32=>Gk (Js fun hK33=>?_)))
   obtain⟨y34,hy34,h⟩:=Gf h
   obtain⟨v35,hv35,h⟩:=Gf h
   obtain⟨r36,hr36,h⟩:=Gf h
   refine JC_d0 Jb (by kernel_rfl) (Dq (Em i29) (G5 O O) O (Dq (E0 l) (G5 O O) O (Dq (Em l.length) (Qx (f:=G6.av) (xs:=l) Gz O O) O (Dq (BL (decide ((i29:Int) < (l.length:Int)))) (Hy O O O) O (Dq (BL (decide ((i29:Int) < (l.length:Int)))) (G5 O O) O (Do (E0 ((out.1++out.2).take m7)) [] O .sct G (fun hc=>G5 O O) O (Do (Em i29) [] O .sct G (fun hc=>G5 O O) O (Do (Ee y29) [28,29] O .sct ⟨Ua,Ua,G⟩ (fun hc=>Gs (f:=G6.av) (xs:=((out.1++out.2).take m7)) (y:=y29) O O O Gz hy29 O) O (Do (.agg (G6.cs y29)) [30] O .sct ⟨Ua,G⟩ (fun hc=>Gi Qv O O O) O (Do (E0 l) [] O .sct G (fun hc=>G5 O O) O (Do (Em i29) [] O .sct G (fun hc=>G5 O O) O (Do (Ee y34) [32,33] O .sct ⟨Ua,Ua,G⟩ (fun hc=>(match Jm (Gv hc hy34) with | ⟨_,hm_,hy_⟩=>Gs (f:=G6.av) (xs:=l) (y:=y34) O O O Gz hy_ hm_)) O (Do (.agg (G6.cs y34)) [34] O .sct ⟨Ua,G⟩ (fun hc=>Gi Qv O O O) O ?_)))))))))))))
   refine Do (BL (decide (y29=y34))) [31,35] O .sct ⟨Ua,Ua,G⟩ (fun hc=>G81 (vs:=[.int .i64 y29.H2,.int .i64 y29.Slot.G4,.int .i64 y29.Slot.Tier,.int .u8 y29.Slot.Half]) (us:=[.int .i64 y34.H2,.int .i64 y34.Slot.G4,.int .i64 y34.Slot.Tier,.int .u8 y34.Slot.Half]) 4 O (tq_62 y29 y34) Jcb Q6d O O O) O (Do (BL (!(decide (y29=y34)))) [36] O .sct ⟨Ua,G⟩ (fun hc=>R9 (b:=decide (y29=y34)) O O) O (Dq (BL ((decide ((i29:Int) < (l.length:Int)))&&(!(decide (y29=y34))))) (J3 O O O O) O (Dq (BL ((decide ((i29:Int) < (l.length:Int)))&&(!(decide (y29=y34))))) (G5 O O) O (Do (Em i29) [] O .scf G (fun hc=>G5 O O) O (Do (E0 l) [] O .scf G (fun hc=>G5 O O) O (Do (Em l.length) [41] O .scf ⟨Ua,G⟩ (fun hc=>Qx (f:=G6.av) (xs:=l) Gz O O) O (Do (BL (decide ((l.length:Int)≤(i29:Int)))) [40,42] O .scf ⟨Ua,Ua,G⟩ (fun hc=>G06 O O O) O (Do (BL (decide ((l.length:Int)≤(i29:Int)))) [43] O .scf ⟨Ua,G⟩ (fun hc=>G5 O O) O (Do (E0 ((out.1++out.2).take m7)) [] O .optt G (fun hc=>G5 O O) O (Do (Em i29) [] O .optt G (fun hc=>G5 O O) O (Do (Ee y29) [45,46] O .optt ⟨Ua,Ua,G⟩ (fun hc=>Gs (f:=G6.av) (xs:=((out.1++out.2).take m7)) (y:=y29) O O O Gz hy29 O) O (Do (.agg (G6.cs y29)) [47] O .optt ⟨Ua,G⟩ (fun hc=>Gi Qv O O O) O (Do (Em i29) [] O .optt G (fun hc=>G5 O O) O ?_)))))))))))))
   refine Do (E0 l) [] O .optt G (fun hc=>G5 O O) O (Do (Em l.length) [50] O .optt ⟨Ua,G⟩ (fun hc=>Qx (f:=G6.av) (xs:=l) Gz O O) O (Do (G0 v35) [49,51] O .optt ⟨Ua,Ua,G⟩ (fun hc=>G6d (G1c (Gv hc hv35)) O O O) O (Do (.agg (G6.cs r36)) [52] O .optt ⟨Ua,G⟩ (fun hc=>Gq (args:=[G0 1,G0 v35]) O (G9a 1 v35 r36 (Gv hc hr36)) Q25 ⟨O,O,O,O,G⟩) O (Do (BL (decide (y29=r36))) [48,53] O .optt ⟨Ua,Ua,G⟩ (fun hc=>G81 (vs:=[.int .i64 y29.H2,.int .i64 y29.Slot.G4,.int .i64 y29.Slot.Tier,.int .u8 y29.Slot.Half]) (us:=[.int .i64 r36.H2,.int .i64 r36.Slot.G4,.int .i64 r36.Slot.Tier,.int .u8 r36.Slot.Half]) 4 O (tq_62 y29 r36) Jcb Q6d O O O) O (Do (BL (!(decide (y29=r36)))) [54] O .optt ⟨Ua,G⟩ (fun hc=>R9 (b:=decide (y29=r36)) O O) O (Dg (.opt (!((decide ((i29:Int) < (l.length:Int)))&&(!(decide (y29=y34))))) (BL ((decide ((l.length:Int)≤(i29:Int)))&&(!(decide (y29=r36)))))) (Gg [(44,BL (decide ((l.length:Int)≤(i29:Int)))),(55,_)] O O O .scf ⟨.all id,.part,G⟩ (fun hc=>J3 O O O O) O) O (Dq (BL (((decide ((i29:Int) < (l.length:Int)))&&(!(decide (y29=y34))))||((decide ((l.length:Int)≤(i29:Int)))&&(!(decide (y29=r36)))))) (Y7 O O O O) O (Dnil ?_))))))))
   refine hK33 (JCc O h (fun h hb=>?_) (fun h hb=>?_))
   ·
    refine Jr fun hK37=>(JLm (BL false) O (G8 (hK37 (Gt (fin1 BL h)))))
   ·
    refine Gm (hK32 (G2 (JLm (Em i29) O (JLh (G0 ((i29+1:Nat):Int)) (Hx (Hc hk29 hm19) O O O) O (JLm (G0 ((i29+1:Nat):Int)) O (G8 (e29 _ _ (i29+1) () (app1 hn29 h) (by omega) ⟨⟨.same rfl,.same rfl,.same rfl,G⟩,G,rfl⟩)))))))
  ·
   have h:=app1 hkx29 (Ht hi29 (H9 hb))
   refine Hd (hK8 (Jr fun hK38=>(JLm (BL true) O (G8 (hK38 (Gt (fin1 BL h)))))))

def Rg (k:Int) (i:Int):Option Move:=
 bnd (Jw k i) fun r3=>
 some (Move.mk 0 r3 (Slot.mk 0 0 0) 0)
theorem Gbf (k:Int) (i:Int) (r:Move) (h:Rg k i=some r):Pure En 67 [G0 k,G0 i] (·=.agg (Move.cs r)):=by
 unfold Rg at h
 refine H0 [.cell 4 69] Tryz.func67 O O (Jr fun hK1=>(JLh (.ptr 1107 0) (G15 1107 [U8 0,G0 0,G0 0,G0 0,U8 0,G0 0] [.int .u8 0,.int .i64 0,.int .i64 0,.int .i64 0,.int .u8 0,.int .i64 0] G4f ⟨.inl O,.inl O,.inl O,.inl O,.inl O,.inl O,G⟩ O O) O (G8 (hK1 (Jr fun hK2=>(JLm (G0 k) O (JLm (G0 i) O ?_)))))))
 obtain⟨r3,hr3,h⟩:=Gf h
 refine JLh (G0 r3) (Gq O (Qn k i r3 hr3) G68 ⟨O,O,O,O,G⟩) O (JLh (.agg [U8 0,G0 r3,G0 0,G0 0,U8 0,G0 0]) (Ji (cs:=[U8 0,G0 r3,G0 0,G0 0,U8 0,G0 0]) [(0,1),(1,1),(2,3),(5,1)] [U8 0,G0 0,G0 0,G0 0,U8 0,G0 0] [.int .u8 0,.int .i64 0,.int .i64 0,.int .i64 0,.int .u8 0,.int .i64 0] G25 G4f ⟨.inl O,.inl O,.inl O,.inl O,.inl O,.inl O,G⟩ O O) O (Ja (u:=.junk) (J0 (u:=.agg [U8 0,G0 r3,G0 0,G0 0,U8 0,G0 0]) (ds:=[U8 0,G0 r3,G0 0,G0 0,U8 0,G0 0]) J51 O O O O O O O O) (G8 (hK2 (Gt (⟨[.agg [U8 0,G0 r3,G0 0,G0 0,U8 0,G0 0]],[],G,O,⟨⟨_,⟨_,_,_,_,O,O,O,.inl ⟨Gb1,O⟩⟩,.conv (.same O)⟩,G⟩,O,congrArg (fun r:Move=>(.agg (Move.cs r):AV)) (Option.some.inj h)⟩))))))

def Zm (l:List Move):Option (Ln Move):=
 Yn ((l.length:Int)+12) fun v3=>
 bnd (H3a v3) fun m4=>
 need (decide (48*m4≤281474976710656∧m4≤maxLen)) <|
 need (decide ((([]:List Move).length+l.length)*48≤140737488355328∧([]:List Move).length+l.length≤maxLen)) <|
 need (decide (12≤9223372036854775807)) <|
 upto (fun i19 (s19:(List Move)) nx19=>
  bnd (Rg 1 (i19:Int)) fun r23=>
  need (decide ((s19.length+[r23].length)*48≤140737488355328∧s19.length+[r23].length≤maxLen)) <|
  nx19 (s19++[r23]))
 (fun(s19:(List Move))=>
  bnd (G61 (l.length:Int) s19.length) fun m26=>
  some (s19.take m26,s19.drop m26)) (12:Int).toNat 0 (([]:List Move)++l)
theorem H6f (l:List Move) (r:(Ln Move)) (h:Zm l=some r):Pure En 32 [E2 l] (·=LT 6 Move.av r):=by
 unfold Zm at h
 refine H0 [.tmp 2] Tryz.func32 O O (Jr fun hK1=>(JLh (E2 ([]:List Move)) (Q2 6 O O) O (G8 (hK1 (Jr fun hK2=>(JLm (E2 l) O (JLl Hr O O O fun hm6=>?_)))))))
 obtain⟨v3,hv3,h⟩:=Jh h
 refine JLh (G0 v3) (Hx hv3 O O O) O ?_
 obtain⟨m4,hm4,h⟩:=Gf h
 obtain⟨ha5,h⟩:=Hz h
 refine JLh (OW 1052 6 Move.av ([]:List Move)) (Gb9 1052 O O O O Hr G22 O (G71 hm4) ha5) O (JLm (OW 1052 6 Move.av ([]:List Move)) O (G8 (hK2 (Jr fun hK6=>(JLm (OW 1052 6 Move.av ([]:List Move)) O (JLm (E2 l) O ?_))))))
 obtain⟨ha7,h⟩:=Hz h
 refine JLh (OW 1052 6 Move.av (([]:List Move)++l)) (G5c (f:=Move.av) (xs:=([]:List Move)) (ys:=l) O O O O Hr G22 ha7 (fun _=>O) (.inl O)) O (JLm (OW 1052 6 Move.av (([]:List Move)++l)) O (G8 (hK6 (Js fun hK8=>Jr fun hK9=>(JLm (G0 0) O (G8 (hK9 (Gk ?_))))))))
 obtain⟨hx19,h⟩:=Hz h
 obtain⟨b19,kx19,hb19,hkx19,h⟩:=G44 h
 refine H6 (fun i19 (s19:(List Move))=>upto b19 kx19 ((12:Int).toNat - i19) i19 s19=some r) (fun i19 s19=>[(0,E2 l),(3,OW 1052 6 Move.av s19),(4,Em i19)]) (fun i19 s19=>[(1052,.spare 69 6 s19.length s19.length)]) (fun i19=>(12:Int).toNat - i19) 0 (([]:List Move)++l) h ⟨⟨.same O,.same O,.same O,G⟩,⟨⟨_,O,.same⟩,G⟩,O⟩ ?_
 clear h
 intro i19 s19 hi19 K19 e19
 refine Js fun hK20=>Jr fun hK21=>(JLm (Em i19) O (JLh (BL (decide ((i19:Int) < 12))) (Hy O O O) O (G8 (hK21 (Gj O (fun hb=>?_) (fun hb=>?_))))))
 ·
  have hk19:=G0b hb
  obtain⟨nx19,hn19,h⟩:=G07 hi19 hk19
  replace h:=H9f hb19 h
  refine Gm (hK20 (Js fun hK22=>Gk (G2 (JLm (OW 1052 6 Move.av s19) O (JLm (Em i19) O ?_)))))
  obtain⟨r23,hr23,h⟩:=Gf h
  refine JLh (.agg (Move.cs r23)) (Gq O (Gbf 1 (i19:Int) r23 hr23) Q15 ⟨O,O,O,O,G⟩) O (JLh (E2 [r23]) (Hv (xs:=[.agg (Move.cs r23)]) O ⟨O,O,G⟩ Hr G7a O O O O) O ?_)
  obtain⟨ha24,h⟩:=Hz h
  refine JLh (OW 1052 6 Move.av (s19++[r23])) (Y0 (f:=Move.av) (xs:=s19) (ys:=[r23]) O O O O Hr G22 ha24 (fun _=>O) (.inl O) O) O (JLm (OW 1052 6 Move.av (s19++[r23])) O (G8 (hK22 (G2 (JLm (Em i19) O (JLh (G0 ((i19+1:Nat):Int)) (Hx (Hc hk19 (Yt hx19)) O O O) O (JLm (G0 ((i19+1:Nat):Int)) O (G8 (e19 _ _ (i19+1) (s19++[r23]) (app1 hn19 h) (by omega) ⟨⟨.same rfl,.same rfl,.same rfl,G⟩,⟨⟨_,rfl,.same⟩,G⟩,rfl⟩)))))))))
 ·
  have h:=app1 hkx19 (G08 hi19 (Qr hb))
  refine Hd (hK8 (Jr fun hK25=>(JLm (OW 1052 6 Move.av s19) O (JLm (E2 l) O (JLl Hr O O O fun hm23=>?_)))))
  obtain⟨m26,hm26,h⟩:=Gf h
  refine JLh (LT 6 Move.av (s19.take m26,s19.drop m26)) (J9c (f:=Move.av) (xs:=s19) O O O Hr (Yv hm26)) O (JLm (LT 6 Move.av (s19.take m26,s19.drop m26)) O (G8 (hK25 (Gt (fin1 (fun r:(Ln Move)=>(LT 6 Move.av r:AV)) h)))))

def Zp (out:Ln Move) (l:List Move):Option Bool:=
 bif decide ((out.1.length:Int)≠(l.length:Int)) then
 (some false)
 else
 (Yn ((l.length:Int)+12) fun v6=>
  bnd (G61 v6 (out.1++out.2).length) fun m7=>
  each (fun y29 i29 (s29:Unit) nx29=>
   bnd (bif decide ((i29:Int) < (l.length:Int)) then Jc l (i29:Int) some else some default) fun y34=>
   bnd (bif ((!((decide ((i29:Int) < (l.length:Int)))&&(!(decide (y29=y34)))))&&(decide ((l.length:Int)≤(i29:Int)))) then Yn ((i29:Int) - (l.length:Int)) some else some 0) fun v35=>
   bnd (bif ((!((decide ((i29:Int) < (l.length:Int)))&&(!(decide (y29=y34)))))&&(decide ((l.length:Int)≤(i29:Int)))) then Rg 1 v35 else some default) fun r36=>
   bif (((decide ((i29:Int) < (l.length:Int)))&&(!(decide (y29=y34))))||((decide ((l.length:Int)≤(i29:Int)))&&(!(decide (y29=r36))))) then
   (some false)
   else
   (nx29 ()))
  (fun(s29:Unit)=>
   some true) ((out.1++out.2).take m7) 0 ())
theorem H73 (out:Ln Move) (l:List Move) (r:Bool) (h:Zp out l=some r):Pure En 36 [LT 6 Move.av out,E2 l] (·=BL r):=by
 unfold Zp at h
 refine H0 [.tmp 4] Tryz.func36 O O (Jr fun hK1=>(JLm (BL false) O (G8 (hK1 (Js fun hK2=>Jr fun hK3=>(JLm (LT 6 Move.av out) O (JLl Hr O O O fun hm8=>(JLm (E2 l) O (JLl Hr O O O fun hm10=>(JLh (BL (decide ((out.1.length:Int)≠(l.length:Int)))) (G56 O O O) O (G8 (hK3 (JCc O h (fun h hb=>?_) (fun h hb=>?_))))))))))))))
 ·
  refine Jr fun hK4=>(JLm (BL false) O (G8 (hK4 (Gt (fin1 BL h)))))
 ·
  refine Gm (hK2 (Jr fun hK5=>(JLm (LT 6 Move.av out) O (JLm (E2 l) O (JLl Hr O O O fun hm14=>?_)))))
  obtain⟨v6,hv6,h⟩:=Jh h
  refine JLh (G0 v6) (Hx hv6 O O O) O ?_
  obtain⟨m7,hm7,h⟩:=Gf h
  refine JLh (E2 ((out.1++out.2).take m7)) (H4f (f:=Move.av) (e:=out) O O O Hr (Yv hm7)) O (JLm (E2 ((out.1++out.2).take m7)) O (G8 (hK5 (Js fun hK8=>Jr fun hK9=>(JLm (G0 0) O (G8 (hK9 (Gk ?_))))))))
  obtain⟨b29,kx29,hb29,hkx29,h⟩:=J4 h
  refine H6 (fun i29 (s29:Unit)=>each b29 kx29 (List.drop i29 ((out.1++out.2).take m7)) i29 s29=some r) (fun i29 s29=>[(1,E2 l),(5,E2 ((out.1++out.2).take m7)),(6,Em i29)]) (fun i29 s29=>[]) (fun i29=>((out.1++out.2).take m7).length - i29) 0 () h ⟨⟨.same O,.same O,.same O,G⟩,G,O⟩ ?_
  clear h
  intro i29 s29 hi29 K29 e29
  refine Js fun hK30=>Jr fun hK31=>(JLm (Em i29) O (JLm (E2 ((out.1++out.2).take m7)) O (JLl Hr O O O fun hm19=>(JLh (BL (decide ((i29:Int) < (((out.1++out.2).take m7).length:Int)))) (Hy O O O) O (G8 (hK31 (Gj O (fun hb=>?_) (fun hb=>?_))))))))
  ·
   have hk29:=Je hb
   obtain⟨y29,nx29,hy29,hn29,h⟩:=Hs hi29 hk29
   replace h:=Y8 hb29 h
   refine Gm (hK30 (Js fun hK32=>Gk (Js fun hK33=>?_)))
   obtain⟨y34,hy34,h⟩:=Gf h
   obtain⟨v35,hv35,h⟩:=Gf h
   obtain⟨r36,hr36,h⟩:=Gf h
   refine JC_d0 Jb (by kernel_rfl) (Dq (Em i29) (G5 O O) O (Dq (E2 l) (G5 O O) O (Dq (Em l.length) (Qx (f:=Move.av) (xs:=l) Hr O O) O (Dq (BL (decide ((i29:Int) < (l.length:Int)))) (Hy O O O) O (Dq (BL (decide ((i29:Int) < (l.length:Int)))) (G5 O O) O (Do (E2 ((out.1++out.2).take m7)) [] O .sct G (fun hc=>G5 O O) O (Do (Em i29) [] O .sct G (fun hc=>G5 O O) O (Do (Eg y29) [28,29] O .sct ⟨Ua,Ua,G⟩ (fun hc=>Gs (f:=Move.av) (xs:=((out.1++out.2).take m7)) (y:=y29) O O O Hr hy29 O) O (Do (.agg (Move.cs y29)) [30] O .sct ⟨Ua,G⟩ (fun hc=>Gi Gb1 O O O) O (Do (E2 l) [] O .sct G (fun hc=>G5 O O) O (Do (Em i29) [] O .sct G (fun hc=>G5 O O) O (Do (Eg y34) [32,33] O .sct ⟨Ua,Ua,G⟩ (fun hc=>(match Jm (Gv hc hy34) with | ⟨_,hm_,hy_⟩=>Gs (f:=Move.av) (xs:=l) (y:=y34) O O O Hr hy_ hm_)) O (Do (.agg (Move.cs y34)) [34] O .sct ⟨Ua,G⟩ (fun hc=>Gi Gb1 O O O) O ?_)))))))))))))
   refine Do (BL (decide (y29=y34))) [31,35] O .sct ⟨Ua,Ua,G⟩ (fun hc=>G81 (vs:=[.int .u8 y29.Kind,.int .i64 y29.H2,.int .i64 y29.Slot.G4,.int .i64 y29.Slot.Tier,.int .u8 y29.Slot.Half,.int .i64 y29.Ge]) (us:=[.int .u8 y34.Kind,.int .i64 y34.H2,.int .i64 y34.Slot.G4,.int .i64 y34.Slot.Tier,.int .u8 y34.Slot.Half,.int .i64 y34.Ge]) 4 O (tq_69 y29 y34) J0a Ja1 O O O) O (Do (BL (!(decide (y29=y34)))) [36] O .sct ⟨Ua,G⟩ (fun hc=>R9 (b:=decide (y29=y34)) O O) O (Dq (BL ((decide ((i29:Int) < (l.length:Int)))&&(!(decide (y29=y34))))) (J3 O O O O) O (Dq (BL ((decide ((i29:Int) < (l.length:Int)))&&(!(decide (y29=y34))))) (G5 O O) O (Do (Em i29) [] O .scf G (fun hc=>G5 O O) O (Do (E2 l) [] O .scf G (fun hc=>G5 O O) O (Do (Em l.length) [41] O .scf ⟨Ua,G⟩ (fun hc=>Qx (f:=Move.av) (xs:=l) Hr O O) O (Do (BL (decide ((l.length:Int)≤(i29:Int)))) [40,42] O .scf ⟨Ua,Ua,G⟩ (fun hc=>G06 O O O) O (Do (BL (decide ((l.length:Int)≤(i29:Int)))) [43] O .scf ⟨Ua,G⟩ (fun hc=>G5 O O) O (Do (E2 ((out.1++out.2).take m7)) [] O .optt G (fun hc=>G5 O O) O (Do (Em i29) [] O .optt G (fun hc=>G5 O O) O (Do (Eg y29) [45,46] O .optt ⟨Ua,Ua,G⟩ (fun hc=>Gs (f:=Move.av) (xs:=((out.1++out.2).take m7)) (y:=y29) O O O Hr hy29 O) O (Do (.agg (Move.cs y29)) [47] O .optt ⟨Ua,G⟩ (fun hc=>Gi Gb1 O O O) O (Do (Em i29) [] O .optt G (fun hc=>G5 O O) O ?_)))))))))))))
   refine Do (E2 l) [] O .optt G (fun hc=>G5 O O) O (Do (Em l.length) [50] O .optt ⟨Ua,G⟩ (fun hc=>Qx (f:=Move.av) (xs:=l) Hr O O) O (Do (G0 v35) [49,51] O .optt ⟨Ua,Ua,G⟩ (fun hc=>G6d (G1c (Gv hc hv35)) O O O) O (Do (.agg (Move.cs r36)) [52] O .optt ⟨Ua,G⟩ (fun hc=>Gq (args:=[G0 1,G0 v35]) O (Gbf 1 v35 r36 (Gv hc hr36)) Q15 ⟨O,O,O,O,G⟩) O (Do (BL (decide (y29=r36))) [48,53] O .optt ⟨Ua,Ua,G⟩ (fun hc=>G81 (vs:=[.int .u8 y29.Kind,.int .i64 y29.H2,.int .i64 y29.Slot.G4,.int .i64 y29.Slot.Tier,.int .u8 y29.Slot.Half,.int .i64 y29.Ge]) (us:=[.int .u8 r36.Kind,.int .i64 r36.H2,.int .i64 r36.Slot.G4,.int .i64 r36.Slot.Tier,.int .u8 r36.Slot.Half,.int .i64 r36.Ge]) 4 O (tq_69 y29 r36) J0a Ja1 O O O) O (Do (BL (!(decide (y29=r36)))) [54] O .optt ⟨Ua,G⟩ (fun hc=>R9 (b:=decide (y29=r36)) O O) O (Dg (.opt (!((decide ((i29:Int) < (l.length:Int)))&&(!(decide (y29=y34))))) (BL ((decide ((l.length:Int)≤(i29:Int)))&&(!(decide (y29=r36)))))) (Gg [(44,BL (decide ((l.length:Int)≤(i29:Int)))),(55,_)] O O O .scf ⟨.all id,.part,G⟩ (fun hc=>J3 O O O O) O) O (Dq (BL (((decide ((i29:Int) < (l.length:Int)))&&(!(decide (y29=y34))))||((decide ((l.length:Int)≤(i29:Int)))&&(!(decide (y29=r36)))))) (Y7 O O O O) O (Dnil ?_))))))))
   refine hK33 (JCc O h (fun h hb=>?_) (fun h hb=>?_))
   ·
    refine Jr fun hK37=>(JLm (BL false) O (G8 (hK37 (Gt (fin1 BL h)))))
   ·
    refine Gm (hK32 (G2 (JLm (Em i29) O (JLh (G0 ((i29+1:Nat):Int)) (Hx (Hc hk29 hm19) O O O) O (JLm (G0 ((i29+1:Nat):Int)) O (G8 (e29 _ _ (i29+1) () (app1 hn29 h) (by omega) ⟨⟨.same rfl,.same rfl,.same rfl,G⟩,G,rfl⟩)))))))
  ·
   have h:=app1 hkx29 (Ht hi29 (H9 hb))
   refine Hd (hK8 (Jr fun hK38=>(JLm (BL true) O (G8 (hK38 (Gt (fin1 BL h)))))))
end
end Go.Proofs.YteogacmpgdpjlaaGreat
