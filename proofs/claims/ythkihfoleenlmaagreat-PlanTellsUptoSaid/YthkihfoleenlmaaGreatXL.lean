/- Walks of functions. -/
import Derived.Test.YthkihfoleenlmaaGreatXLa
set_option maxRecDepth 100000
set_option maxHeartbeats 1000000
set_option linter.unusedVariables false
set_option linter.unusedSimpArgs false
namespace Go.Proofs.YthkihfoleenlmaaGreat
open Go.RowKit
noncomputable section
open XAF
open XLF

def Y2 (out:Ln Ha) (l:List H3):Option Bool:=
 bif decide ((out.1.length:Int)≠(l.length:Int)) then
 (some false)
 else
 (chk ((l.length:Int)+12) fun j=>
  bnd (cO j (out.1++out.2).length) fun k=>
  each (fun c a (e:Unit) d=>
   bnd (bif decide ((a:Int) < (l.length:Int)) then Jo l (a:Int) some else some default) fun f=>
   bnd (bif decide ((a:Int) < (l.length:Int)) then Yc c f else some default) fun b=>
   bnd (bif ((!((decide ((a:Int) < (l.length:Int)))&&(!b)))&&(decide ((l.length:Int)≤(a:Int)))) then chk ((a:Int) - (l.length:Int)) some else some 0) fun g=>
   bnd (bif ((!((decide ((a:Int) < (l.length:Int)))&&(!b)))&&(decide ((l.length:Int)≤(a:Int)))) then Rj 1 g else some default) fun h=>
   bnd (bif ((!((decide ((a:Int) < (l.length:Int)))&&(!b)))&&(decide ((l.length:Int)≤(a:Int)))) then Q5 (H3.mk c.Bay c.Rows.1) h else some default) fun i=>
   bif (((decide ((a:Int) < (l.length:Int)))&&(!b))||((decide ((l.length:Int)≤(a:Int)))&&(!i))) then
   (some false)
   else
   (d ()))
  (fun(e:Unit)=>
   some true) ((out.1++out.2).take k) 0 ())
theorem oF (out:Ln Ha) (l:List H3) (r:Bool) (h:Y2 out l=some r):Pure Ek 58 [LT 2 Ha.av out,E5 l] (·=BL r):=by
 unfold Y2 at h
 refine Gy [.tmp 4] Tryz.func58 G G (Jr fun a9=>(JLm (BL false) G (G5 (a9 (Js fun b0=>Jr fun b1=>(JLm (LT 2 Ha.av out) G (JLl J1 G G G fun c4=>(JLm (E5 l) G (JLl J1 G G G fun c0=>(JLh (BL (decide ((out.1.length:Int)≠(l.length:Int)))) (aH G G G) G (G5 (b1 (JCc G h (fun h hb=>?_) (fun h hb=>?_))))))))))))))
 ·
  refine Jr fun b2=>(JLm (BL false) G (G5 (b2 (Gs (fin1 BL h)))))
 ·
  refine Gn (b0 (Jr fun b3=>(JLm (LT 2 Ha.av out) G (JLm (E5 l) G (JLl J1 G G G fun c1=>?_)))))
  obtain⟨v6,b4,h⟩:=R2 h
  refine JLh (I64 v6) (Hs b4 G G G) G ?_
  obtain⟨i,b5,h⟩:=Gd h
  refine JLh (LS 2 Ha.av ((out.1++out.2).take i)) (mD (f:=Ha.av) (e:=out) G G G J1 (Rq b5)) G (JLm (LS 2 Ha.av ((out.1++out.2).take i)) G (G5 (b3 (Js fun b6=>Jr fun b7=>(JLm (I64 0) G (G5 (b7 (Gf ?_))))))))
  obtain⟨b8,t,u,s,h⟩:=Hy h
  refine H8 (fun a (m:Unit)=>each b8 t (List.drop a ((out.1++out.2).take i)) a m=some r) (fun a m=>[(1,E5 l),(5,LS 2 Ha.av ((out.1++out.2).take i)),(6,Ej a)]) (fun a m=>[]) (fun a=>((out.1++out.2).take i).length - a) 0 () h ⟨(.sm G G),U,G⟩ ?_
  clear h
  intro a m n c5 b9
  refine Js fun v=>Jr fun w=>(JLm (Ej a) G (JLm (LS 2 Ha.av ((out.1++out.2).take i)) G (JLl J1 G G G fun x=>(JLh (BL (decide ((a:Int) < (((out.1++out.2).take i).length:Int)))) (Hr G G G) G (G5 (w (Gg G (fun hb=>?_) (fun hb=>?_))))))))
  ·
   have o:=Je hb
   obtain⟨c,c3,p,z,h⟩:=Hh n o
   replace h:=Rx u h
   refine Gn (v (Js fun a0=>Gf (Js fun a1=>?_)))
   obtain⟨d,a2,h⟩:=Gd h
   obtain⟨g,a3,h⟩:=Gd h
   obtain⟨q,a4,h⟩:=Gd h
   obtain⟨j,a5,h⟩:=Gd h
   obtain⟨k,a6,h⟩:=Gd h
   refine JC_d0 Jd (by kernel_rfl) (Dq (Ej a) (G3 G G) G (Dq (E5 l) (G3 G G) G (Dq (Ej l.length) (Q8 (f:=H3.av) (xs:=l) J1 G G) G (Dq (BL (decide ((a:Int) < (l.length:Int)))) (Hr G G G) G (Dq (BL (decide ((a:Int) < (l.length:Int)))) (G3 G G) G (Do (LS 2 Ha.av ((out.1++out.2).take i)) [] G .sct U (fun hc=>G3 G G) G (Do (Ej a) [] G .sct U (fun hc=>G3 G G) G (Do (.dptr [I64 c.Bay,LT 1 I64 c.Rows]) [28,29] G .sct ⟨Ua,Ua,U⟩ (fun hc=>Gr (f:=Ha.av) (xs:=((out.1++out.2).take i)) (y:=c) G G G J1 p G) G (Do (.agg [I64 c.Bay,LT 1 I64 c.Rows]) [30] G .sct ⟨Ua,U⟩ (fun hc=>Gj Zd G G G) G (Do (E5 l) [] G .sct U (fun hc=>G3 G G) G (Do (Ej a) [] G .sct U (fun hc=>G3 G G) G (Do (.dptr [I64 d.Bay,E2 d.Rows]) [32,33] G .sct ⟨Ua,Ua,U⟩ (fun hc=>(match Jt (Gv hc a2) with | ⟨_,hm_,hy_⟩=>Gr (f:=H3.av) (xs:=l) (y:=d) G G G J1 hy_ hm_)) G (Do (.agg [I64 d.Bay,E2 d.Rows]) [34] G .sct ⟨Ua,U⟩ (fun hc=>Gj Zd G G G) G ?_)))))))))))))
   refine Do (BL g) [31,35] G .sct ⟨Ua,Ua,U⟩ (fun hc=>Gi (args:=[.agg [I64 c.Bay,LT 1 I64 c.Rows],.agg [I64 d.Bay,E2 d.Rows]]) G (pV c d g (Gv hc a3)) Ge9 ⟨G,G,G,G,U⟩) G (Do (BL (!g)) [36] G .sct ⟨Ua,U⟩ (fun hc=>Qj (b:=g) G G) G (Dq (BL ((decide ((a:Int) < (l.length:Int)))&&(!g))) (J9 G G G G) G (Dq (BL ((decide ((a:Int) < (l.length:Int)))&&(!g))) (G3 G G) G (Do (Ej a) [] G .scf U (fun hc=>G3 G G) G (Do (E5 l) [] G .scf U (fun hc=>G3 G G) G (Do (Ej l.length) [41] G .scf ⟨Ua,U⟩ (fun hc=>Q8 (f:=H3.av) (xs:=l) J1 G G) G (Do (BL (decide ((l.length:Int)≤(a:Int)))) [40,42] G .scf ⟨Ua,Ua,U⟩ (fun hc=>cH G G G) G (Do (BL (decide ((l.length:Int)≤(a:Int)))) [43] G .scf ⟨Ua,U⟩ (fun hc=>G3 G G) G (Do (LS 2 Ha.av ((out.1++out.2).take i)) [] G .optt U (fun hc=>G3 G G) G (Do (Ej a) [] G .optt U (fun hc=>G3 G G) G (Do (.dptr [I64 c.Bay,LT 1 I64 c.Rows]) [45,46] G .optt ⟨Ua,Ua,U⟩ (fun hc=>Gr (f:=Ha.av) (xs:=((out.1++out.2).take i)) (y:=c) G G G J1 p G) G (Do (.agg [I64 c.Bay,E2 c.Rows.1]) [47] G .optt ⟨Ua,U⟩ (fun hc=>H2.cv (Cv.aggL (cs:=[I64 c.Bay,LT 1 I64 c.Rows]) ⟨.same,Cv.lst0 c.Rows,U⟩) (Gj Zd G G G)) G (Do (Ej a) [] G .optt U (fun hc=>G3 G G) G ?_)))))))))))))
   refine Do (E5 l) [] G .optt U (fun hc=>G3 G G) G (Do (Ej l.length) [50] G .optt ⟨Ua,U⟩ (fun hc=>Q8 (f:=H3.av) (xs:=l) J1 G G) G (Do (I64 q) [49,51] G .optt ⟨Ua,Ua,U⟩ (fun hc=>kX (aM (Gv hc a4)) G G G) G (Do (.agg [I64 j.Bay,E2 j.Rows]) [52] G .optt ⟨Ua,U⟩ (fun hc=>Gi (args:=[I64 1,I64 q]) G (gY 1 q j (Gv hc a5)) ZM ⟨G,G,G,G,U⟩) G (Do (BL k) [48,53] G .optt ⟨Ua,Ua,U⟩ (fun hc=>Gi (args:=[.agg [I64 c.Bay,E2 c.Rows.1],.agg [I64 j.Bay,E2 j.Rows]]) G (dL (H3.mk c.Bay c.Rows.1) j k (Gv hc a6)) wA ⟨G,G,G,G,U⟩) G (Do (BL (!k)) [54] G .optt ⟨Ua,U⟩ (fun hc=>Qj (b:=k) G G) G (Dg (.opt (!((decide ((a:Int) < (l.length:Int)))&&(!g))) (BL ((decide ((l.length:Int)≤(a:Int)))&&(!k)))) (Gc [(44,BL (decide ((l.length:Int)≤(a:Int)))),(55,_)] G G G .scf ⟨.all id,.part,U⟩ (fun hc=>J9 G G G G) G) G (Dq (BL (((decide ((a:Int) < (l.length:Int)))&&(!g))||((decide ((l.length:Int)≤(a:Int)))&&(!k)))) (Rm G G G G) G (Dnil ?_))))))))
   refine a1 (JCc G h (fun h hb=>?_) (fun h hb=>?_))
   ·
    refine Jr fun a7=>(JLm (BL false) G (G5 (a7 (Gs (fin1 BL h)))))
   ·
    refine Gn (a0 (G1 (JLm (Ej a) G (JLh (I64 ((a+1:Nat):Int)) (Hs (Hb o x) G G G) G (JLm (I64 ((a+1:Nat):Int)) G (G5 (b9 _ _ (a+1) () (app1 z h) (by omega) ⟨(.sm G G),U,rfl⟩)))))))
  ·
   have h:=app1 s (Hi n (H6 hb))
   refine H9 (b6 (Jr fun a8=>(JLm (BL true) G (G5 (a8 (Gs (fin1 BL h)))))))

def Yk (out:Ln Row) (l:List Row):Option Bool:=
 bif decide ((out.1.length:Int)≠(l.length:Int)) then
 (some false)
 else
 (chk ((l.length:Int)+12) fun h=>
  bnd (cO h (out.1++out.2).length) fun i=>
  each (fun b a (e:Unit) d=>
   bnd (bif decide ((a:Int) < (l.length:Int)) then Jo l (a:Int) some else some default) fun c=>
   bnd (bif ((!((decide ((a:Int) < (l.length:Int)))&&(!(decide (b=c)))))&&(decide ((l.length:Int)≤(a:Int)))) then chk ((a:Int) - (l.length:Int)) some else some 0) fun f=>
   bnd (bif ((!((decide ((a:Int) < (l.length:Int)))&&(!(decide (b=c)))))&&(decide ((l.length:Int)≤(a:Int)))) then Y7 1 f else some default) fun g=>
   bif (((decide ((a:Int) < (l.length:Int)))&&(!(decide (b=c))))||((decide ((l.length:Int)≤(a:Int)))&&(!(decide (b=g))))) then
   (some false)
   else
   (d ()))
  (fun(e:Unit)=>
   some true) ((out.1++out.2).take i) 0 ())
theorem qM (out:Ln Row) (l:List Row) (r:Bool) (h:Yk out l=some r):Pure Ek 59 [LT 5 Row.av out,E8 l] (·=BL r):=by
 unfold Yk at h
 refine Gy [.tmp 4] Tryz.func59 G G (Jr fun a5=>(JLm (BL false) G (G5 (a5 (Js fun a6=>Jr fun a7=>(JLm (LT 5 Row.av out) G (JLl Qm G G G fun c0=>(JLm (E8 l) G (JLl Qm G G G fun b6=>(JLh (BL (decide ((out.1.length:Int)≠(l.length:Int)))) (aH G G G) G (G5 (a7 (JCc G h (fun h hb=>?_) (fun h hb=>?_))))))))))))))
 ·
  refine Jr fun a8=>(JLm (BL false) G (G5 (a8 (Gs (fin1 BL h)))))
 ·
  refine Gn (a6 (Jr fun a9=>(JLm (LT 5 Row.av out) G (JLm (E8 l) G (JLl Qm G G G fun b7=>?_)))))
  obtain⟨v6,b0,h⟩:=R2 h
  refine JLh (I64 v6) (Hs b0 G G G) G ?_
  obtain⟨i,b1,h⟩:=Gd h
  refine JLh (E8 ((out.1++out.2).take i)) (mD (f:=Row.av) (e:=out) G G G Qm (Rq b1)) G (JLm (E8 ((out.1++out.2).take i)) G (G5 (a9 (Js fun b2=>Jr fun b3=>(JLm (I64 0) G (G5 (b3 (Gf ?_))))))))
  obtain⟨b4,q,s,p,h⟩:=Hy h
  refine H8 (fun a (j:Unit)=>each b4 q (List.drop a ((out.1++out.2).take i)) a j=some r) (fun a j=>[(1,E8 l),(5,E8 ((out.1++out.2).take i)),(6,Ej a)]) (fun a j=>[]) (fun a=>((out.1++out.2).take i).length - a) 0 () h ⟨(.sm G G),U,G⟩ ?_
  clear h
  intro a j k c1 b5
  refine Js fun t=>Jr fun u=>(JLm (Ej a) G (JLm (E8 ((out.1++out.2).take i)) G (JLl Qm G G G fun v=>(JLh (BL (decide ((a:Int) < (((out.1++out.2).take i).length:Int)))) (Hr G G G) G (G5 (u (Gg G (fun hb=>?_) (fun hb=>?_))))))))
  ·
   have m:=Je hb
   obtain⟨c,b9,n,w,h⟩:=Hh k m
   replace h:=Rx s h
   refine Gn (t (Js fun x=>Gf (Js fun z=>?_)))
   obtain⟨d,a0,h⟩:=Gd h
   obtain⟨o,a1,h⟩:=Gd h
   obtain⟨g,a2,h⟩:=Gd h
   refine JC_d0 Jd (by kernel_rfl) (Dq (Ej a) (G3 G G) G (Dq (E8 l) (G3 G G) G (Dq (Ej l.length) (Q8 (f:=Row.av) (xs:=l) Qm G G) G (Dq (BL (decide ((a:Int) < (l.length:Int)))) (Hr G G G) G (Dq (BL (decide ((a:Int) < (l.length:Int)))) (G3 G G) G (Do (E8 ((out.1++out.2).take i)) [] G .sct U (fun hc=>G3 G G) G (Do (Ej a) [] G .sct U (fun hc=>G3 G G) G (Do (.dptr (Row.cs c)) [28,29] G .sct ⟨Ua,Ua,U⟩ (fun hc=>Gr (f:=Row.av) (xs:=((out.1++out.2).take i)) (y:=c) G G G Qm n G) G (Do (.agg (Row.cs c)) [30] G .sct ⟨Ua,U⟩ (fun hc=>Gj lG G G G) G (Do (E8 l) [] G .sct U (fun hc=>G3 G G) G (Do (Ej a) [] G .sct U (fun hc=>G3 G G) G (Do (.dptr (Row.cs d)) [32,33] G .sct ⟨Ua,Ua,U⟩ (fun hc=>(match Jt (Gv hc a0) with | ⟨_,hm_,hy_⟩=>Gr (f:=Row.av) (xs:=l) (y:=d) G G G Qm hy_ hm_)) G (Do (.agg (Row.cs d)) [34] G .sct ⟨Ua,U⟩ (fun hc=>Gj lG G G G) G ?_)))))))))))))
   refine Do (BL (decide (c=d))) [31,35] G .sct ⟨Ua,Ua,U⟩ (fun hc=>lA (vs:=[.int .i64 c.Draught,.int .i64 c.Kilos,.int .i64 c.Buoy,.int .i64 c.Metacentre,.int .i64 c.xU]) (us:=[.int .i64 d.Draught,.int .i64 d.Kilos,.int .i64 d.Buoy,.int .i64 d.Metacentre,.int .i64 d.xU]) 4 G (H4a c d) tY yO G G G) G (Do (BL (!(decide (c=d)))) [36] G .sct ⟨Ua,U⟩ (fun hc=>Qj (b:=decide (c=d)) G G) G (Dq (BL ((decide ((a:Int) < (l.length:Int)))&&(!(decide (c=d))))) (J9 G G G G) G (Dq (BL ((decide ((a:Int) < (l.length:Int)))&&(!(decide (c=d))))) (G3 G G) G (Do (Ej a) [] G .scf U (fun hc=>G3 G G) G (Do (E8 l) [] G .scf U (fun hc=>G3 G G) G (Do (Ej l.length) [41] G .scf ⟨Ua,U⟩ (fun hc=>Q8 (f:=Row.av) (xs:=l) Qm G G) G (Do (BL (decide ((l.length:Int)≤(a:Int)))) [40,42] G .scf ⟨Ua,Ua,U⟩ (fun hc=>cH G G G) G (Do (BL (decide ((l.length:Int)≤(a:Int)))) [43] G .scf ⟨Ua,U⟩ (fun hc=>G3 G G) G (Do (E8 ((out.1++out.2).take i)) [] G .optt U (fun hc=>G3 G G) G (Do (Ej a) [] G .optt U (fun hc=>G3 G G) G (Do (.dptr (Row.cs c)) [45,46] G .optt ⟨Ua,Ua,U⟩ (fun hc=>Gr (f:=Row.av) (xs:=((out.1++out.2).take i)) (y:=c) G G G Qm n G) G (Do (.agg (Row.cs c)) [47] G .optt ⟨Ua,U⟩ (fun hc=>Gj lG G G G) G (Do (Ej a) [] G .optt U (fun hc=>G3 G G) G ?_)))))))))))))
   refine Do (E8 l) [] G .optt U (fun hc=>G3 G G) G (Do (Ej l.length) [50] G .optt ⟨Ua,U⟩ (fun hc=>Q8 (f:=Row.av) (xs:=l) Qm G G) G (Do (I64 o) [49,51] G .optt ⟨Ua,Ua,U⟩ (fun hc=>kX (aM (Gv hc a1)) G G G) G (Do (.agg (Row.cs g)) [52] G .optt ⟨Ua,U⟩ (fun hc=>Gi (args:=[I64 1,I64 o]) G (iV 1 o g (Gv hc a2)) ZL ⟨G,G,G,G,U⟩) G (Do (BL (decide (c=g))) [48,53] G .optt ⟨Ua,Ua,U⟩ (fun hc=>lA (vs:=[.int .i64 c.Draught,.int .i64 c.Kilos,.int .i64 c.Buoy,.int .i64 c.Metacentre,.int .i64 c.xU]) (us:=[.int .i64 g.Draught,.int .i64 g.Kilos,.int .i64 g.Buoy,.int .i64 g.Metacentre,.int .i64 g.xU]) 4 G (H4a c g) tY yO G G G) G (Do (BL (!(decide (c=g)))) [54] G .optt ⟨Ua,U⟩ (fun hc=>Qj (b:=decide (c=g)) G G) G (Dg (.opt (!((decide ((a:Int) < (l.length:Int)))&&(!(decide (c=d))))) (BL ((decide ((l.length:Int)≤(a:Int)))&&(!(decide (c=g)))))) (Gc [(44,BL (decide ((l.length:Int)≤(a:Int)))),(55,_)] G G G .scf ⟨.all id,.part,U⟩ (fun hc=>J9 G G G G) G) G (Dq (BL (((decide ((a:Int) < (l.length:Int)))&&(!(decide (c=d))))||((decide ((l.length:Int)≤(a:Int)))&&(!(decide (c=g)))))) (Rm G G G G) G (Dnil ?_))))))))
   refine z (JCc G h (fun h hb=>?_) (fun h hb=>?_))
   ·
    refine Jr fun a3=>(JLm (BL false) G (G5 (a3 (Gs (fin1 BL h)))))
   ·
    refine Gn (x (G1 (JLm (Ej a) G (JLh (I64 ((a+1:Nat):Int)) (Hs (Hb m v) G G G) G (JLm (I64 ((a+1:Nat):Int)) G (G5 (b5 _ _ (a+1) () (app1 w h) (by omega) ⟨(.sm G G),U,rfl⟩)))))))
  ·
   have h:=app1 p (Hi k (H6 hb))
   refine H9 (b2 (Jr fun a4=>(JLm (BL true) G (G5 (a4 (Gs (fin1 BL h)))))))

def Y1 (out:Ln Frame) (l:List Frame):Option Bool:=
 bif decide ((out.1.length:Int)≠(l.length:Int)) then
 (some false)
 else
 (chk ((l.length:Int)+12) fun h=>
  bnd (cO h (out.1++out.2).length) fun i=>
  each (fun b a (e:Unit) d=>
   bnd (bif decide ((a:Int) < (l.length:Int)) then Jo l (a:Int) some else some default) fun c=>
   bnd (bif ((!((decide ((a:Int) < (l.length:Int)))&&(!(decide (b=c)))))&&(decide ((l.length:Int)≤(a:Int)))) then chk ((a:Int) - (l.length:Int)) some else some 0) fun f=>
   bnd (bif ((!((decide ((a:Int) < (l.length:Int)))&&(!(decide (b=c)))))&&(decide ((l.length:Int)≤(a:Int)))) then Ri 1 f else some default) fun g=>
   bif (((decide ((a:Int) < (l.length:Int)))&&(!(decide (b=c))))||((decide ((l.length:Int)≤(a:Int)))&&(!(decide (b=g))))) then
   (some false)
   else
   (d ()))
  (fun(e:Unit)=>
   some true) ((out.1++out.2).take i) 0 ())
theorem oE (out:Ln Frame) (l:List Frame) (r:Bool) (h:Y1 out l=some r):Pure Ek 60 [LT 5 Frame.av out,E7 l] (·=BL r):=by
 unfold Y1 at h
 refine Gy [.tmp 4] Tryz.func60 G G (Jr fun a5=>(JLm (BL false) G (G5 (a5 (Js fun a6=>Jr fun a7=>(JLm (LT 5 Frame.av out) G (JLl Qk G G G fun c0=>(JLm (E7 l) G (JLl Qk G G G fun b6=>(JLh (BL (decide ((out.1.length:Int)≠(l.length:Int)))) (aH G G G) G (G5 (a7 (JCc G h (fun h hb=>?_) (fun h hb=>?_))))))))))))))
 ·
  refine Jr fun a8=>(JLm (BL false) G (G5 (a8 (Gs (fin1 BL h)))))
 ·
  refine Gn (a6 (Jr fun a9=>(JLm (LT 5 Frame.av out) G (JLm (E7 l) G (JLl Qk G G G fun b7=>?_)))))
  obtain⟨v6,b0,h⟩:=R2 h
  refine JLh (I64 v6) (Hs b0 G G G) G ?_
  obtain⟨i,b1,h⟩:=Gd h
  refine JLh (E7 ((out.1++out.2).take i)) (mD (f:=Frame.av) (e:=out) G G G Qk (Rq b1)) G (JLm (E7 ((out.1++out.2).take i)) G (G5 (a9 (Js fun b2=>Jr fun b3=>(JLm (I64 0) G (G5 (b3 (Gf ?_))))))))
  obtain⟨b4,q,s,p,h⟩:=Hy h
  refine H8 (fun a (j:Unit)=>each b4 q (List.drop a ((out.1++out.2).take i)) a j=some r) (fun a j=>[(1,E7 l),(5,E7 ((out.1++out.2).take i)),(6,Ej a)]) (fun a j=>[]) (fun a=>((out.1++out.2).take i).length - a) 0 () h ⟨(.sm G G),U,G⟩ ?_
  clear h
  intro a j k c1 b5
  refine Js fun t=>Jr fun u=>(JLm (Ej a) G (JLm (E7 ((out.1++out.2).take i)) G (JLl Qk G G G fun v=>(JLh (BL (decide ((a:Int) < (((out.1++out.2).take i).length:Int)))) (Hr G G G) G (G5 (u (Gg G (fun hb=>?_) (fun hb=>?_))))))))
  ·
   have m:=Je hb
   obtain⟨c,b9,n,w,h⟩:=Hh k m
   replace h:=Rx s h
   refine Gn (t (Js fun x=>Gf (Js fun z=>?_)))
   obtain⟨d,a0,h⟩:=Gd h
   obtain⟨o,a1,h⟩:=Gd h
   obtain⟨g,a2,h⟩:=Gd h
   refine JC_d0 Jd (by kernel_rfl) (Dq (Ej a) (G3 G G) G (Dq (E7 l) (G3 G G) G (Dq (Ej l.length) (Q8 (f:=Frame.av) (xs:=l) Qk G G) G (Dq (BL (decide ((a:Int) < (l.length:Int)))) (Hr G G G) G (Dq (BL (decide ((a:Int) < (l.length:Int)))) (G3 G G) G (Do (E7 ((out.1++out.2).take i)) [] G .sct U (fun hc=>G3 G G) G (Do (Ej a) [] G .sct U (fun hc=>G3 G G) G (Do (.dptr (Frame.cs c)) [28,29] G .sct ⟨Ua,Ua,U⟩ (fun hc=>Gr (f:=Frame.av) (xs:=((out.1++out.2).take i)) (y:=c) G G G Qk n G) G (Do (.agg (Frame.cs c)) [30] G .sct ⟨Ua,U⟩ (fun hc=>Gj lF G G G) G (Do (E7 l) [] G .sct U (fun hc=>G3 G G) G (Do (Ej a) [] G .sct U (fun hc=>G3 G G) G (Do (.dptr (Frame.cs d)) [32,33] G .sct ⟨Ua,Ua,U⟩ (fun hc=>(match Jt (Gv hc a0) with | ⟨_,hm_,hy_⟩=>Gr (f:=Frame.av) (xs:=l) (y:=d) G G G Qk hy_ hm_)) G (Do (.agg (Frame.cs d)) [34] G .sct ⟨Ua,U⟩ (fun hc=>Gj lF G G G) G ?_)))))))))))))
   refine Do (BL (decide (c=d))) [31,35] G .sct ⟨Ua,Ua,U⟩ (fun hc=>lA (vs:=[.int .i64 c.X,.int .i64 c.Light,.int .i64 c.Share,.int .i64 c.Shear,.int .i64 c.Bend]) (us:=[.int .i64 d.X,.int .i64 d.Light,.int .i64 d.Share,.int .i64 d.Shear,.int .i64 d.Bend]) 4 G (H49 c d) tX yN G G G) G (Do (BL (!(decide (c=d)))) [36] G .sct ⟨Ua,U⟩ (fun hc=>Qj (b:=decide (c=d)) G G) G (Dq (BL ((decide ((a:Int) < (l.length:Int)))&&(!(decide (c=d))))) (J9 G G G G) G (Dq (BL ((decide ((a:Int) < (l.length:Int)))&&(!(decide (c=d))))) (G3 G G) G (Do (Ej a) [] G .scf U (fun hc=>G3 G G) G (Do (E7 l) [] G .scf U (fun hc=>G3 G G) G (Do (Ej l.length) [41] G .scf ⟨Ua,U⟩ (fun hc=>Q8 (f:=Frame.av) (xs:=l) Qk G G) G (Do (BL (decide ((l.length:Int)≤(a:Int)))) [40,42] G .scf ⟨Ua,Ua,U⟩ (fun hc=>cH G G G) G (Do (BL (decide ((l.length:Int)≤(a:Int)))) [43] G .scf ⟨Ua,U⟩ (fun hc=>G3 G G) G (Do (E7 ((out.1++out.2).take i)) [] G .optt U (fun hc=>G3 G G) G (Do (Ej a) [] G .optt U (fun hc=>G3 G G) G (Do (.dptr (Frame.cs c)) [45,46] G .optt ⟨Ua,Ua,U⟩ (fun hc=>Gr (f:=Frame.av) (xs:=((out.1++out.2).take i)) (y:=c) G G G Qk n G) G (Do (.agg (Frame.cs c)) [47] G .optt ⟨Ua,U⟩ (fun hc=>Gj lF G G G) G (Do (Ej a) [] G .optt U (fun hc=>G3 G G) G ?_)))))))))))))
   refine Do (E7 l) [] G .optt U (fun hc=>G3 G G) G (Do (Ej l.length) [50] G .optt ⟨Ua,U⟩ (fun hc=>Q8 (f:=Frame.av) (xs:=l) Qk G G) G (Do (I64 o) [49,51] G .optt ⟨Ua,Ua,U⟩ (fun hc=>kX (aM (Gv hc a1)) G G G) G (Do (.agg (Frame.cs g)) [52] G .optt ⟨Ua,U⟩ (fun hc=>Gi (args:=[I64 1,I64 o]) G (gX 1 o g (Gv hc a2)) ZK ⟨G,G,G,G,U⟩) G (Do (BL (decide (c=g))) [48,53] G .optt ⟨Ua,Ua,U⟩ (fun hc=>lA (vs:=[.int .i64 c.X,.int .i64 c.Light,.int .i64 c.Share,.int .i64 c.Shear,.int .i64 c.Bend]) (us:=[.int .i64 g.X,.int .i64 g.Light,.int .i64 g.Share,.int .i64 g.Shear,.int .i64 g.Bend]) 4 G (H49 c g) tX yN G G G) G (Do (BL (!(decide (c=g)))) [54] G .optt ⟨Ua,U⟩ (fun hc=>Qj (b:=decide (c=g)) G G) G (Dg (.opt (!((decide ((a:Int) < (l.length:Int)))&&(!(decide (c=d))))) (BL ((decide ((l.length:Int)≤(a:Int)))&&(!(decide (c=g)))))) (Gc [(44,BL (decide ((l.length:Int)≤(a:Int)))),(55,_)] G G G .scf ⟨.all id,.part,U⟩ (fun hc=>J9 G G G G) G) G (Dq (BL (((decide ((a:Int) < (l.length:Int)))&&(!(decide (c=d))))||((decide ((l.length:Int)≤(a:Int)))&&(!(decide (c=g)))))) (Rm G G G G) G (Dnil ?_))))))))
   refine z (JCc G h (fun h hb=>?_) (fun h hb=>?_))
   ·
    refine Jr fun a3=>(JLm (BL false) G (G5 (a3 (Gs (fin1 BL h)))))
   ·
    refine Gn (x (G1 (JLm (Ej a) G (JLh (I64 ((a+1:Nat):Int)) (Hs (Hb m v) G G G) G (JLm (I64 ((a+1:Nat):Int)) G (G5 (b5 _ _ (a+1) () (app1 w h) (by omega) ⟨(.sm G G),U,rfl⟩)))))))
  ·
   have h:=app1 p (Hi k (H6 hb))
   refine H9 (b2 (Jr fun a4=>(JLm (BL true) G (G5 (a4 (Gs (fin1 BL h)))))))

def Yj (x:Hj) (y:Hg):Option Bool:=
 bnd (Qa (Hg.mk x.Kilos x.X x.Y x.Z x.Surface x.Steps.1) y) fun a=>
 bnd (bif a then Jb x.Steps y.Steps else some default) fun b=>
 some (a&&b)
abbrev Ku (y:Hg):List AV:=[I64 y.Kilos,I64 y.X,I64 y.Y,I64 y.Z,I64 y.Surface,E2 y.Steps]
theorem qK (x:Hj) (y:Hg) (r:Bool) (h:Yj x y=some r):Pure Ek 137 [.agg (Hj.cs x),.agg (Hg.cs y)] (·=BL r):=by
 unfold Yj at h
 refine Gy [.tmp 4] Tryz.func137 G G (Jr fun c=>(JLh (.ptr 1150 0) (Jy (cs:=[I64 x.Kilos,I64 x.X,I64 x.Y,I64 x.Z,I64 x.Surface,LT 1 I64 x.Steps]) 1150 G G G G G) G (JLh (.ptr 1151 0) (Jy (cs:=(Ku y)) 1151 G G G G G) G (JLm (BL false) G (G5 (c (Gw [(2,.dptr (Hj.cs x)),(3,.ptr 1151 0)] [(1151,.box 177 (Ku y))] 1150 rfl rfl rfl ⟨⟨_,rfl,.boxEq rfl rfl⟩,U⟩ rfl (by exact⟨.ptr,.conv (.same rfl),U⟩) (Gw [(2,.dptr (Hj.cs x)),(3,Ei y)] [] 1151 rfl rfl rfl U rfl (by exact⟨.conv (.same rfl),.ptr,U⟩) ?_))))))))
 refine Jr fun d=>(JLh (.agg [I64 x.Kilos,I64 x.X,I64 x.Y,I64 x.Z,I64 x.Surface,E2 x.Steps.1]) (H2.cv (Cv.aggL (cs:=(Hj.cs x)) ⟨.same,.same,.same,.same,.same,Cv.lst0 x.Steps,U⟩) (Gj cK G G G)) G (JLh (.agg (Hg.cs y)) (Gj cK G G G) G ?_))
 obtain⟨a,e,h⟩:=Gd h
 refine JLh (BL a) (Gi G (dS (Hg.mk x.Kilos x.X x.Y x.Z x.Surface x.Steps.1) y a e) vY ⟨G,G,G,G,U⟩) G (JLm (BL a) G (JLo (.dptr [LT 1 I64 x.Steps]) [] G .sct U (fun hc=>Ga eV G G G) G (JLo (LT 1 I64 x.Steps) [9] G .sct ⟨Ua,U⟩ (fun hc=>Ge He G G G) G (JLo (.dptr [E2 y.Steps]) [] G .sct U (fun hc=>Ga eV G G G) G (JLo (E2 y.Steps) [11] G .sct ⟨Ua,U⟩ (fun hc=>Ge He G G G) G ?_)))))
 obtain⟨b,f,h⟩:=Gd h
 refine JLo (BL b) [10,12] G .sct ⟨Ua,Ua,U⟩ (fun hc=>Gi (args:=[LT 1 I64 x.Steps,E2 y.Steps]) G (bE x.Steps y.Steps b (Gv hc f)) qT ⟨G,G,G,G,U⟩) G (JLh (BL (a&&b)) (J9 G G G G) G (JLm (BL (a&&b)) G (G5 (d (Gs (fin1 BL h))))))

def Yb (out:Ln Hj) (l:List Hg):Option Bool:=
 bif decide ((out.1.length:Int)≠(l.length:Int)) then
 (some false)
 else
 (chk ((l.length:Int)+12) fun j=>
  bnd (cO j (out.1++out.2).length) fun k=>
  each (fun b a (e:Unit) d=>
   bnd (bif decide ((a:Int) < (l.length:Int)) then Jo l (a:Int) some else some default) fun f=>
   bnd (bif decide ((a:Int) < (l.length:Int)) then Yj b f else some default) fun c=>
   bnd (bif ((!((decide ((a:Int) < (l.length:Int)))&&(!c)))&&(decide ((l.length:Int)≤(a:Int)))) then chk ((a:Int) - (l.length:Int)) some else some 0) fun g=>
   bnd (bif ((!((decide ((a:Int) < (l.length:Int)))&&(!c)))&&(decide ((l.length:Int)≤(a:Int)))) then Ru 1 g else some default) fun h=>
   bnd (bif ((!((decide ((a:Int) < (l.length:Int)))&&(!c)))&&(decide ((l.length:Int)≤(a:Int)))) then Qa (Hg.mk b.Kilos b.X b.Y b.Z b.Surface b.Steps.1) h else some default) fun i=>
   bif (((decide ((a:Int) < (l.length:Int)))&&(!c))||((decide ((l.length:Int)≤(a:Int)))&&(!i))) then
   (some false)
   else
   (d ()))
  (fun(e:Unit)=>
   some true) ((out.1++out.2).take k) 0 ())
theorem pT (out:Ln Hj) (l:List Hg) (r:Bool) (h:Yb out l=some r):Pure Ek 61 [LT 6 Hj.av out,E9 l] (·=BL r):=by
 unfold Yb at h
 refine Gy [.tmp 4] Tryz.func61 G G (Jr fun a9=>(JLm (BL false) G (G5 (a9 (Js fun b0=>Jr fun b1=>(JLm (LT 6 Hj.av out) G (JLl Q3 G G G fun c4=>(JLm (E9 l) G (JLl Q3 G G G fun c0=>(JLh (BL (decide ((out.1.length:Int)≠(l.length:Int)))) (aH G G G) G (G5 (b1 (JCc G h (fun h hb=>?_) (fun h hb=>?_))))))))))))))
 ·
  refine Jr fun b2=>(JLm (BL false) G (G5 (b2 (Gs (fin1 BL h)))))
 ·
  refine Gn (b0 (Jr fun b3=>(JLm (LT 6 Hj.av out) G (JLm (E9 l) G (JLl Q3 G G G fun c1=>?_)))))
  obtain⟨v6,b4,h⟩:=R2 h
  refine JLh (I64 v6) (Hs b4 G G G) G ?_
  obtain⟨g,b5,h⟩:=Gd h
  refine JLh (LS 6 Hj.av ((out.1++out.2).take g)) (mD (f:=Hj.av) (e:=out) G G G Q3 (Rq b5)) G (JLm (LS 6 Hj.av ((out.1++out.2).take g)) G (G5 (b3 (Js fun b6=>Jr fun b7=>(JLm (I64 0) G (G5 (b7 (Gf ?_))))))))
  obtain⟨b8,t,u,s,h⟩:=Hy h
  refine H8 (fun a (k:Unit)=>each b8 t (List.drop a ((out.1++out.2).take g)) a k=some r) (fun a k=>[(1,E9 l),(5,LS 6 Hj.av ((out.1++out.2).take g)),(6,Ej a)]) (fun a k=>[]) (fun a=>((out.1++out.2).take g).length - a) 0 () h ⟨(.sm G G),U,G⟩ ?_
  clear h
  intro a k n c5 b9
  refine Js fun v=>Jr fun w=>(JLm (Ej a) G (JLm (LS 6 Hj.av ((out.1++out.2).take g)) G (JLl Q3 G G G fun x=>(JLh (BL (decide ((a:Int) < (((out.1++out.2).take g).length:Int)))) (Hr G G G) G (G5 (w (Gg G (fun hb=>?_) (fun hb=>?_))))))))
  ·
   have o:=Je hb
   obtain⟨c,c3,p,z,h⟩:=Hh n o
   replace h:=Rx u h
   refine Gn (v (Js fun a0=>Gf (Js fun a1=>?_)))
   obtain⟨j,a2,h⟩:=Gd h
   obtain⟨d,a3,h⟩:=Gd h
   obtain⟨q,a4,h⟩:=Gd h
   obtain⟨m,a5,h⟩:=Gd h
   obtain⟨i,a6,h⟩:=Gd h
   refine JC_d0 Jd (by kernel_rfl) (Dq (Ej a) (G3 G G) G (Dq (E9 l) (G3 G G) G (Dq (Ej l.length) (Q8 (f:=Hg.av) (xs:=l) Q3 G G) G (Dq (BL (decide ((a:Int) < (l.length:Int)))) (Hr G G G) G (Dq (BL (decide ((a:Int) < (l.length:Int)))) (G3 G G) G (Do (LS 6 Hj.av ((out.1++out.2).take g)) [] G .sct U (fun hc=>G3 G G) G (Do (Ej a) [] G .sct U (fun hc=>G3 G G) G (Do (.dptr (Hj.cs c)) [28,29] G .sct ⟨Ua,Ua,U⟩ (fun hc=>Gr (f:=Hj.av) (xs:=((out.1++out.2).take g)) (y:=c) G G G Q3 p G) G (Do (.agg (Hj.cs c)) [30] G .sct ⟨Ua,U⟩ (fun hc=>Gj cK G G G) G (Do (E9 l) [] G .sct U (fun hc=>G3 G G) G (Do (Ej a) [] G .sct U (fun hc=>G3 G G) G (Do (Ei j) [32,33] G .sct ⟨Ua,Ua,U⟩ (fun hc=>(match Jt (Gv hc a2) with | ⟨_,hm_,hy_⟩=>Gr (f:=Hg.av) (xs:=l) (y:=j) G G G Q3 hy_ hm_)) G (Do (.agg (Hg.cs j)) [34] G .sct ⟨Ua,U⟩ (fun hc=>Gj cK G G G) G ?_)))))))))))))
   refine Do (BL d) [31,35] G .sct ⟨Ua,Ua,U⟩ (fun hc=>Gi (args:=[.agg (Hj.cs c),.agg (Hg.cs j)]) G (qK c j d (Gv hc a3)) Ge8 ⟨G,G,G,G,U⟩) G (Do (BL (!d)) [36] G .sct ⟨Ua,U⟩ (fun hc=>Qj (b:=d) G G) G (Dq (BL ((decide ((a:Int) < (l.length:Int)))&&(!d))) (J9 G G G G) G (Dq (BL ((decide ((a:Int) < (l.length:Int)))&&(!d))) (G3 G G) G (Do (Ej a) [] G .scf U (fun hc=>G3 G G) G (Do (E9 l) [] G .scf U (fun hc=>G3 G G) G (Do (Ej l.length) [41] G .scf ⟨Ua,U⟩ (fun hc=>Q8 (f:=Hg.av) (xs:=l) Q3 G G) G (Do (BL (decide ((l.length:Int)≤(a:Int)))) [40,42] G .scf ⟨Ua,Ua,U⟩ (fun hc=>cH G G G) G (Do (BL (decide ((l.length:Int)≤(a:Int)))) [43] G .scf ⟨Ua,U⟩ (fun hc=>G3 G G) G (Do (LS 6 Hj.av ((out.1++out.2).take g)) [] G .optt U (fun hc=>G3 G G) G (Do (Ej a) [] G .optt U (fun hc=>G3 G G) G (Do (.dptr (Hj.cs c)) [45,46] G .optt ⟨Ua,Ua,U⟩ (fun hc=>Gr (f:=Hj.av) (xs:=((out.1++out.2).take g)) (y:=c) G G G Q3 p G) G (Do (.agg [I64 c.Kilos,I64 c.X,I64 c.Y,I64 c.Z,I64 c.Surface,E2 c.Steps.1]) [47] G .optt ⟨Ua,U⟩ (fun hc=>H2.cv (Cv.aggL (cs:=(Hj.cs c)) ⟨.same,.same,.same,.same,.same,Cv.lst0 c.Steps,U⟩) (Gj cK G G G)) G (Do (Ej a) [] G .optt U (fun hc=>G3 G G) G ?_)))))))))))))
   refine Do (E9 l) [] G .optt U (fun hc=>G3 G G) G (Do (Ej l.length) [50] G .optt ⟨Ua,U⟩ (fun hc=>Q8 (f:=Hg.av) (xs:=l) Q3 G G) G (Do (I64 q) [49,51] G .optt ⟨Ua,Ua,U⟩ (fun hc=>kX (aM (Gv hc a4)) G G G) G (Do (.agg (Hg.cs m)) [52] G .optt ⟨Ua,U⟩ (fun hc=>Gi (args:=[I64 1,I64 q]) G (iI 1 q m (Gv hc a5)) ZJ ⟨G,G,G,G,U⟩) G (Do (BL i) [48,53] G .optt ⟨Ua,Ua,U⟩ (fun hc=>Gi (args:=[.agg [I64 c.Kilos,I64 c.X,I64 c.Y,I64 c.Z,I64 c.Surface,E2 c.Steps.1],.agg (Hg.cs m)]) G (dS (Hg.mk c.Kilos c.X c.Y c.Z c.Surface c.Steps.1) m i (Gv hc a6)) vY ⟨G,G,G,G,U⟩) G (Do (BL (!i)) [54] G .optt ⟨Ua,U⟩ (fun hc=>Qj (b:=i) G G) G (Dg (.opt (!((decide ((a:Int) < (l.length:Int)))&&(!d))) (BL ((decide ((l.length:Int)≤(a:Int)))&&(!i)))) (Gc [(44,BL (decide ((l.length:Int)≤(a:Int)))),(55,_)] G G G .scf ⟨.all id,.part,U⟩ (fun hc=>J9 G G G G) G) G (Dq (BL (((decide ((a:Int) < (l.length:Int)))&&(!d))||((decide ((l.length:Int)≤(a:Int)))&&(!i)))) (Rm G G G G) G (Dnil ?_))))))))
   refine a1 (JCc G h (fun h hb=>?_) (fun h hb=>?_))
   ·
    refine Jr fun a7=>(JLm (BL false) G (G5 (a7 (Gs (fin1 BL h)))))
   ·
    refine Gn (a0 (G1 (JLm (Ej a) G (JLh (I64 ((a+1:Nat):Int)) (Hs (Hb o x) G G G) G (JLm (I64 ((a+1:Nat):Int)) G (G5 (b9 _ _ (a+1) () (app1 z h) (by omega) ⟨(.sm G G),U,rfl⟩)))))))
  ·
   have h:=app1 s (Hi n (H6 hb))
   refine H9 (b6 (Jr fun a8=>(JLm (BL true) G (G5 (a8 (Gs (fin1 BL h)))))))

def aE (x:Yh) (y:Gq):Option Bool:=
 bnd (Zx (Gq.mk (x.Columns.1.map Gx.pl) (x.Covers.1.map Ha.pl) x.Light x.Rows.1 x.Frames.1 (x.Tanks.1.map Hj.pl) x.Gk) y) fun a=>
 bnd (bif a then Rw x.Columns y.Columns else some default) fun b=>
 bnd (bif (a&&b) then Y2 x.Covers y.Covers else some default) fun c=>
 bnd (bif ((a&&b)&&c) then Yk x.Rows y.Rows else some default) fun d=>
 bnd (bif (((a&&b)&&c)&&d) then Y1 x.Frames y.Frames else some default) fun e=>
 bnd (bif ((((a&&b)&&c)&&d)&&e) then Yb x.Tanks y.Tanks else some default) fun f=>
 some (((((a&&b)&&c)&&d)&&e)&&f)
theorem qL (x:Yh) (y:Gq) (r:Bool) (h:aE x y=some r):Pure Ek 22 [.agg (Yh.cs x),.agg (Gq.cs y)] (·=BL r):=by
 unfold aE at h
 refine Gy [.tmp 4] Tryz.func22 G G (Jr fun j=>(JLh (.ptr 1039 0) (Jy (cs:=(Yh.cs x)) 1039 G G G G G) G (JLh (.ptr 1040 0) (Jy (cs:=(Gq.cs y)) 1040 G G G G G) G (JLm (BL false) G (G5 (j ?_))))))
 refine Gw [(2,.dptr (Yh.cs x)),(3,.ptr 1040 0)] [(1040,.box 32 (Gq.cs y))] 1039 rfl rfl rfl ⟨⟨_,rfl,.boxEq rfl rfl⟩,U⟩ rfl (by exact⟨.ptr,.conv (.same rfl),U⟩) (Gw [(2,.dptr (Yh.cs x)),(3,Ed y)] [] 1040 rfl rfl rfl U rfl (by exact⟨.conv (.same rfl),.ptr,U⟩) ?_)
 refine Jr fun k=>(JLh (.agg [E4 (x.Columns.1.map Gx.pl),E5 (x.Covers.1.map Ha.pl),I64 x.Light.Kilos,I64 x.Light.X,I64 x.Light.Y,I64 x.Light.Z,E8 x.Rows.1,E7 x.Frames.1,E9 (x.Tanks.1.map Hj.pl),I64 x.Gk.Tolerance,I64 x.Gk.Trim,I64 x.Gk.List_,I64 x.Gk.Stability]) (H2.cv (Cv.aggL (cs:=(Yh.cs x)) ⟨Cv.lstM (f:=Gx.av) (g:=G6.av) Gx.pl Gx.cvl x.Columns,Cv.lstM (f:=Ha.av) (g:=H3.av) Ha.pl Ha.cvl x.Covers,.same,.same,.same,.same,Cv.lst0 x.Rows,Cv.lst0 x.Frames,Cv.lstM (f:=Hj.av) (g:=Hg.av) Hj.pl Hj.cvl x.Tanks,.same,.same,.same,.same,U⟩) (Gj J4 G G G)) G (JLh (.agg (Gq.cs y)) (Gj J4 G G G) G ?_))
 obtain⟨a,l,h⟩:=Gd h
 refine JLh (BL a) (Gi G (qF (Gq.mk (x.Columns.1.map Gx.pl) (x.Covers.1.map Ha.pl) x.Light x.Rows.1 x.Frames.1 (x.Tanks.1.map Hj.pl) x.Gk) y a l) H60 ⟨G,G,G,G,U⟩) G (JLm (BL a) G (JLo (.dptr (Yh.cs x)) [] G .sct U (fun hc=>Ga Hu G G G) G (JLo (LT 12 Gx.av x.Columns) [9] G .sct ⟨Ua,U⟩ (fun hc=>Ge J2 G G G) G (JLo (Ed y) [] G .sct U (fun hc=>Ga Hu G G G) G (JLo (E4 y.Columns) [11] G .sct ⟨Ua,U⟩ (fun hc=>Ge J2 G G G) G ?_)))))
 obtain⟨b,m,h⟩:=Gd h
 refine JLo (BL b) [10,12] G .sct ⟨Ua,Ua,U⟩ (fun hc=>Gi (args:=[LT 12 Gx.av x.Columns,E4 y.Columns]) G (nB x.Columns y.Columns b (Gv hc m)) H5f ⟨G,G,G,G,U⟩) G (JLh (BL (a&&b)) (J9 G G G G) G (JLm (BL (a&&b)) G (JLo (.dptr ((Yh.cs x).drop 1)) [] G .sct U (fun hc=>Ga Qh G G G) G (JLo (LT 2 Ha.av x.Covers) [16] G .sct ⟨Ua,U⟩ (fun hc=>Ge R4 G G G) G (JLo (.dptr ((Gq.cs y).drop 1)) [] G .sct U (fun hc=>Ga Qh G G G) G (JLo (E5 y.Covers) [18] G .sct ⟨Ua,U⟩ (fun hc=>Ge R4 G G G) G ?_))))))
 obtain⟨c,n,h⟩:=Gd h
 refine JLo (BL c) [17,19] G .sct ⟨Ua,Ua,U⟩ (fun hc=>Gi (args:=[LT 2 Ha.av x.Covers,E5 y.Covers]) G (oF x.Covers y.Covers c (Gv hc n)) H5e ⟨G,G,G,G,U⟩) G (JLh (BL ((a&&b)&&c)) (J9 G G G G) G (JLm (BL ((a&&b)&&c)) G (JLo (.dptr ((Yh.cs x).drop 6)) [] G .sct U (fun hc=>Ga fX G G G) G (JLo (LT 5 Row.av x.Rows) [23] G .sct ⟨Ua,U⟩ (fun hc=>Ge kL G G G) G (JLo (.dptr ((Gq.cs y).drop 6)) [] G .sct U (fun hc=>Ga fX G G G) G (JLo (E8 y.Rows) [25] G .sct ⟨Ua,U⟩ (fun hc=>Ge kL G G G) G ?_))))))
 obtain⟨d,o,h⟩:=Gd h
 refine JLo (BL d) [24,26] G .sct ⟨Ua,Ua,U⟩ (fun hc=>Gi (args:=[LT 5 Row.av x.Rows,E8 y.Rows]) G (qM x.Rows y.Rows d (Gv hc o)) H5d ⟨G,G,G,G,U⟩) G (JLh (BL (((a&&b)&&c)&&d)) (J9 G G G G) G (JLm (BL (((a&&b)&&c)&&d)) G (JLo (.dptr ((Yh.cs x).drop 7)) [] G .sct U (fun hc=>Ga fW G G G) G (JLo (LT 5 Frame.av x.Frames) [30] G .sct ⟨Ua,U⟩ (fun hc=>Ge kK G G G) G (JLo (.dptr ((Gq.cs y).drop 7)) [] G .sct U (fun hc=>Ga fW G G G) G (JLo (E7 y.Frames) [32] G .sct ⟨Ua,U⟩ (fun hc=>Ge kK G G G) G ?_))))))
 obtain⟨e,p,h⟩:=Gd h
 refine JLo (BL e) [31,33] G .sct ⟨Ua,Ua,U⟩ (fun hc=>Gi (args:=[LT 5 Frame.av x.Frames,E7 y.Frames]) G (oE x.Frames y.Frames e (Gv hc p)) H5c ⟨G,G,G,G,U⟩) G (JLh (BL ((((a&&b)&&c)&&d)&&e)) (J9 G G G G) G (JLm (BL ((((a&&b)&&c)&&d)&&e)) G (JLo (.dptr ((Yh.cs x).drop 8)) [] G .sct U (fun hc=>Ga fV G G G) G (JLo (LT 6 Hj.av x.Tanks) [37] G .sct ⟨Ua,U⟩ (fun hc=>Ge kJ G G G) G (JLo (.dptr ((Gq.cs y).drop 8)) [] G .sct U (fun hc=>Ga fV G G G) G (JLo (E9 y.Tanks) [39] G .sct ⟨Ua,U⟩ (fun hc=>Ge kJ G G G) G ?_))))))
 obtain⟨i,q,h⟩:=Gd h
 refine JLo (BL i) [38,40] G .sct ⟨Ua,Ua,U⟩ (fun hc=>Gi (args:=[LT 6 Hj.av x.Tanks,E9 y.Tanks]) G (pT x.Tanks y.Tanks i (Gv hc q)) H5b ⟨G,G,G,G,U⟩) G (JLh (BL (((((a&&b)&&c)&&d)&&e)&&i)) (J9 G G G G) G (JLm (BL (((((a&&b)&&c)&&d)&&e)&&i)) G (G5 (k (Gs (fin1 BL h))))))

def Y8 (k:Int) (i:Int):Option Box:=
 bnd (Ho k i) fun a=>
 some (Box.mk a ByteArray.empty 0 false 0 0 0 0 false)
abbrev Kv (a:Int):List AV:=[I64 a,ST P5,U8 0,BL false,I64 0,I64 0,I64 0,U8 0,BL false]
abbrev Kw:List AV:=[I64 0,ST P5,U8 0,BL false,I64 0,I64 0,I64 0,U8 0,BL false]
theorem iX (k:Int) (i:Int) (r:Box) (h:Y8 k i=some r):Pure Ek 40 [I64 k,I64 i] (·=.agg (Box.cs r)):=by
 unfold Y8 at h
 refine Gy [.cell 4 77] Tryz.func40 G G (Jr fun b=>(JLh (.ptr 1056 0) (Rn 1056 Kw [E0,.string ByteArray.empty,.int .u8 0,.bool false,E0,E0,E0,.int .u8 0,.bool false] fG (zzQ G) G G) G (G5 (b (Jr fun c=>(JLm (I64 k) G (JLm (I64 i) G ?_)))))))
 obtain⟨a,d,h⟩:=Gd h
 refine JLh (I64 a) (Gi G (J0 k i a d) Y4 ⟨G,G,G,G,U⟩) G (JLh (.agg (Kv a)) (Jq (cs:=(Kv a)) [(0,1),(1,1),(2,1),(3,1),(4,1),(5,1),(6,1),(7,1),(8,1)] Kw [E0,.string ByteArray.empty,.int .u8 0,.bool false,E0,E0,E0,.int .u8 0,.bool false] hY fG (zzQ G) G G) G (J7 (u:=.junk) (Hv (u:=.agg (Kv a)) (ds:=(Kv a)) cJ G G G G G G G G) (G5 (c ?_))))
 refine Gs (⟨[.agg (Kv a)],[],U,G,⟨⟨_,⟨_,_,_,_,G,G,G,.inl ⟨bN,G⟩⟩,.conv (.same G)⟩,U⟩,G,congrArg (fun r:Box=>(.agg (Box.cs r):AV)) (Pc h)⟩)

def Zj (l:List Box):Option (Ln Box):=
 chk ((l.length:Int)+12) fun g=>
 bnd (nI g) fun e=>
 need (decide (64*e≤281474976710656/\e≤maxLen)) <|
 need (decide ((([]:List Box).length+l.length)*64≤140737488355328/\([]:List Box).length+l.length≤maxLen)) <|
 need (decide (12≤9223372036854775807)) <|
 upto (fun f (a:(List Box)) d=>
  bnd (Y8 1 (f:Int)) fun b=>
  need (decide ((a.length+[b].length)*64≤140737488355328/\a.length+[b].length≤maxLen)) <|
  d (a++[b]))
 (fun(a:(List Box))=>
  bnd (cO (l.length:Int) a.length) fun c=>
  some (a.take c,a.drop c)) (12:Int).toNat 0 (([]:List Box)++l)
theorem aT (l:List Box) (r:(Ln Box)) (h:Zj l=some r):Pure Ek 9 [E3 l] (·=LT 9 Box.av r):=by
 unfold Zj at h
 refine Gy [.tmp 2] Tryz.func9 G G (Jr fun w=>(JLh (E3 ([]:List Box)) (Qd 9 G G) G (G5 (w (Jr fun x=>(JLm (E3 l) G (JLl J3 G G G fun b0=>?_)))))))
 obtain⟨v3,y,h⟩:=R2 h
 refine JLh (I64 v3) (Hs y G G G) G ?_
 obtain⟨m4,z,h⟩:=Gd h
 obtain⟨a0,h⟩:=J5 h
 refine JLh (OW 1013 9 Box.av ([]:List Box)) (fD 1013 G G G G J3 yQ G (gB z) a0) G (JLm (OW 1013 9 Box.av ([]:List Box)) G (G5 (x (Jr fun a1=>(JLm (OW 1013 9 Box.av ([]:List Box)) G (JLm (E3 l) G ?_))))))
 obtain⟨a2,h⟩:=J5 h
 refine JLh (OW 1013 9 Box.av (([]:List Box)++l)) (oO (f:=Box.av) (xs:=([]:List Box)) (ys:=l) G G G G J3 yQ a2 (fun _=>G) (.inl G)) G (JLm (OW 1013 9 Box.av (([]:List Box)++l)) G (G5 (a1 (Js fun a3=>Jr fun a4=>(JLm (I64 0) G (G5 (a4 (Gf ?_))))))))
 obtain⟨j,h⟩:=J5 h
 obtain⟨a5,k,m,i,h⟩:=dW h
 refine H8 (fun b (a:(List Box))=>upto a5 k ((12:Int).toNat - b) b a=some r) (fun b a=>[(0,E3 l),(3,OW 1013 9 Box.av a),(4,Ej b)]) (fun b a=>[(1013,.spare 77 9 a.length a.length)]) (fun b=>(12:Int).toNat - b) 0 (([]:List Box)++l) h ⟨(.sm G G),⟨⟨_,G,.same⟩,U⟩,G⟩ ?_
 clear h
 intro b a e b1 a6
 refine Js fun n=>Jr fun o=>(JLm (Ej b) G (JLh (BL (decide ((b:Int) < 12))) (Hr G G G) G (G5 (o (Gg G (fun hb=>?_) (fun hb=>?_))))))
 ·
  have g:=cE hb
  obtain⟨a8,p,h⟩:=cA e g
  replace h:=vG m h
  refine Gn (n (Js fun q=>Gf (G1 (JLm (OW 1013 9 Box.av a) G (JLm (Ej b) G ?_)))))
  obtain⟨c,s,h⟩:=Gd h
  refine JLh (.agg (Box.cs c)) (Gi G (iX 1 (b:Int) c s) ZS ⟨G,G,G,G,U⟩) G (JLh (E3 [c]) (Hf (xs:=[.agg (Box.cs c)]) G ⟨G,G,U⟩ J3 dX G G G G) G ?_)
  obtain⟨t,h⟩:=J5 h
  refine JLh (OW 1013 9 Box.av (a++[c])) (R8 (f:=Box.av) (xs:=a) (ys:=[c]) G G G G J3 yQ t (fun _=>G) (.inl G) G) G (JLm (OW 1013 9 Box.av (a++[c])) G (G5 (q (G1 (JLm (Ej b) G (JLh (I64 ((b+1:Nat):Int)) (Hs (Hb g (Zr j)) G G G) G (JLm (I64 ((b+1:Nat):Int)) G (G5 (a6 _ _ (b+1) (a++[c]) (app1 p h) (by omega) ⟨(.sm G G),⟨⟨_,rfl,.same⟩,U⟩,rfl⟩)))))))))
 ·
  have h:=app1 i (cB e (R9 hb))
  refine H9 (a3 (Jr fun u=>(JLm (OW 1013 9 Box.av a) G (JLm (E3 l) G (JLl J3 G G G fun a9=>?_)))))
  obtain⟨d,v,h⟩:=Gd h
  refine JLh (LT 9 Box.av (a.take d,a.drop d)) (yK (f:=Box.av) (xs:=a) G G G J3 (Rq v)) G (JLm (LT 9 Box.av (a.take d,a.drop d)) G (G5 (u (Gs (fin1 (fun r:(Ln Box)=>(LT 9 Box.av r:AV)) h)))))

def Zk (out:Ln Box) (l:List Box):Option Bool:=
 bif decide ((out.1.length:Int)≠(l.length:Int)) then
 (some false)
 else
 (chk ((l.length:Int)+12) fun h=>
  bnd (cO h (out.1++out.2).length) fun i=>
  each (fun b a (e:Unit) d=>
   bnd (bif decide ((a:Int) < (l.length:Int)) then Jo l (a:Int) some else some default) fun c=>
   bnd (bif ((!((decide ((a:Int) < (l.length:Int)))&&(!(decide (b=c)))))&&(decide ((l.length:Int)≤(a:Int)))) then chk ((a:Int) - (l.length:Int)) some else some 0) fun f=>
   bnd (bif ((!((decide ((a:Int) < (l.length:Int)))&&(!(decide (b=c)))))&&(decide ((l.length:Int)≤(a:Int)))) then Y8 1 f else some default) fun g=>
   bif (((decide ((a:Int) < (l.length:Int)))&&(!(decide (b=c))))||((decide ((l.length:Int)≤(a:Int)))&&(!(decide (b=g))))) then
   (some false)
   else
   (d ()))
  (fun(e:Unit)=>
   some true) ((out.1++out.2).take i) 0 ())
theorem pW (out:Ln Box) (l:List Box) (r:Bool) (h:Zk out l=some r):Pure Ek 23 [LT 9 Box.av out,E3 l] (·=BL r):=by
 unfold Zk at h
 refine Gy [.tmp 4] Tryz.func23 G G (Jr fun a5=>(JLm (BL false) G (G5 (a5 (Js fun a6=>Jr fun a7=>(JLm (LT 9 Box.av out) G (JLl J3 G G G fun c0=>(JLm (E3 l) G (JLl J3 G G G fun b6=>(JLh (BL (decide ((out.1.length:Int)≠(l.length:Int)))) (aH G G G) G (G5 (a7 (JCc G h (fun h hb=>?_) (fun h hb=>?_))))))))))))))
 ·
  refine Jr fun a8=>(JLm (BL false) G (G5 (a8 (Gs (fin1 BL h)))))
 ·
  refine Gn (a6 (Jr fun a9=>(JLm (LT 9 Box.av out) G (JLm (E3 l) G (JLl J3 G G G fun b7=>?_)))))
  obtain⟨v6,b0,h⟩:=R2 h
  refine JLh (I64 v6) (Hs b0 G G G) G ?_
  obtain⟨i,b1,h⟩:=Gd h
  refine JLh (E3 ((out.1++out.2).take i)) (mD (f:=Box.av) (e:=out) G G G J3 (Rq b1)) G (JLm (E3 ((out.1++out.2).take i)) G (G5 (a9 (Js fun b2=>Jr fun b3=>(JLm (I64 0) G (G5 (b3 (Gf ?_))))))))
  obtain⟨b4,q,s,p,h⟩:=Hy h
  refine H8 (fun c (j:Unit)=>each b4 q (List.drop c ((out.1++out.2).take i)) c j=some r) (fun c j=>[(1,E3 l),(5,E3 ((out.1++out.2).take i)),(6,Ej c)]) (fun c j=>[]) (fun c=>((out.1++out.2).take i).length - c) 0 () h ⟨(.sm G G),U,G⟩ ?_
  clear h
  intro c j k c1 b5
  refine Js fun t=>Jr fun u=>(JLm (Ej c) G (JLm (E3 ((out.1++out.2).take i)) G (JLl J3 G G G fun v=>(JLh (BL (decide ((c:Int) < (((out.1++out.2).take i).length:Int)))) (Hr G G G) G (G5 (u (Gg G (fun hb=>?_) (fun hb=>?_))))))))
  ·
   have m:=Je hb
   obtain⟨a,b9,n,w,h⟩:=Hh k m
   replace h:=Rx s h
   refine Gn (t (Js fun x=>Gf (Js fun z=>?_)))
   obtain⟨d,a0,h⟩:=Gd h
   obtain⟨o,a1,h⟩:=Gd h
   obtain⟨g,a2,h⟩:=Gd h
   refine JC_d0 Jd (by kernel_rfl) (Dq (Ej c) (G3 G G) G (Dq (E3 l) (G3 G G) G (Dq (Ej l.length) (Q8 (f:=Box.av) (xs:=l) J3 G G) G (Dq (BL (decide ((c:Int) < (l.length:Int)))) (Hr G G G) G (Dq (BL (decide ((c:Int) < (l.length:Int)))) (G3 G G) G (Do (E3 ((out.1++out.2).take i)) [] G .sct U (fun hc=>G3 G G) G (Do (Ej c) [] G .sct U (fun hc=>G3 G G) G (Do (Eg a) [28,29] G .sct ⟨Ua,Ua,U⟩ (fun hc=>Gr (f:=Box.av) (xs:=((out.1++out.2).take i)) (y:=a) G G G J3 n G) G (Do (.agg (Box.cs a)) [30] G .sct ⟨Ua,U⟩ (fun hc=>Gj bN G G G) G (Do (E3 l) [] G .sct U (fun hc=>G3 G G) G (Do (Ej c) [] G .sct U (fun hc=>G3 G G) G (Do (Eg d) [32,33] G .sct ⟨Ua,Ua,U⟩ (fun hc=>(match Jt (Gv hc a0) with | ⟨_,hm_,hy_⟩=>Gr (f:=Box.av) (xs:=l) (y:=d) G G G J3 hy_ hm_)) G (Do (.agg (Box.cs d)) [34] G .sct ⟨Ua,U⟩ (fun hc=>Gj bN G G G) G ?_)))))))))))))
   refine Do (BL (decide (a=d))) [31,35] G .sct ⟨Ua,Ua,U⟩ (fun hc=>lA (vs:=[.int .i64 a.ID,.string a.Number,.int .u8 a.Size,.bool a.High,.int .i64 a.Kilos,.int .i64 a.Load,.int .i64 a.Discharge,.int .u8 a.Class,.bool a.Reefer]) (us:=[.int .i64 d.ID,.string d.Number,.int .u8 d.Size,.bool d.High,.int .i64 d.Kilos,.int .i64 d.Load,.int .i64 d.Discharge,.int .u8 d.Class,.bool d.Reefer]) 4 G (Jbd a d) QX G71 G G G) G (Do (BL (!(decide (a=d)))) [36] G .sct ⟨Ua,U⟩ (fun hc=>Qj (b:=decide (a=d)) G G) G (Dq (BL ((decide ((c:Int) < (l.length:Int)))&&(!(decide (a=d))))) (J9 G G G G) G (Dq (BL ((decide ((c:Int) < (l.length:Int)))&&(!(decide (a=d))))) (G3 G G) G (Do (Ej c) [] G .scf U (fun hc=>G3 G G) G (Do (E3 l) [] G .scf U (fun hc=>G3 G G) G (Do (Ej l.length) [41] G .scf ⟨Ua,U⟩ (fun hc=>Q8 (f:=Box.av) (xs:=l) J3 G G) G (Do (BL (decide ((l.length:Int)≤(c:Int)))) [40,42] G .scf ⟨Ua,Ua,U⟩ (fun hc=>cH G G G) G (Do (BL (decide ((l.length:Int)≤(c:Int)))) [43] G .scf ⟨Ua,U⟩ (fun hc=>G3 G G) G (Do (E3 ((out.1++out.2).take i)) [] G .optt U (fun hc=>G3 G G) G (Do (Ej c) [] G .optt U (fun hc=>G3 G G) G (Do (Eg a) [45,46] G .optt ⟨Ua,Ua,U⟩ (fun hc=>Gr (f:=Box.av) (xs:=((out.1++out.2).take i)) (y:=a) G G G J3 n G) G (Do (.agg (Box.cs a)) [47] G .optt ⟨Ua,U⟩ (fun hc=>Gj bN G G G) G (Do (Ej c) [] G .optt U (fun hc=>G3 G G) G ?_)))))))))))))
   refine Do (E3 l) [] G .optt U (fun hc=>G3 G G) G (Do (Ej l.length) [50] G .optt ⟨Ua,U⟩ (fun hc=>Q8 (f:=Box.av) (xs:=l) J3 G G) G (Do (I64 o) [49,51] G .optt ⟨Ua,Ua,U⟩ (fun hc=>kX (aM (Gv hc a1)) G G G) G (Do (.agg (Box.cs g)) [52] G .optt ⟨Ua,U⟩ (fun hc=>Gi (args:=[I64 1,I64 o]) G (iX 1 o g (Gv hc a2)) ZS ⟨G,G,G,G,U⟩) G (Do (BL (decide (a=g))) [48,53] G .optt ⟨Ua,Ua,U⟩ (fun hc=>lA (vs:=[.int .i64 a.ID,.string a.Number,.int .u8 a.Size,.bool a.High,.int .i64 a.Kilos,.int .i64 a.Load,.int .i64 a.Discharge,.int .u8 a.Class,.bool a.Reefer]) (us:=[.int .i64 g.ID,.string g.Number,.int .u8 g.Size,.bool g.High,.int .i64 g.Kilos,.int .i64 g.Load,.int .i64 g.Discharge,.int .u8 g.Class,.bool g.Reefer]) 4 G (Jbd a g) QX G71 G G G) G (Do (BL (!(decide (a=g)))) [54] G .optt ⟨Ua,U⟩ (fun hc=>Qj (b:=decide (a=g)) G G) G (Dg (.opt (!((decide ((c:Int) < (l.length:Int)))&&(!(decide (a=d))))) (BL ((decide ((l.length:Int)≤(c:Int)))&&(!(decide (a=g)))))) (Gc [(44,BL (decide ((l.length:Int)≤(c:Int)))),(55,_)] G G G .scf ⟨.all id,.part,U⟩ (fun hc=>J9 G G G G) G) G (Dq (BL (((decide ((c:Int) < (l.length:Int)))&&(!(decide (a=d))))||((decide ((l.length:Int)≤(c:Int)))&&(!(decide (a=g)))))) (Rm G G G G) G (Dnil ?_))))))))
   refine z (JCc G h (fun h hb=>?_) (fun h hb=>?_))
   ·
    refine Jr fun a3=>(JLm (BL false) G (G5 (a3 (Gs (fin1 BL h)))))
   ·
    refine Gn (x (G1 (JLm (Ej c) G (JLh (I64 ((c+1:Nat):Int)) (Hs (Hb m v) G G G) G (JLm (I64 ((c+1:Nat):Int)) G (G5 (b5 _ _ (c+1) () (app1 w h) (by omega) ⟨(.sm G G),U,rfl⟩)))))))
  ·
   have h:=app1 p (Hi k (H6 hb))
   refine H9 (b2 (Jr fun a4=>(JLm (BL true) G (G5 (a4 (Gs (fin1 BL h)))))))

def Qv (k:Int) (i:Int):Option G2:=
 bnd (Ho k i) fun a=>
 some (G2.mk a (Slot.mk 0 0 0))
theorem cU (k:Int) (i:Int) (r:G2) (h:Qv k i=some r):Pure Ek 183 [I64 k,I64 i] (·=.agg (G2.cs r)):=by
 unfold Qv at h
 refine Gy [.cell 4 83] Tryz.func183 G G (Jr fun b=>(JLh (.ptr 1156 0) (Rn 1156 [I64 0,I64 0,I64 0,U8 0] [E0,E0,E0,.int .u8 0] tO (zzQ G) G G) G (G5 (b (Jr fun c=>(JLm (I64 k) G (JLm (I64 i) G ?_)))))))
 obtain⟨a,d,h⟩:=Gd h
 refine JLh (I64 a) (Gi G (J0 k i a d) Y4 ⟨G,G,G,G,U⟩) G (JLh (.agg [I64 a,I64 0,I64 0,U8 0]) (Jq (cs:=[I64 a,I64 0,I64 0,U8 0]) [(0,1),(1,3)] [I64 0,I64 0,I64 0,U8 0] [E0,E0,E0,.int .u8 0] zX tO (zzQ G) G G) G (J7 (u:=.junk) (Hv (u:=.agg [I64 a,I64 0,I64 0,U8 0]) (ds:=[I64 a,I64 0,I64 0,U8 0]) eH G G G G G G G G) (G5 (c (Gs (⟨[.agg [I64 a,I64 0,I64 0,U8 0]],[],U,G,⟨⟨_,⟨_,_,_,_,G,G,G,.inl ⟨Zt,G⟩⟩,.conv (.same G)⟩,U⟩,G,congrArg (fun r:G2=>(.agg (G2.cs r):AV)) (Pc h)⟩))))))

def Yo (l:List G2):Option (Ln G2):=
 chk ((l.length:Int)+12) fun g=>
 bnd (nI g) fun e=>
 need (decide (32*e≤281474976710656/\e≤maxLen)) <|
 need (decide ((([]:List G2).length+l.length)*32≤140737488355328/\([]:List G2).length+l.length≤maxLen)) <|
 need (decide (12≤9223372036854775807)) <|
 upto (fun f (a:(List G2)) d=>
  bnd (Qv 1 (f:Int)) fun b=>
  need (decide ((a.length+[b].length)*32≤140737488355328/\a.length+[b].length≤maxLen)) <|
  d (a++[b]))
 (fun(a:(List G2))=>
  bnd (cO (l.length:Int) a.length) fun c=>
  some (a.take c,a.drop c)) (12:Int).toNat 0 (([]:List G2)++l)
theorem mX (l:List G2) (r:(Ln G2)) (h:Yo l=some r):Pure Ek 96 [E1 l] (·=LT 4 G2.av r):=by
 unfold Yo at h
 refine Gy [.tmp 2] Tryz.func96 G G (Jr fun w=>(JLh (E1 ([]:List G2)) (Qd 4 G G) G (G5 (w (Jr fun x=>(JLm (E1 l) G (JLl H5 G G G fun b0=>?_)))))))
 obtain⟨v3,y,h⟩:=R2 h
 refine JLh (I64 v3) (Hs y G G G) G ?_
 obtain⟨m4,z,h⟩:=Gd h
 obtain⟨a0,h⟩:=J5 h
 refine JLh (OW 1109 4 G2.av ([]:List G2)) (fD 1109 G G G G H5 yP G (gB z) a0) G (JLm (OW 1109 4 G2.av ([]:List G2)) G (G5 (x (Jr fun a1=>(JLm (OW 1109 4 G2.av ([]:List G2)) G (JLm (E1 l) G ?_))))))
 obtain⟨a2,h⟩:=J5 h
 refine JLh (OW 1109 4 G2.av (([]:List G2)++l)) (oO (f:=G2.av) (xs:=([]:List G2)) (ys:=l) G G G G H5 yP a2 (fun _=>G) (.inl G)) G (JLm (OW 1109 4 G2.av (([]:List G2)++l)) G (G5 (a1 (Js fun a3=>Jr fun a4=>(JLm (I64 0) G (G5 (a4 (Gf ?_))))))))
 obtain⟨j,h⟩:=J5 h
 obtain⟨a5,k,m,i,h⟩:=dW h
 refine H8 (fun b (a:(List G2))=>upto a5 k ((12:Int).toNat - b) b a=some r) (fun b a=>[(0,E1 l),(3,OW 1109 4 G2.av a),(4,Ej b)]) (fun b a=>[(1109,.spare 83 4 a.length a.length)]) (fun b=>(12:Int).toNat - b) 0 (([]:List G2)++l) h ⟨(.sm G G),⟨⟨_,G,.same⟩,U⟩,G⟩ ?_
 clear h
 intro b a e b1 a6
 refine Js fun n=>Jr fun o=>(JLm (Ej b) G (JLh (BL (decide ((b:Int) < 12))) (Hr G G G) G (G5 (o (Gg G (fun hb=>?_) (fun hb=>?_))))))
 ·
  have g:=cE hb
  obtain⟨a8,p,h⟩:=cA e g
  replace h:=vG m h
  refine Gn (n (Js fun q=>Gf (G1 (JLm (OW 1109 4 G2.av a) G (JLm (Ej b) G ?_)))))
  obtain⟨c,s,h⟩:=Gd h
  refine JLh (.agg (G2.cs c)) (Gi G (cU 1 (b:Int) c s) vX ⟨G,G,G,G,U⟩) G (JLh (E1 [c]) (Hf (xs:=[.agg (G2.cs c)]) G ⟨G,G,U⟩ H5 Yd G G G G) G ?_)
  obtain⟨t,h⟩:=J5 h
  refine JLh (OW 1109 4 G2.av (a++[c])) (R8 (f:=G2.av) (xs:=a) (ys:=[c]) G G G G H5 yP t (fun _=>G) (.inl G) G) G (JLm (OW 1109 4 G2.av (a++[c])) G (G5 (q (G1 (JLm (Ej b) G (JLh (I64 ((b+1:Nat):Int)) (Hs (Hb g (Zr j)) G G G) G (JLm (I64 ((b+1:Nat):Int)) G (G5 (a6 _ _ (b+1) (a++[c]) (app1 p h) (by omega) ⟨(.sm G G),⟨⟨_,rfl,.same⟩,U⟩,rfl⟩)))))))))
 ·
  have h:=app1 i (cB e (R9 hb))
  refine H9 (a3 (Jr fun u=>(JLm (OW 1109 4 G2.av a) G (JLm (E1 l) G (JLl H5 G G G fun a9=>?_)))))
  obtain⟨d,v,h⟩:=Gd h
  refine JLh (LT 4 G2.av (a.take d,a.drop d)) (yK (f:=G2.av) (xs:=a) G G G H5 (Rq v)) G (JLm (LT 4 G2.av (a.take d,a.drop d)) G (G5 (u (Gs (fin1 (fun r:(Ln G2)=>(LT 4 G2.av r:AV)) h)))))

def Rh (k:Int) (i:Int):Option (List G2):=
 bnd (Qv k i) fun a=>
 some [a]
theorem gW (k:Int) (i:Int) (r:(List G2)) (h:Rh k i=some r):Pure Ek 97 [I64 k,I64 i] (·=E1 r):=by
 unfold Rh at h
 refine Gy [.tmp 4] Tryz.func97 G G (Jr fun b=>(JLh (E1 ([]:List G2)) (Qd 4 G G) G (G5 (b (Jr fun c=>(JLm (I64 k) G (JLm (I64 i) G ?_)))))))
 obtain⟨a,d,h⟩:=Gd h
 refine JLh (.agg (G2.cs a)) (Gi G (cU k i a d) vX ⟨G,G,G,G,U⟩) G (JLh (E1 [a]) (Hf (xs:=[.agg (G2.cs a)]) G ⟨G,G,U⟩ H5 Yd G G G G) G (JLm (E1 [a]) G (G5 (c (Gs (fin1 (fun r:(List G2)=>(E1 r:AV)) h))))))

def Z2 (l:List (List G2)):Option (Ln (Ln G2)):=
 chk ((l.length:Int)+12) fun k=>
 bnd (nI k) fun h=>
 need (decide (24*h≤281474976710656/\h≤maxLen)) <|
 each (fun i m (b:(List (Ln G2))) f=>
  bnd (Yo i) fun c=>
  need (decide ((b.length+[c].length)*24≤140737488355328/\b.length+[c].length≤maxLen)) <|
  f (b++[c]))
 (fun(b:(List (Ln G2)))=>
  need (decide (12≤9223372036854775807)) <|
  upto (fun j (a:(List (Ln G2))) g=>
   bnd (Rh 1 (j:Int)) fun d=>
   need (decide ((a.length+[(d,([]:List G2))].length)*24≤140737488355328/\a.length+[(d,([]:List G2))].length≤maxLen)) <|
   g (a++[(d,([]:List G2))]))
  (fun(a:(List (Ln G2)))=>
   bnd (cO (l.length:Int) a.length) fun e=>
   some (a.take e,a.drop e)) (12:Int).toNat 0 b) l 0 []
theorem nX (l:List (List G2)) (r:(Ln (Ln G2))) (h:Z2 l=some r):Pure Ek 41 [LS 1 (E1) l] (·=LT 1 (LT 4 G2.av) r):=by
 unfold Z2 at h
 refine Gy [.tmp 2] Tryz.func41 G G (Jr fun b7=>(JLh (LS 1 (E1) ([]:List (List G2))) (Qd 1 G G) G (G5 (b7 (Jr fun b8=>(JLm (LS 1 (E1) l) G (JLl Hn G G G fun d2=>?_)))))))
 obtain⟨v3,b9,h⟩:=R2 h
 refine JLh (I64 v3) (Hs b9 G G G) G ?_
 obtain⟨m4,c0,h⟩:=Gd h
 obtain⟨c1,h⟩:=J5 h
 refine JLh (OW 1057 1 (LT 4 G2.av) ([]:List (Ln G2))) (fD 1057 G G G G Hn yR G (gB c0) c1) G (JLm (OW 1057 1 (LT 4 G2.av) ([]:List (Ln G2))) G (G5 (b8 (Js fun c2=>Jr fun c3=>(JLm (I64 0) G (G5 (c3 (Gf ?_))))))))
 obtain⟨c4,s,t,p,h⟩:=Hy h
 refine H8 (fun c (d:(List (Ln G2)))=>each c4 s (List.drop c l) c d=some r) (fun c d=>[(0,LS 1 (E1) l),(3,OW 1057 1 (LT 4 G2.av) d),(4,Ej c)]) (fun c d=>[(1057,.spare 74 1 d.length d.length)]) (fun c=>l.length - c) 0 [] h ⟨(.sm G G),⟨⟨_,G,.same⟩,U⟩,G⟩ ?_
 clear h
 intro c d k d3 c5
 refine Js fun u=>Jr fun v=>(JLm (Ej c) G (JLm (LS 1 (E1) l) G (JLl Hn G G G fun w=>(JLh (BL (decide ((c:Int) < (l.length:Int)))) (Hr G G G) G (G5 (v (Gg G (fun hb=>?_) (fun hb=>?_))))))))
 ·
  have m:=Je hb
  obtain⟨i,c9,x,z,h⟩:=Hh k m
  replace h:=Rx t h
  refine Gn (u (Js fun a0=>Gf (Jr fun a1=>(JLm (LS 1 (E1) l) G (JLm (Ej c) G (JLh (.dptr [E1 i]) (Gr (f:=(E1)) (xs:=l) (y:=i) G G G Hn x G) G (JLh (E1 i) (Ge Q6 G G G) G ?_)))))))
  obtain⟨e,a2,h⟩:=Gd h
  refine JLh (LT 4 G2.av e) (Gi G (mX i e a2) H54 ⟨G,G,U⟩) G (JLm (LT 4 G2.av e) G (G5 (a1 (G1 (JLm (OW 1057 1 (LT 4 G2.av) d) G (JLm (LT 4 G2.av e) G (JLh (LS 1 (LT 4 G2.av) [e]) (Hf (xs:=[LT 4 G2.av e]) G ⟨G,G,U⟩ Hn gN G G G G) G ?_)))))))
  obtain⟨a3,h⟩:=J5 h
  refine JLh (OW 1057 1 (LT 4 G2.av) (d++[e])) (R8 (f:=(LT 4 G2.av)) (xs:=d) (ys:=[e]) G G G G Hn yR a3 (fun _=>G) (.inl G) G) G (JLm (OW 1057 1 (LT 4 G2.av) (d++[e])) G (G5 (a0 (G1 (JLm (Ej c) G (JLh (I64 ((c+1:Nat):Int)) (Hs (Hb m w) G G G) G (JLm (I64 ((c+1:Nat):Int)) G (G5 (c5 _ _ (c+1) (d++[e]) (app1 z h) (by omega) ⟨(.sm G G),⟨⟨_,rfl,.same⟩,U⟩,rfl⟩)))))))))
 ·
  have h:=app1 p (Hi k (H6 hb))
  refine H9 (c2 (Js fun a4=>Jr fun a5=>(JLm (I64 0) G (G5 (a5 (Gf ?_))))))
  obtain⟨a6,h⟩:=J5 h
  obtain⟨c6,a7,a8,q,h⟩:=dW h
  refine H8 (fun b (a:(List (Ln G2)))=>upto c6 a7 ((12:Int).toNat - b) b a=some r) (fun b a=>[(0,LS 1 (E1) l),(3,OW 1057 1 (LT 4 G2.av) a),(6,Ej b)]) (fun b a=>[(1057,.spare 74 1 a.length a.length)]) (fun b=>(12:Int).toNat - b) 0 d h ⟨(.sm G G),⟨⟨_,G,.same⟩,U⟩,G⟩ ?_
  clear h
  intro b a n d4 c7
  refine Js fun a9=>Jr fun b0=>(JLm (Ej b) G (JLh (BL (decide ((b:Int) < 12))) (Hr G G G) G (G5 (b0 (Gg G (fun hb=>?_) (fun hb=>?_))))))
  ·
   have o:=cE hb
   obtain⟨d0,b1,h⟩:=cA n o
   replace h:=vG a8 h
   refine Gn (a9 (Js fun b2=>Gf (G1 (JLm (OW 1057 1 (LT 4 G2.av) a) G (JLm (Ej b) G ?_)))))
   obtain⟨g,b3,h⟩:=Gd h
   refine JLh (LT 4 G2.av (g,([]:List G2))) (H2.cv (Cv.of0 g) (Gi G (gW 1 (b:Int) g b3) ZI ⟨G,G,G,G,U⟩)) G (JLh (LS 1 (LT 4 G2.av) ([(g,([]:List G2))])) (Hf (xs:=[LT 4 G2.av (g,([]:List G2))]) G ⟨G,G,U⟩ Hn gN G G G G) G ?_)
   obtain⟨b4,h⟩:=J5 h
   refine JLh (OW 1057 1 (LT 4 G2.av) (a++[(g,([]:List G2))])) (R8 (f:=(LT 4 G2.av)) (xs:=a) (ys:=[(g,([]:List G2))]) G G G G Hn yR b4 (fun _=>G) (.inl G) G) G (JLm (OW 1057 1 (LT 4 G2.av) (a++[(g,([]:List G2))])) G (G5 (b2 (G1 (JLm (Ej b) G (JLh (I64 ((b+1:Nat):Int)) (Hs (Hb o (Zr a6)) G G G) G (JLm (I64 ((b+1:Nat):Int)) G (G5 (c7 _ _ (b+1) (a++[(g,([]:List G2))]) (app1 b1 h) (by omega) ⟨(.sm G G),⟨⟨_,rfl,.same⟩,U⟩,rfl⟩)))))))))
  ·
   have h:=app1 q (cB n (R9 hb))
   refine H9 (a4 (Jr fun b5=>(JLm (OW 1057 1 (LT 4 G2.av) a) G (JLm (LS 1 (E1) l) G (JLl Hn G G G fun d1=>?_)))))
   obtain⟨j,b6,h⟩:=Gd h
   refine JLh (LT 1 (LT 4 G2.av) (a.take j,a.drop j)) (yK (f:=(LT 4 G2.av)) (xs:=a) G G G Hn (Rq b6)) G (JLm (LT 1 (LT 4 G2.av) (a.take j,a.drop j)) G (G5 (b5 (Gs (fin1 (fun r:(Ln (Ln G2))=>(LT 1 (LT 4 G2.av) r:AV)) h)))))

def Rg (k:Int) (i:Int):Option (List Int):=
 bnd (Ho k i) fun a=>
 some [a]
theorem gV (k:Int) (i:Int) (r:(List Int)) (h:Rg k i=some r):Pure Ek 99 [I64 k,I64 i] (·=E2 r):=by
 unfold Rg at h
 refine Gy [.tmp 4] Tryz.func99 G G (Jr fun b=>(JLh (E2 ([]:List Int)) (Qd 1 G G) G (G5 (b (Jr fun c=>(JLm (I64 k) G (JLm (I64 i) G ?_)))))))
 obtain⟨a,d,h⟩:=Gd h
 refine JLh (I64 a) (Gi G (J0 k i a d) Y4 ⟨G,G,G,G,U⟩) G (JLh (E2 [a]) (Hf (xs:=[I64 a]) G ⟨G,G,U⟩ Gz Zq G G G G) G (JLm (E2 [a]) G (G5 (c (Gs (fin1 (fun r:(List Int)=>(E2 r:AV)) h))))))

def Z1 (l:List (List Int)):Option (Ln (Ln Int)):=
 chk ((l.length:Int)+12) fun k=>
 bnd (nI k) fun h=>
 need (decide (24*h≤281474976710656/\h≤maxLen)) <|
 each (fun i m (b:(List (Ln Int))) f=>
  bnd (R6 i) fun c=>
  need (decide ((b.length+[c].length)*24≤140737488355328/\b.length+[c].length≤maxLen)) <|
  f (b++[c]))
 (fun(b:(List (Ln Int)))=>
  need (decide (12≤9223372036854775807)) <|
  upto (fun j (a:(List (Ln Int))) g=>
   bnd (Rg 1 (j:Int)) fun d=>
   need (decide ((a.length+[(d,([]:List Int))].length)*24≤140737488355328/\a.length+[(d,([]:List Int))].length≤maxLen)) <|
   g (a++[(d,([]:List Int))]))
  (fun(a:(List (Ln Int)))=>
   bnd (cO (l.length:Int) a.length) fun e=>
   some (a.take e,a.drop e)) (12:Int).toNat 0 b) l 0 []
theorem nW (l:List (List Int)) (r:(Ln (Ln Int))) (h:Z1 l=some r):Pure Ek 42 [LS 1 (E2) l] (·=LT 1 (LT 1 I64) r):=by
 unfold Z1 at h
 refine Gy [.tmp 2] Tryz.func42 G G (Jr fun b7=>(JLh (LS 1 (E2) ([]:List (List Int))) (Qd 1 G G) G (G5 (b7 (Jr fun b8=>(JLm (LS 1 (E2) l) G (JLl Hz G G G fun d2=>?_)))))))
 obtain⟨v3,b9,h⟩:=R2 h
 refine JLh (I64 v3) (Hs b9 G G G) G ?_
 obtain⟨m4,c0,h⟩:=Gd h
 obtain⟨c1,h⟩:=J5 h
 refine JLh (OW 1058 1 (LT 1 I64) ([]:List (Ln Int))) (fD 1058 G G G G Hz oT G (gB c0) c1) G (JLm (OW 1058 1 (LT 1 I64) ([]:List (Ln Int))) G (G5 (b8 (Js fun c2=>Jr fun c3=>(JLm (I64 0) G (G5 (c3 (Gf ?_))))))))
 obtain⟨c4,s,t,p,h⟩:=Hy h
 refine H8 (fun c (d:(List (Ln Int)))=>each c4 s (List.drop c l) c d=some r) (fun c d=>[(0,LS 1 (E2) l),(3,OW 1058 1 (LT 1 I64) d),(4,Ej c)]) (fun c d=>[(1058,.spare 51 1 d.length d.length)]) (fun c=>l.length - c) 0 [] h ⟨(.sm G G),⟨⟨_,G,.same⟩,U⟩,G⟩ ?_
 clear h
 intro c d k d3 c5
 refine Js fun u=>Jr fun v=>(JLm (Ej c) G (JLm (LS 1 (E2) l) G (JLl Hz G G G fun w=>(JLh (BL (decide ((c:Int) < (l.length:Int)))) (Hr G G G) G (G5 (v (Gg G (fun hb=>?_) (fun hb=>?_))))))))
 ·
  have m:=Je hb
  obtain⟨i,c9,x,z,h⟩:=Hh k m
  replace h:=Rx t h
  refine Gn (u (Js fun a0=>Gf (Jr fun a1=>(JLm (LS 1 (E2) l) G (JLm (Ej c) G (JLh (.dptr [E2 i]) (Gr (f:=(E2)) (xs:=l) (y:=i) G G G Hz x G) G (JLh (E2 i) (Ge He G G G) G ?_)))))))
  obtain⟨e,a2,h⟩:=Gd h
  refine JLh (LT 1 I64 e) (Gi G (bD i e a2) tV ⟨G,G,U⟩) G (JLm (LT 1 I64 e) G (G5 (a1 (G1 (JLm (OW 1058 1 (LT 1 I64) d) G (JLm (LT 1 I64 e) G (JLh (LS 1 (LT 1 I64) [e]) (Hf (xs:=[LT 1 I64 e]) G ⟨G,G,U⟩ Hz mE G G G G) G ?_)))))))
  obtain⟨a3,h⟩:=J5 h
  refine JLh (OW 1058 1 (LT 1 I64) (d++[e])) (R8 (f:=(LT 1 I64)) (xs:=d) (ys:=[e]) G G G G Hz oT a3 (fun _=>G) (.inl G) G) G (JLm (OW 1058 1 (LT 1 I64) (d++[e])) G (G5 (a0 (G1 (JLm (Ej c) G (JLh (I64 ((c+1:Nat):Int)) (Hs (Hb m w) G G G) G (JLm (I64 ((c+1:Nat):Int)) G (G5 (c5 _ _ (c+1) (d++[e]) (app1 z h) (by omega) ⟨(.sm G G),⟨⟨_,rfl,.same⟩,U⟩,rfl⟩)))))))))
 ·
  have h:=app1 p (Hi k (H6 hb))
  refine H9 (c2 (Js fun a4=>Jr fun a5=>(JLm (I64 0) G (G5 (a5 (Gf ?_))))))
  obtain⟨a6,h⟩:=J5 h
  obtain⟨c6,a7,a8,q,h⟩:=dW h
  refine H8 (fun b (a:(List (Ln Int)))=>upto c6 a7 ((12:Int).toNat - b) b a=some r) (fun b a=>[(0,LS 1 (E2) l),(3,OW 1058 1 (LT 1 I64) a),(6,Ej b)]) (fun b a=>[(1058,.spare 51 1 a.length a.length)]) (fun b=>(12:Int).toNat - b) 0 d h ⟨(.sm G G),⟨⟨_,G,.same⟩,U⟩,G⟩ ?_
  clear h
  intro b a n d4 c7
  refine Js fun a9=>Jr fun b0=>(JLm (Ej b) G (JLh (BL (decide ((b:Int) < 12))) (Hr G G G) G (G5 (b0 (Gg G (fun hb=>?_) (fun hb=>?_))))))
  ·
   have o:=cE hb
   obtain⟨d0,b1,h⟩:=cA n o
   replace h:=vG a8 h
   refine Gn (a9 (Js fun b2=>Gf (G1 (JLm (OW 1058 1 (LT 1 I64) a) G (JLm (Ej b) G ?_)))))
   obtain⟨g,b3,h⟩:=Gd h
   refine JLh (LT 1 I64 (g,([]:List Int))) (H2.cv (Cv.of0 g) (Gi G (gV 1 (b:Int) g b3) ZH ⟨G,G,G,G,U⟩)) G (JLh (LS 1 (LT 1 I64) ([(g,([]:List Int))])) (Hf (xs:=[LT 1 I64 (g,([]:List Int))]) G ⟨G,G,U⟩ Hz mE G G G G) G ?_)
   obtain⟨b4,h⟩:=J5 h
   refine JLh (OW 1058 1 (LT 1 I64) (a++[(g,([]:List Int))])) (R8 (f:=(LT 1 I64)) (xs:=a) (ys:=[(g,([]:List Int))]) G G G G Hz oT b4 (fun _=>G) (.inl G) G) G (JLm (OW 1058 1 (LT 1 I64) (a++[(g,([]:List Int))])) G (G5 (b2 (G1 (JLm (Ej b) G (JLh (I64 ((b+1:Nat):Int)) (Hs (Hb o (Zr a6)) G G G) G (JLm (I64 ((b+1:Nat):Int)) G (G5 (c7 _ _ (b+1) (a++[(g,([]:List Int))]) (app1 b1 h) (by omega) ⟨(.sm G G),⟨⟨_,rfl,.same⟩,U⟩,rfl⟩)))))))))
  ·
   have h:=app1 q (cB n (R9 hb))
   refine H9 (a4 (Jr fun b5=>(JLm (OW 1058 1 (LT 1 I64) a) G (JLm (LS 1 (E2) l) G (JLl Hz G G G fun d1=>?_)))))
   obtain⟨j,b6,h⟩:=Gd h
   refine JLh (LT 1 (LT 1 I64) (a.take j,a.drop j)) (yK (f:=(LT 1 I64)) (xs:=a) G G G Hz (Rq b6)) G (JLm (LT 1 (LT 1 I64) (a.take j,a.drop j)) G (G5 (b5 (Gs (fin1 (fun r:(Ln (Ln Int))=>(LT 1 (LT 1 I64) r:AV)) h)))))

def aD (x:Ya):Option iO:=
 bnd (Z2 x.States) fun a=>
 bnd (Z1 x.Water) fun b=>
 some (iO.mk a b)
abbrev Kx:List AV:=[LS 1 (E1) ([]:List (List G2)),LS 1 (E2) ([]:List (List Int))]
theorem bC (x:Ya) (r:iO) (h:aD x=some r):Pure Ek 10 [.agg [LS 1 (E1) x.States,LS 1 (E2) x.Water]] (·=.agg [LT 1 (LT 4 G2.av) r.States,LT 1 (LT 1 I64) r.Water]):=by
 unfold aD at h
 refine Gy [.cell 2 37] Tryz.func10 G G (Jr fun c=>(JLh (.ptr 1014 0) (Jy (cs:=[LS 1 (E1) x.States,LS 1 (E2) x.Water]) 1014 G G G G G) G (JLh (.ptr 1015 0) (Rn 1015 Kx [.slice none 0 0,.slice none 0 0] tQ ⟨.inr ⟨_,G,G⟩,.inr ⟨_,G,G⟩,U⟩ G G) G (G5 (c (Jr fun d=>(JLh (.ptr 1014 0) (Z9 Qr G G) G (JLh (LS 1 (E1) x.States) (Zp Qe G G G G) G ?_))))))))
 obtain⟨a,e,h⟩:=Gd h
 refine JLh (LT 1 (LT 4 G2.av) a) (Gi G (nX x.States a e) H68 ⟨G,G,U⟩) G (JLh (.ptr 1014 0) (Z9 Qr G G) G (J7 (u:=.junk) (Hv (u:=LT 1 (LT 4 G2.av) a) (ds:=[LT 1 (LT 4 G2.av) a,LS 1 (E2) x.Water]) yM G G G G G G G G) (G5 (d (Jr fun f=>(JLh (.ptr 1014 1) (Z9 fU G G) G (JLh (LS 1 (E2) x.Water) (Zp cP G G G G) G ?_)))))))
 obtain⟨b,g,h⟩:=Gd h
 refine JLh (LT 1 (LT 1 I64) b) (Gi G (nW x.Water b g) H67 ⟨G,G,U⟩) G (JLh (.ptr 1014 1) (Z9 fU G G) G (J7 (u:=.junk) (Hv (u:=LT 1 (LT 1 I64) b) (ds:=[LT 1 (LT 4 G2.av) a,LT 1 (LT 1 I64) b]) ZB G G G G G G G G) (G5 (f (Gw [(1,.dptr [LT 1 (LT 4 G2.av) a,LT 1 (LT 1 I64) b]),(2,.ptr 1015 0)] [(1015,.box 37 Kx)] 1014 rfl rfl rfl ⟨⟨_,rfl,.boxEq rfl rfl⟩,U⟩ rfl (by exact⟨.ptr,.conv (.same rfl),U⟩) ?_)))))
 refine Jr fun i=>(JLh (.agg [LT 1 (LT 4 G2.av) a,LT 1 (LT 1 I64) b]) (Gj R5 G G G) G (J7 (u:=.junk) (Hv (u:=.agg [LT 1 (LT 4 G2.av) a,LT 1 (LT 1 I64) b]) (ds:=[LT 1 (LT 4 G2.av) a,LT 1 (LT 1 I64) b]) tU G G G G G G G G) (G5 (i (Gs (⟨[.agg [LT 1 (LT 4 G2.av) a,LT 1 (LT 1 I64) b]],[],U,G,⟨⟨_,⟨_,_,_,_,G,G,G,.inl ⟨R5,G⟩⟩,.conv (.same G)⟩,U⟩,G,congrArg (fun r:iO=>(.agg [LT 1 (LT 4 G2.av) r.States,LT 1 (LT 1 I64) r.Water]:AV)) (Pc h)⟩))))))

def R3 (a:List G2) (b:List G2):Option Bool:=
 bif decide ((a.length:Int)≠(b.length:Int)) then
 (some false)
 else
 (each (fun d e (f:Unit) c=>
   Jo b (e:Int) fun g=>
   bif (!decide (d=g)) then
   (some false)
   else
   (c ()))
  (fun(f:Unit)=>
   some true) a 0 ())
theorem fO (a:List G2) (b:List G2) (r:Bool) (h:R3 a b=some r):Pure Ek 142 [E1 a,E1 b] (·=BL r):=by
 unfold R3 at h
 refine Gy [.tmp 4] Tryz.func142 G G (Jr fun a0=>(JLm (BL false) G (G5 (a0 (Js fun a1=>Jr fun a2=>(JLm (E1 a) G (JLl H5 G G G fun a9=>(JLm (E1 b) G (JLl H5 G G G fun b0=>(JLh (BL (decide ((a.length:Int)≠(b.length:Int)))) (aH G G G) G (G5 (a2 (JCc G h (fun h hb=>?_) (fun h hb=>?_))))))))))))))
 ·
  refine Jr fun a3=>(JLm (BL false) G (G5 (a3 (Gs (fin1 BL h)))))
 ·
  refine Gn (a1 (Js fun a4=>Jr fun a5=>(JLm (I64 0) G (G5 (a5 (Gf ?_))))))
  obtain⟨a6,l,m,k,h⟩:=Hy h
  refine H8 (fun c (g:Unit)=>each a6 l (List.drop c a) c g=some r) (fun c g=>[(0,E1 a),(1,E1 b),(5,Ej c)]) (fun c g=>[]) (fun c=>a.length - c) 0 () h ⟨(.sm G G),U,G⟩ ?_
  clear h
  intro c g i b1 a7
  refine Js fun n=>Jr fun o=>(JLm (Ej c) G (JLm (E1 a) G (JLl H5 G G G fun p=>(JLh (BL (decide ((c:Int) < (a.length:Int)))) (Hr G G G) G (G5 (o (Gg G (fun hb=>?_) (fun hb=>?_))))))))
  ·
   have j:=Je hb
   obtain⟨d,a8,q,s,h⟩:=Hh i j
   replace h:=Rx m h
   refine Gn (n (Js fun t=>Gf (Js fun u=>?_)))
   obtain⟨b2,e,v,w,h⟩:=R0 h
   refine JC_d0 Jd (by kernel_rfl) (Dq (E1 a) (G3 G G) G (Dq (Ej c) (G3 G G) G (Dq (Ee d) (Gr (f:=G2.av) (xs:=a) (y:=d) G G G H5 q G) G (Dq (.agg (G2.cs d)) (Gj Zt G G G) G (Dq (E1 b) (G3 G G) G (Dq (Ej c) (G3 G G) G (Dq (Ee e) (Gr (f:=G2.av) (xs:=b) (y:=e) G G G H5 w v) G (Dq (.agg (G2.cs e)) (Gj Zt G G G) G (Dq (BL (!decide (d=e))) (uY (vs:=[.int .i64 d.Box,.int .i64 d.Slot.G6,.int .i64 d.Slot.Tier,.int .u8 d.Slot.Half]) (us:=[.int .i64 e.Box,.int .i64 e.Slot.G6,.int .i64 e.Slot.Tier,.int .u8 e.Slot.Half]) 4 G (J19 d e) wC HN G G G) G (Dnil (u (JCc G h (fun h hb=>?_) (fun h hb=>?_)))))))))))))
   ·
    refine Jr fun x=>(JLm (BL false) G (G5 (x (Gs (fin1 BL h)))))
   ·
    refine Gn (t (G1 (JLm (Ej c) G (JLh (I64 ((c+1:Nat):Int)) (Hs (Hb j p) G G G) G (JLm (I64 ((c+1:Nat):Int)) G (G5 (a7 _ _ (c+1) () (app1 s h) (by omega) ⟨(.sm G G),U,rfl⟩)))))))
  ·
   have h:=app1 k (Hi i (H6 hb))
   refine H9 (a4 (Jr fun z=>(JLm (BL true) G (G5 (z (Gs (fin1 BL h)))))))

def Yy (a:List (List G2)) (b:List (List G2)):Option Bool:=
 bif decide ((a.length:Int)≠(b.length:Int)) then
 (some false)
 else
 (each (fun d e (f:Unit) c=>
   Jo b (e:Int) fun g=>
   bnd (R3 d g) fun h=>
   bif (!h) then
   (some false)
   else
   (c ()))
  (fun(f:Unit)=>
   some true) a 0 ())
theorem nT (a:List (List G2)) (b:List (List G2)) (r:Bool) (h:Yy a b=some r):Pure Ek 139 [LS 1 (E1) a,LS 1 (E1) b] (·=BL r):=by
 unfold Yy at h
 refine Gy [.tmp 4] Tryz.func139 G G (Jr fun a2=>(JLm (BL false) G (G5 (a2 (Js fun a3=>Jr fun a4=>(JLm (LS 1 (E1) a) G (JLl Hn G G G fun b1=>(JLm (LS 1 (E1) b) G (JLl Hn G G G fun b2=>(JLh (BL (decide ((a.length:Int)≠(b.length:Int)))) (aH G G G) G (G5 (a4 (JCc G h (fun h hb=>?_) (fun h hb=>?_))))))))))))))
 ·
  refine Jr fun a5=>(JLm (BL false) G (G5 (a5 (Gs (fin1 BL h)))))
 ·
  refine Gn (a3 (Js fun a6=>Jr fun a7=>(JLm (I64 0) G (G5 (a7 (Gf ?_))))))
  obtain⟨a8,m,n,l,h⟩:=Hy h
  refine H8 (fun c (g:Unit)=>each a8 m (List.drop c a) c g=some r) (fun c g=>[(0,LS 1 (E1) a),(1,LS 1 (E1) b),(5,Ej c)]) (fun c g=>[]) (fun c=>a.length - c) 0 () h ⟨(.sm G G),U,G⟩ ?_
  clear h
  intro c g j b3 a9
  refine Js fun o=>Jr fun p=>(JLm (Ej c) G (JLm (LS 1 (E1) a) G (JLl Hn G G G fun q=>(JLh (BL (decide ((c:Int) < (a.length:Int)))) (Hr G G G) G (G5 (p (Gg G (fun hb=>?_) (fun hb=>?_))))))))
  ·
   have k:=Je hb
   obtain⟨d,b0,s,t,h⟩:=Hh j k
   replace h:=Rx n h
   refine Gn (o (Js fun u=>Gf (Js fun v=>?_)))
   obtain⟨b4,e,w,x,h⟩:=R0 h
   obtain⟨i,z,h⟩:=Gd h
   refine JC_d0 Jd (by kernel_rfl) (Dq (LS 1 (E1) a) (G3 G G) G (Dq (Ej c) (G3 G G) G (Dq (.dptr [E1 d]) (Gr (f:=(E1)) (xs:=a) (y:=d) G G G Hn s G) G (Dq (E1 d) (Ge Q6 G G G) G (Dq (LS 1 (E1) b) (G3 G G) G (Dq (Ej c) (G3 G G) G (Dq (.dptr [E1 e]) (Gr (f:=(E1)) (xs:=b) (y:=e) G G G Hn x w) G (Dq (E1 e) (Ge Q6 G G G) G (Dq (BL i) (Gi (args:=[E1 d,E1 e]) G (fO d e i z) QQ ⟨G,G,G,G,U⟩) G (Dq (BL (!i)) (Qj (b:=i) G G) G (Dnil (v (JCc G h (fun h hb=>?_) (fun h hb=>?_))))))))))))))
   ·
    refine Jr fun a0=>(JLm (BL false) G (G5 (a0 (Gs (fin1 BL h)))))
   ·
    refine Gn (u (G1 (JLm (Ej c) G (JLh (I64 ((c+1:Nat):Int)) (Hs (Hb k q) G G G) G (JLm (I64 ((c+1:Nat):Int)) G (G5 (a9 _ _ (c+1) () (app1 t h) (by omega) ⟨(.sm G G),U,rfl⟩)))))))
  ·
   have h:=app1 l (Hi j (H6 hb))
   refine H9 (a6 (Jr fun a1=>(JLm (BL true) G (G5 (a1 (Gs (fin1 BL h)))))))

def Yx (a:List (List Int)) (b:List (List Int)):Option Bool:=
 bif decide ((a.length:Int)≠(b.length:Int)) then
 (some false)
 else
 (each (fun d e (f:Unit) c=>
   Jo b (e:Int) fun g=>
   bnd (Ja d g) fun h=>
   bif (!h) then
   (some false)
   else
   (c ()))
  (fun(f:Unit)=>
   some true) a 0 ())
theorem nR (a:List (List Int)) (b:List (List Int)) (r:Bool) (h:Yx a b=some r):Pure Ek 140 [LS 1 (E2) a,LS 1 (E2) b] (·=BL r):=by
 unfold Yx at h
 refine Gy [.tmp 4] Tryz.func140 G G (Jr fun a2=>(JLm (BL false) G (G5 (a2 (Js fun a3=>Jr fun a4=>(JLm (LS 1 (E2) a) G (JLl Hz G G G fun b1=>(JLm (LS 1 (E2) b) G (JLl Hz G G G fun b2=>(JLh (BL (decide ((a.length:Int)≠(b.length:Int)))) (aH G G G) G (G5 (a4 (JCc G h (fun h hb=>?_) (fun h hb=>?_))))))))))))))
 ·
  refine Jr fun a5=>(JLm (BL false) G (G5 (a5 (Gs (fin1 BL h)))))
 ·
  refine Gn (a3 (Js fun a6=>Jr fun a7=>(JLm (I64 0) G (G5 (a7 (Gf ?_))))))
  obtain⟨a8,m,n,l,h⟩:=Hy h
  refine H8 (fun c (g:Unit)=>each a8 m (List.drop c a) c g=some r) (fun c g=>[(0,LS 1 (E2) a),(1,LS 1 (E2) b),(5,Ej c)]) (fun c g=>[]) (fun c=>a.length - c) 0 () h ⟨(.sm G G),U,G⟩ ?_
  clear h
  intro c g j b3 a9
  refine Js fun o=>Jr fun p=>(JLm (Ej c) G (JLm (LS 1 (E2) a) G (JLl Hz G G G fun q=>(JLh (BL (decide ((c:Int) < (a.length:Int)))) (Hr G G G) G (G5 (p (Gg G (fun hb=>?_) (fun hb=>?_))))))))
  ·
   have k:=Je hb
   obtain⟨d,b0,s,t,h⟩:=Hh j k
   replace h:=Rx n h
   refine Gn (o (Js fun u=>Gf (Js fun v=>?_)))
   obtain⟨b4,e,w,x,h⟩:=R0 h
   obtain⟨i,z,h⟩:=Gd h
   refine JC_d0 Jd (by kernel_rfl) (Dq (LS 1 (E2) a) (G3 G G) G (Dq (Ej c) (G3 G G) G (Dq (.dptr [E2 d]) (Gr (f:=(E2)) (xs:=a) (y:=d) G G G Hz s G) G (Dq (E2 d) (Ge He G G G) G (Dq (LS 1 (E2) b) (G3 G G) G (Dq (Ej c) (G3 G G) G (Dq (.dptr [E2 e]) (Gr (f:=(E2)) (xs:=b) (y:=e) G G G Hz x w) G (Dq (E2 e) (Ge He G G G) G (Dq (BL i) (Gi (args:=[E2 d,E2 e]) G (Jv d e i z) dI ⟨G,G,G,G,U⟩) G (Dq (BL (!i)) (Qj (b:=i) G G) G (Dnil (v (JCc G h (fun h hb=>?_) (fun h hb=>?_))))))))))))))
   ·
    refine Jr fun a0=>(JLm (BL false) G (G5 (a0 (Gs (fin1 BL h)))))
   ·
    refine Gn (u (G1 (JLm (Ej c) G (JLh (I64 ((c+1:Nat):Int)) (Hs (Hb k q) G G G) G (JLm (I64 ((c+1:Nat):Int)) G (G5 (a9 _ _ (c+1) () (app1 t h) (by omega) ⟨(.sm G G),U,rfl⟩)))))))
  ·
   have h:=app1 l (Hi j (H6 hb))
   refine H9 (a6 (Jr fun a1=>(JLm (BL true) G (G5 (a1 (Gs (fin1 BL h)))))))

def Zz (a:Ya) (b:Ya):Option Bool:=
 bnd (Yy a.States b.States) fun c=>
 bnd (bif c then Yx a.Water b.Water else some default) fun d=>
 some (c&&d)
abbrev Ky (a:Ya):List AV:=[LS 1 (E1) a.States,LS 1 (E2) a.Water]
theorem qH (a:Ya) (b:Ya) (r:Bool) (h:Zz a b=some r):Pure Ek 62 [.agg [LS 1 (E1) a.States,LS 1 (E2) a.Water],.agg [LS 1 (E1) b.States,LS 1 (E2) b.Water]] (·=BL r):=by
 unfold Zz at h
 refine Gy [.tmp 4] Tryz.func62 G G (Jr fun e=>(JLh (.ptr 1096 0) (Jy (cs:=(Ky a)) 1096 G G G G G) G (JLh (.ptr 1097 0) (Jy (cs:=(Ky b)) 1097 G G G G G) G (JLm (BL false) G (G5 (e (Gw [(2,.dptr (Ky a)),(3,.ptr 1097 0)] [(1097,.box 37 (Ky b))] 1096 rfl rfl rfl ⟨⟨_,rfl,.boxEq rfl rfl⟩,U⟩ rfl (by exact⟨.ptr,.conv (.same rfl),U⟩) (Gw [(2,.dptr (Ky a)),(3,.dptr (Ky b))] [] 1097 rfl rfl rfl U rfl (by exact⟨.conv (.same rfl),.ptr,U⟩) ?_))))))))
 refine Jr fun f=>(JLh (.dptr (Ky a)) (Ga Qr G G G) G (JLh (LS 1 (E1) a.States) (Ge Qe G G G) G (JLh (.dptr (Ky b)) (Ga Qr G G G) G (JLh (LS 1 (E1) b.States) (Ge Qe G G G) G ?_))))
 obtain⟨c,g,h⟩:=Gd h
 refine JLh (BL c) (Gi G (nT a.States b.States c g) Ge7 ⟨G,G,G,G,U⟩) G (JLm (BL c) G (JLo (.dptr [LS 1 (E2) a.Water]) [] G .sct U (fun hc=>Ga fU G G G) G (JLo (LS 1 (E2) a.Water) [11] G .sct ⟨Ua,U⟩ (fun hc=>Ge cP G G G) G (JLo (.dptr [LS 1 (E2) b.Water]) [] G .sct U (fun hc=>Ga fU G G G) G (JLo (LS 1 (E2) b.Water) [13] G .sct ⟨Ua,U⟩ (fun hc=>Ge cP G G G) G ?_)))))
 obtain⟨d,i,h⟩:=Gd h
 refine JLo (BL d) [12,14] G .sct ⟨Ua,Ua,U⟩ (fun hc=>Gi (args:=[LS 1 (E2) a.Water,LS 1 (E2) b.Water]) G (nR a.Water b.Water d (Gv hc i)) Ge6 ⟨G,G,G,G,U⟩) G (JLh (BL (c&&d)) (J9 G G G G) G (JLm (BL (c&&d)) G (G5 (f (Gs (fin1 BL h))))))

def Rv (out:Ln G2) (l:List G2):Option Bool:=
 bif decide ((out.1.length:Int)≠(l.length:Int)) then
 (some false)
 else
 (chk ((l.length:Int)+12) fun h=>
  bnd (cO h (out.1++out.2).length) fun i=>
  each (fun b a (e:Unit) d=>
   bnd (bif decide ((a:Int) < (l.length:Int)) then Jo l (a:Int) some else some default) fun c=>
   bnd (bif ((!((decide ((a:Int) < (l.length:Int)))&&(!(decide (b=c)))))&&(decide ((l.length:Int)≤(a:Int)))) then chk ((a:Int) - (l.length:Int)) some else some 0) fun f=>
   bnd (bif ((!((decide ((a:Int) < (l.length:Int)))&&(!(decide (b=c)))))&&(decide ((l.length:Int)≤(a:Int)))) then Qv 1 f else some default) fun g=>
   bif (((decide ((a:Int) < (l.length:Int)))&&(!(decide (b=c))))||((decide ((l.length:Int)≤(a:Int)))&&(!(decide (b=g))))) then
   (some false)
   else
   (d ()))
  (fun(e:Unit)=>
   some true) ((out.1++out.2).take i) 0 ())
theorem nA (out:Ln G2) (l:List G2) (r:Bool) (h:Rv out l=some r):Pure Ek 141 [LT 4 G2.av out,E1 l] (·=BL r):=by
 unfold Rv at h
 refine Gy [.tmp 4] Tryz.func141 G G (Jr fun a5=>(JLm (BL false) G (G5 (a5 (Js fun a6=>Jr fun a7=>(JLm (LT 4 G2.av out) G (JLl H5 G G G fun c0=>(JLm (E1 l) G (JLl H5 G G G fun b6=>(JLh (BL (decide ((out.1.length:Int)≠(l.length:Int)))) (aH G G G) G (G5 (a7 (JCc G h (fun h hb=>?_) (fun h hb=>?_))))))))))))))
 ·
  refine Jr fun a8=>(JLm (BL false) G (G5 (a8 (Gs (fin1 BL h)))))
 ·
  refine Gn (a6 (Jr fun a9=>(JLm (LT 4 G2.av out) G (JLm (E1 l) G (JLl H5 G G G fun b7=>?_)))))
  obtain⟨v6,b0,h⟩:=R2 h
  refine JLh (I64 v6) (Hs b0 G G G) G ?_
  obtain⟨i,b1,h⟩:=Gd h
  refine JLh (E1 ((out.1++out.2).take i)) (mD (f:=G2.av) (e:=out) G G G H5 (Rq b1)) G (JLm (E1 ((out.1++out.2).take i)) G (G5 (a9 (Js fun b2=>Jr fun b3=>(JLm (I64 0) G (G5 (b3 (Gf ?_))))))))
  obtain⟨b4,q,s,p,h⟩:=Hy h
  refine H8 (fun a (j:Unit)=>each b4 q (List.drop a ((out.1++out.2).take i)) a j=some r) (fun a j=>[(1,E1 l),(5,E1 ((out.1++out.2).take i)),(6,Ej a)]) (fun a j=>[]) (fun a=>((out.1++out.2).take i).length - a) 0 () h ⟨(.sm G G),U,G⟩ ?_
  clear h
  intro a j k c1 b5
  refine Js fun t=>Jr fun u=>(JLm (Ej a) G (JLm (E1 ((out.1++out.2).take i)) G (JLl H5 G G G fun v=>(JLh (BL (decide ((a:Int) < (((out.1++out.2).take i).length:Int)))) (Hr G G G) G (G5 (u (Gg G (fun hb=>?_) (fun hb=>?_))))))))
  ·
   have m:=Je hb
   obtain⟨c,b9,n,w,h⟩:=Hh k m
   replace h:=Rx s h
   refine Gn (t (Js fun x=>Gf (Js fun z=>?_)))
   obtain⟨d,a0,h⟩:=Gd h
   obtain⟨o,a1,h⟩:=Gd h
   obtain⟨g,a2,h⟩:=Gd h
   refine JC_d0 Jd (by kernel_rfl) (Dq (Ej a) (G3 G G) G (Dq (E1 l) (G3 G G) G (Dq (Ej l.length) (Q8 (f:=G2.av) (xs:=l) H5 G G) G (Dq (BL (decide ((a:Int) < (l.length:Int)))) (Hr G G G) G (Dq (BL (decide ((a:Int) < (l.length:Int)))) (G3 G G) G (Do (E1 ((out.1++out.2).take i)) [] G .sct U (fun hc=>G3 G G) G (Do (Ej a) [] G .sct U (fun hc=>G3 G G) G (Do (Ee c) [28,29] G .sct ⟨Ua,Ua,U⟩ (fun hc=>Gr (f:=G2.av) (xs:=((out.1++out.2).take i)) (y:=c) G G G H5 n G) G (Do (.agg (G2.cs c)) [30] G .sct ⟨Ua,U⟩ (fun hc=>Gj Zt G G G) G (Do (E1 l) [] G .sct U (fun hc=>G3 G G) G (Do (Ej a) [] G .sct U (fun hc=>G3 G G) G (Do (Ee d) [32,33] G .sct ⟨Ua,Ua,U⟩ (fun hc=>(match Jt (Gv hc a0) with | ⟨_,hm_,hy_⟩=>Gr (f:=G2.av) (xs:=l) (y:=d) G G G H5 hy_ hm_)) G (Do (.agg (G2.cs d)) [34] G .sct ⟨Ua,U⟩ (fun hc=>Gj Zt G G G) G ?_)))))))))))))
   refine Do (BL (decide (c=d))) [31,35] G .sct ⟨Ua,Ua,U⟩ (fun hc=>lA (vs:=[.int .i64 c.Box,.int .i64 c.Slot.G6,.int .i64 c.Slot.Tier,.int .u8 c.Slot.Half]) (us:=[.int .i64 d.Box,.int .i64 d.Slot.G6,.int .i64 d.Slot.Tier,.int .u8 d.Slot.Half]) 4 G (J19 c d) wC HN G G G) G (Do (BL (!(decide (c=d)))) [36] G .sct ⟨Ua,U⟩ (fun hc=>Qj (b:=decide (c=d)) G G) G (Dq (BL ((decide ((a:Int) < (l.length:Int)))&&(!(decide (c=d))))) (J9 G G G G) G (Dq (BL ((decide ((a:Int) < (l.length:Int)))&&(!(decide (c=d))))) (G3 G G) G (Do (Ej a) [] G .scf U (fun hc=>G3 G G) G (Do (E1 l) [] G .scf U (fun hc=>G3 G G) G (Do (Ej l.length) [41] G .scf ⟨Ua,U⟩ (fun hc=>Q8 (f:=G2.av) (xs:=l) H5 G G) G (Do (BL (decide ((l.length:Int)≤(a:Int)))) [40,42] G .scf ⟨Ua,Ua,U⟩ (fun hc=>cH G G G) G (Do (BL (decide ((l.length:Int)≤(a:Int)))) [43] G .scf ⟨Ua,U⟩ (fun hc=>G3 G G) G (Do (E1 ((out.1++out.2).take i)) [] G .optt U (fun hc=>G3 G G) G (Do (Ej a) [] G .optt U (fun hc=>G3 G G) G (Do (Ee c) [45,46] G .optt ⟨Ua,Ua,U⟩ (fun hc=>Gr (f:=G2.av) (xs:=((out.1++out.2).take i)) (y:=c) G G G H5 n G) G (Do (.agg (G2.cs c)) [47] G .optt ⟨Ua,U⟩ (fun hc=>Gj Zt G G G) G (Do (Ej a) [] G .optt U (fun hc=>G3 G G) G ?_)))))))))))))
   refine Do (E1 l) [] G .optt U (fun hc=>G3 G G) G (Do (Ej l.length) [50] G .optt ⟨Ua,U⟩ (fun hc=>Q8 (f:=G2.av) (xs:=l) H5 G G) G (Do (I64 o) [49,51] G .optt ⟨Ua,Ua,U⟩ (fun hc=>kX (aM (Gv hc a1)) G G G) G (Do (.agg (G2.cs g)) [52] G .optt ⟨Ua,U⟩ (fun hc=>Gi (args:=[I64 1,I64 o]) G (cU 1 o g (Gv hc a2)) vX ⟨G,G,G,G,U⟩) G (Do (BL (decide (c=g))) [48,53] G .optt ⟨Ua,Ua,U⟩ (fun hc=>lA (vs:=[.int .i64 c.Box,.int .i64 c.Slot.G6,.int .i64 c.Slot.Tier,.int .u8 c.Slot.Half]) (us:=[.int .i64 g.Box,.int .i64 g.Slot.G6,.int .i64 g.Slot.Tier,.int .u8 g.Slot.Half]) 4 G (J19 c g) wC HN G G G) G (Do (BL (!(decide (c=g)))) [54] G .optt ⟨Ua,U⟩ (fun hc=>Qj (b:=decide (c=g)) G G) G (Dg (.opt (!((decide ((a:Int) < (l.length:Int)))&&(!(decide (c=d))))) (BL ((decide ((l.length:Int)≤(a:Int)))&&(!(decide (c=g)))))) (Gc [(44,BL (decide ((l.length:Int)≤(a:Int)))),(55,_)] G G G .scf ⟨.all id,.part,U⟩ (fun hc=>J9 G G G G) G) G (Dq (BL (((decide ((a:Int) < (l.length:Int)))&&(!(decide (c=d))))||((decide ((l.length:Int)≤(a:Int)))&&(!(decide (c=g)))))) (Rm G G G G) G (Dnil ?_))))))))
   refine z (JCc G h (fun h hb=>?_) (fun h hb=>?_))
   ·
    refine Jr fun a3=>(JLm (BL false) G (G5 (a3 (Gs (fin1 BL h)))))
   ·
    refine Gn (x (G1 (JLm (Ej a) G (JLh (I64 ((a+1:Nat):Int)) (Hs (Hb m v) G G G) G (JLm (I64 ((a+1:Nat):Int)) G (G5 (b5 _ _ (a+1) () (app1 w h) (by omega) ⟨(.sm G G),U,rfl⟩)))))))
  ·
   have h:=app1 p (Hi k (H6 hb))
   refine H9 (b2 (Jr fun a4=>(JLm (BL true) G (G5 (a4 (Gs (fin1 BL h)))))))

def Z7 (out:Ln (Ln G2)) (l:List (List G2)):Option Bool:=
 bif decide ((out.1.length:Int)≠(l.length:Int)) then
 (some false)
 else
 (chk ((l.length:Int)+12) fun j=>
  bnd (cO j (out.1++out.2).length) fun k=>
  each (fun c a (e:Unit) d=>
   bnd (bif decide ((a:Int) < (l.length:Int)) then Jo l (a:Int) some else some default) fun f=>
   bnd (bif decide ((a:Int) < (l.length:Int)) then Rv c f else some default) fun b=>
   bnd (bif ((!((decide ((a:Int) < (l.length:Int)))&&(!b)))&&(decide ((l.length:Int)≤(a:Int)))) then chk ((a:Int) - (l.length:Int)) some else some 0) fun g=>
   bnd (bif ((!((decide ((a:Int) < (l.length:Int)))&&(!b)))&&(decide ((l.length:Int)≤(a:Int)))) then Rh 1 g else some default) fun h=>
   bnd (bif ((!((decide ((a:Int) < (l.length:Int)))&&(!b)))&&(decide ((l.length:Int)≤(a:Int)))) then R3 c.1 h else some default) fun i=>
   bif (((decide ((a:Int) < (l.length:Int)))&&(!b))||((decide ((l.length:Int)≤(a:Int)))&&(!i))) then
   (some false)
   else
   (d ()))
  (fun(e:Unit)=>
   some true) ((out.1++out.2).take k) 0 ())
theorem oD (out:Ln (Ln G2)) (l:List (List G2)) (r:Bool) (h:Z7 out l=some r):Pure Ek 63 [LT 1 (LT 4 G2.av) out,LS 1 (E1) l] (·=BL r):=by
 unfold Z7 at h
 refine Gy [.tmp 4] Tryz.func63 G G (Jr fun a9=>(JLm (BL false) G (G5 (a9 (Js fun b0=>Jr fun b1=>(JLm (LT 1 (LT 4 G2.av) out) G (JLl Hn G G G fun c4=>(JLm (LS 1 (E1) l) G (JLl Hn G G G fun c0=>(JLh (BL (decide ((out.1.length:Int)≠(l.length:Int)))) (aH G G G) G (G5 (b1 (JCc G h (fun h hb=>?_) (fun h hb=>?_))))))))))))))
 ·
  refine Jr fun b2=>(JLm (BL false) G (G5 (b2 (Gs (fin1 BL h)))))
 ·
  refine Gn (b0 (Jr fun b3=>(JLm (LT 1 (LT 4 G2.av) out) G (JLm (LS 1 (E1) l) G (JLl Hn G G G fun c1=>?_)))))
  obtain⟨v6,b4,h⟩:=R2 h
  refine JLh (I64 v6) (Hs b4 G G G) G ?_
  obtain⟨g,b5,h⟩:=Gd h
  refine JLh (LS 1 (LT 4 G2.av) ((out.1++out.2).take g)) (mD (f:=(LT 4 G2.av)) (e:=out) G G G Hn (Rq b5)) G (JLm (LS 1 (LT 4 G2.av) ((out.1++out.2).take g)) G (G5 (b3 (Js fun b6=>Jr fun b7=>(JLm (I64 0) G (G5 (b7 (Gf ?_))))))))
  obtain⟨b8,t,u,s,h⟩:=Hy h
  refine H8 (fun a (k:Unit)=>each b8 t (List.drop a ((out.1++out.2).take g)) a k=some r) (fun a k=>[(1,LS 1 (E1) l),(5,LS 1 (LT 4 G2.av) ((out.1++out.2).take g)),(6,Ej a)]) (fun a k=>[]) (fun a=>((out.1++out.2).take g).length - a) 0 () h ⟨(.sm G G),U,G⟩ ?_
  clear h
  intro a k n c5 b9
  refine Js fun v=>Jr fun w=>(JLm (Ej a) G (JLm (LS 1 (LT 4 G2.av) ((out.1++out.2).take g)) G (JLl Hn G G G fun x=>(JLh (BL (decide ((a:Int) < (((out.1++out.2).take g).length:Int)))) (Hr G G G) G (G5 (w (Gg G (fun hb=>?_) (fun hb=>?_))))))))
  ·
   have o:=Je hb
   obtain⟨c,c3,p,z,h⟩:=Hh n o
   replace h:=Rx u h
   refine Gn (v (Js fun a0=>Gf (Js fun a1=>?_)))
   obtain⟨j,a2,h⟩:=Gd h
   obtain⟨d,a3,h⟩:=Gd h
   obtain⟨q,a4,h⟩:=Gd h
   obtain⟨m,a5,h⟩:=Gd h
   obtain⟨i,a6,h⟩:=Gd h
   refine JC_d0 Jd (by kernel_rfl) (Dq (Ej a) (G3 G G) G (Dq (LS 1 (E1) l) (G3 G G) G (Dq (Ej l.length) (Q8 (f:=(E1)) (xs:=l) Hn G G) G (Dq (BL (decide ((a:Int) < (l.length:Int)))) (Hr G G G) G (Dq (BL (decide ((a:Int) < (l.length:Int)))) (G3 G G) G (Do (LS 1 (LT 4 G2.av) ((out.1++out.2).take g)) [] G .sct U (fun hc=>G3 G G) G (Do (Ej a) [] G .sct U (fun hc=>G3 G G) G (Do (.dptr [LT 4 G2.av c]) [28,29] G .sct ⟨Ua,Ua,U⟩ (fun hc=>Gr (f:=(LT 4 G2.av)) (xs:=((out.1++out.2).take g)) (y:=c) G G G Hn p G) G (Do (LT 4 G2.av c) [30] G .sct ⟨Ua,U⟩ (fun hc=>Ge Q6 G G G) G (Do (LS 1 (E1) l) [] G .sct U (fun hc=>G3 G G) G (Do (Ej a) [] G .sct U (fun hc=>G3 G G) G (Do (.dptr [E1 j]) [32,33] G .sct ⟨Ua,Ua,U⟩ (fun hc=>(match Jt (Gv hc a2) with | ⟨_,hm_,hy_⟩=>Gr (f:=(E1)) (xs:=l) (y:=j) G G G Hn hy_ hm_)) G (Do (E1 j) [34] G .sct ⟨Ua,U⟩ (fun hc=>Ge Q6 G G G) G ?_)))))))))))))
   refine Do (BL d) [31,35] G .sct ⟨Ua,Ua,U⟩ (fun hc=>Gi (args:=[LT 4 G2.av c,E1 j]) G (nA c j d (Gv hc a3)) Ge5 ⟨G,G,G,G,U⟩) G (Do (BL (!d)) [36] G .sct ⟨Ua,U⟩ (fun hc=>Qj (b:=d) G G) G (Dq (BL ((decide ((a:Int) < (l.length:Int)))&&(!d))) (J9 G G G G) G (Dq (BL ((decide ((a:Int) < (l.length:Int)))&&(!d))) (G3 G G) G (Do (Ej a) [] G .scf U (fun hc=>G3 G G) G (Do (LS 1 (E1) l) [] G .scf U (fun hc=>G3 G G) G (Do (Ej l.length) [41] G .scf ⟨Ua,U⟩ (fun hc=>Q8 (f:=(E1)) (xs:=l) Hn G G) G (Do (BL (decide ((l.length:Int)≤(a:Int)))) [40,42] G .scf ⟨Ua,Ua,U⟩ (fun hc=>cH G G G) G (Do (BL (decide ((l.length:Int)≤(a:Int)))) [43] G .scf ⟨Ua,U⟩ (fun hc=>G3 G G) G (Do (LS 1 (LT 4 G2.av) ((out.1++out.2).take g)) [] G .optt U (fun hc=>G3 G G) G (Do (Ej a) [] G .optt U (fun hc=>G3 G G) G (Do (.dptr [LT 4 G2.av c]) [45,46] G .optt ⟨Ua,Ua,U⟩ (fun hc=>Gr (f:=(LT 4 G2.av)) (xs:=((out.1++out.2).take g)) (y:=c) G G G Hn p G) G (Do (E1 c.1) [47] G .optt ⟨Ua,U⟩ (fun hc=>H2.cv (Cv.lst0 c) (Ge Q6 G G G)) G (Do (Ej a) [] G .optt U (fun hc=>G3 G G) G ?_)))))))))))))
   refine Do (LS 1 (E1) l) [] G .optt U (fun hc=>G3 G G) G (Do (Ej l.length) [50] G .optt ⟨Ua,U⟩ (fun hc=>Q8 (f:=(E1)) (xs:=l) Hn G G) G (Do (I64 q) [49,51] G .optt ⟨Ua,Ua,U⟩ (fun hc=>kX (aM (Gv hc a4)) G G G) G (Do (E1 m) [52] G .optt ⟨Ua,U⟩ (fun hc=>Gi (args:=[I64 1,I64 q]) G (gW 1 q m (Gv hc a5)) ZI ⟨G,G,G,G,U⟩) G (Do (BL i) [48,53] G .optt ⟨Ua,Ua,U⟩ (fun hc=>Gi (args:=[E1 c.1,E1 m]) G (fO c.1 m i (Gv hc a6)) QQ ⟨G,G,G,G,U⟩) G (Do (BL (!i)) [54] G .optt ⟨Ua,U⟩ (fun hc=>Qj (b:=i) G G) G (Dg (.opt (!((decide ((a:Int) < (l.length:Int)))&&(!d))) (BL ((decide ((l.length:Int)≤(a:Int)))&&(!i)))) (Gc [(44,BL (decide ((l.length:Int)≤(a:Int)))),(55,_)] G G G .scf ⟨.all id,.part,U⟩ (fun hc=>J9 G G G G) G) G (Dq (BL (((decide ((a:Int) < (l.length:Int)))&&(!d))||((decide ((l.length:Int)≤(a:Int)))&&(!i)))) (Rm G G G G) G (Dnil ?_))))))))
   refine a1 (JCc G h (fun h hb=>?_) (fun h hb=>?_))
   ·
    refine Jr fun a7=>(JLm (BL false) G (G5 (a7 (Gs (fin1 BL h)))))
   ·
    refine Gn (a0 (G1 (JLm (Ej a) G (JLh (I64 ((a+1:Nat):Int)) (Hs (Hb o x) G G G) G (JLm (I64 ((a+1:Nat):Int)) G (G5 (b9 _ _ (a+1) () (app1 z h) (by omega) ⟨(.sm G G),U,rfl⟩)))))))
  ·
   have h:=app1 s (Hi n (H6 hb))
   refine H9 (b6 (Jr fun a8=>(JLm (BL true) G (G5 (a8 (Gs (fin1 BL h)))))))

def Z6 (out:Ln (Ln Int)) (l:List (List Int)):Option Bool:=
 bif decide ((out.1.length:Int)≠(l.length:Int)) then
 (some false)
 else
 (chk ((l.length:Int)+12) fun j=>
  bnd (cO j (out.1++out.2).length) fun k=>
  each (fun c a (e:Unit) d=>
   bnd (bif decide ((a:Int) < (l.length:Int)) then Jo l (a:Int) some else some default) fun f=>
   bnd (bif decide ((a:Int) < (l.length:Int)) then Jb c f else some default) fun b=>
   bnd (bif ((!((decide ((a:Int) < (l.length:Int)))&&(!b)))&&(decide ((l.length:Int)≤(a:Int)))) then chk ((a:Int) - (l.length:Int)) some else some 0) fun g=>
   bnd (bif ((!((decide ((a:Int) < (l.length:Int)))&&(!b)))&&(decide ((l.length:Int)≤(a:Int)))) then Rg 1 g else some default) fun h=>
   bnd (bif ((!((decide ((a:Int) < (l.length:Int)))&&(!b)))&&(decide ((l.length:Int)≤(a:Int)))) then Ja c.1 h else some default) fun i=>
   bif (((decide ((a:Int) < (l.length:Int)))&&(!b))||((decide ((l.length:Int)≤(a:Int)))&&(!i))) then
   (some false)
   else
   (d ()))
  (fun(e:Unit)=>
   some true) ((out.1++out.2).take k) 0 ())
theorem oC (out:Ln (Ln Int)) (l:List (List Int)) (r:Bool) (h:Z6 out l=some r):Pure Ek 64 [LT 1 (LT 1 I64) out,LS 1 (E2) l] (·=BL r):=by
 unfold Z6 at h
 refine Gy [.tmp 4] Tryz.func64 G G (Jr fun a9=>(JLm (BL false) G (G5 (a9 (Js fun b0=>Jr fun b1=>(JLm (LT 1 (LT 1 I64) out) G (JLl Hz G G G fun c4=>(JLm (LS 1 (E2) l) G (JLl Hz G G G fun c0=>(JLh (BL (decide ((out.1.length:Int)≠(l.length:Int)))) (aH G G G) G (G5 (b1 (JCc G h (fun h hb=>?_) (fun h hb=>?_))))))))))))))
 ·
  refine Jr fun b2=>(JLm (BL false) G (G5 (b2 (Gs (fin1 BL h)))))
 ·
  refine Gn (b0 (Jr fun b3=>(JLm (LT 1 (LT 1 I64) out) G (JLm (LS 1 (E2) l) G (JLl Hz G G G fun c1=>?_)))))
  obtain⟨v6,b4,h⟩:=R2 h
  refine JLh (I64 v6) (Hs b4 G G G) G ?_
  obtain⟨g,b5,h⟩:=Gd h
  refine JLh (LS 1 (LT 1 I64) ((out.1++out.2).take g)) (mD (f:=(LT 1 I64)) (e:=out) G G G Hz (Rq b5)) G (JLm (LS 1 (LT 1 I64) ((out.1++out.2).take g)) G (G5 (b3 (Js fun b6=>Jr fun b7=>(JLm (I64 0) G (G5 (b7 (Gf ?_))))))))
  obtain⟨b8,t,u,s,h⟩:=Hy h
  refine H8 (fun a (k:Unit)=>each b8 t (List.drop a ((out.1++out.2).take g)) a k=some r) (fun a k=>[(1,LS 1 (E2) l),(5,LS 1 (LT 1 I64) ((out.1++out.2).take g)),(6,Ej a)]) (fun a k=>[]) (fun a=>((out.1++out.2).take g).length - a) 0 () h ⟨(.sm G G),U,G⟩ ?_
  clear h
  intro a k n c5 b9
  refine Js fun v=>Jr fun w=>(JLm (Ej a) G (JLm (LS 1 (LT 1 I64) ((out.1++out.2).take g)) G (JLl Hz G G G fun x=>(JLh (BL (decide ((a:Int) < (((out.1++out.2).take g).length:Int)))) (Hr G G G) G (G5 (w (Gg G (fun hb=>?_) (fun hb=>?_))))))))
  ·
   have o:=Je hb
   obtain⟨c,c3,p,z,h⟩:=Hh n o
   replace h:=Rx u h
   refine Gn (v (Js fun a0=>Gf (Js fun a1=>?_)))
   obtain⟨j,a2,h⟩:=Gd h
   obtain⟨d,a3,h⟩:=Gd h
   obtain⟨q,a4,h⟩:=Gd h
   obtain⟨m,a5,h⟩:=Gd h
   obtain⟨i,a6,h⟩:=Gd h
   refine JC_d0 Jd (by kernel_rfl) (Dq (Ej a) (G3 G G) G (Dq (LS 1 (E2) l) (G3 G G) G (Dq (Ej l.length) (Q8 (f:=(E2)) (xs:=l) Hz G G) G (Dq (BL (decide ((a:Int) < (l.length:Int)))) (Hr G G G) G (Dq (BL (decide ((a:Int) < (l.length:Int)))) (G3 G G) G (Do (LS 1 (LT 1 I64) ((out.1++out.2).take g)) [] G .sct U (fun hc=>G3 G G) G (Do (Ej a) [] G .sct U (fun hc=>G3 G G) G (Do (.dptr [LT 1 I64 c]) [28,29] G .sct ⟨Ua,Ua,U⟩ (fun hc=>Gr (f:=(LT 1 I64)) (xs:=((out.1++out.2).take g)) (y:=c) G G G Hz p G) G (Do (LT 1 I64 c) [30] G .sct ⟨Ua,U⟩ (fun hc=>Ge He G G G) G (Do (LS 1 (E2) l) [] G .sct U (fun hc=>G3 G G) G (Do (Ej a) [] G .sct U (fun hc=>G3 G G) G (Do (.dptr [E2 j]) [32,33] G .sct ⟨Ua,Ua,U⟩ (fun hc=>(match Jt (Gv hc a2) with | ⟨_,hm_,hy_⟩=>Gr (f:=(E2)) (xs:=l) (y:=j) G G G Hz hy_ hm_)) G (Do (E2 j) [34] G .sct ⟨Ua,U⟩ (fun hc=>Ge He G G G) G ?_)))))))))))))
   refine Do (BL d) [31,35] G .sct ⟨Ua,Ua,U⟩ (fun hc=>Gi (args:=[LT 1 I64 c,E2 j]) G (bE c j d (Gv hc a3)) qT ⟨G,G,G,G,U⟩) G (Do (BL (!d)) [36] G .sct ⟨Ua,U⟩ (fun hc=>Qj (b:=d) G G) G (Dq (BL ((decide ((a:Int) < (l.length:Int)))&&(!d))) (J9 G G G G) G (Dq (BL ((decide ((a:Int) < (l.length:Int)))&&(!d))) (G3 G G) G (Do (Ej a) [] G .scf U (fun hc=>G3 G G) G (Do (LS 1 (E2) l) [] G .scf U (fun hc=>G3 G G) G (Do (Ej l.length) [41] G .scf ⟨Ua,U⟩ (fun hc=>Q8 (f:=(E2)) (xs:=l) Hz G G) G (Do (BL (decide ((l.length:Int)≤(a:Int)))) [40,42] G .scf ⟨Ua,Ua,U⟩ (fun hc=>cH G G G) G (Do (BL (decide ((l.length:Int)≤(a:Int)))) [43] G .scf ⟨Ua,U⟩ (fun hc=>G3 G G) G (Do (LS 1 (LT 1 I64) ((out.1++out.2).take g)) [] G .optt U (fun hc=>G3 G G) G (Do (Ej a) [] G .optt U (fun hc=>G3 G G) G (Do (.dptr [LT 1 I64 c]) [45,46] G .optt ⟨Ua,Ua,U⟩ (fun hc=>Gr (f:=(LT 1 I64)) (xs:=((out.1++out.2).take g)) (y:=c) G G G Hz p G) G (Do (E2 c.1) [47] G .optt ⟨Ua,U⟩ (fun hc=>H2.cv (Cv.lst0 c) (Ge He G G G)) G (Do (Ej a) [] G .optt U (fun hc=>G3 G G) G ?_)))))))))))))
   refine Do (LS 1 (E2) l) [] G .optt U (fun hc=>G3 G G) G (Do (Ej l.length) [50] G .optt ⟨Ua,U⟩ (fun hc=>Q8 (f:=(E2)) (xs:=l) Hz G G) G (Do (I64 q) [49,51] G .optt ⟨Ua,Ua,U⟩ (fun hc=>kX (aM (Gv hc a4)) G G G) G (Do (E2 m) [52] G .optt ⟨Ua,U⟩ (fun hc=>Gi (args:=[I64 1,I64 q]) G (gV 1 q m (Gv hc a5)) ZH ⟨G,G,G,G,U⟩) G (Do (BL i) [48,53] G .optt ⟨Ua,Ua,U⟩ (fun hc=>Gi (args:=[E2 c.1,E2 m]) G (Jv c.1 m i (Gv hc a6)) dI ⟨G,G,G,G,U⟩) G (Do (BL (!i)) [54] G .optt ⟨Ua,U⟩ (fun hc=>Qj (b:=i) G G) G (Dg (.opt (!((decide ((a:Int) < (l.length:Int)))&&(!d))) (BL ((decide ((l.length:Int)≤(a:Int)))&&(!i)))) (Gc [(44,BL (decide ((l.length:Int)≤(a:Int)))),(55,_)] G G G .scf ⟨.all id,.part,U⟩ (fun hc=>J9 G G G G) G) G (Dq (BL (((decide ((a:Int) < (l.length:Int)))&&(!d))||((decide ((l.length:Int)≤(a:Int)))&&(!i)))) (Rm G G G G) G (Dnil ?_))))))))
   refine a1 (JCc G h (fun h hb=>?_) (fun h hb=>?_))
   ·
    refine Jr fun a7=>(JLm (BL false) G (G5 (a7 (Gs (fin1 BL h)))))
   ·
    refine Gn (a0 (G1 (JLm (Ej a) G (JLh (I64 ((a+1:Nat):Int)) (Hs (Hb o x) G G G) G (JLm (I64 ((a+1:Nat):Int)) G (G5 (b9 _ _ (a+1) () (app1 z h) (by omega) ⟨(.sm G G),U,rfl⟩)))))))
  ·
   have h:=app1 s (Hi n (H6 hb))
   refine H9 (b6 (Jr fun a8=>(JLm (BL true) G (G5 (a8 (Gs (fin1 BL h)))))))

def aF (x:iO) (y:Ya):Option Bool:=
 bnd (Zz (Ya.mk (x.States.1.map Prod.fst) (x.Water.1.map Prod.fst)) y) fun a=>
 bnd (bif a then Z7 x.States y.States else some default) fun b=>
 bnd (bif (a&&b) then Z6 x.Water y.Water else some default) fun c=>
 some ((a&&b)&&c)
theorem qN (x:iO) (y:Ya) (r:Bool) (h:aF x y=some r):Pure Ek 24 [.agg [LT 1 (LT 4 G2.av) x.States,LT 1 (LT 1 I64) x.Water],.agg [LS 1 (E1) y.States,LS 1 (E2) y.Water]] (·=BL r):=by
 unfold aF at h
 refine Gy [.tmp 4] Tryz.func24 G G (Jr fun d=>(JLh (.ptr 1041 0) (Jy (cs:=[LT 1 (LT 4 G2.av) x.States,LT 1 (LT 1 I64) x.Water]) 1041 G G G G G) G (JLh (.ptr 1042 0) (Jy (cs:=[LS 1 (E1) y.States,LS 1 (E2) y.Water]) 1042 G G G G G) G (JLm (BL false) G (G5 (d (Gw [(2,.dptr [LT 1 (LT 4 G2.av) x.States,LT 1 (LT 1 I64) x.Water]),(3,.ptr 1042 0)] [(1042,.box 37 [LS 1 (E1) y.States,LS 1 (E2) y.Water])] 1041 rfl rfl rfl ⟨⟨_,rfl,.boxEq rfl rfl⟩,U⟩ rfl (by exact⟨.ptr,.conv (.same rfl),U⟩) (Gw [(2,.dptr [LT 1 (LT 4 G2.av) x.States,LT 1 (LT 1 I64) x.Water]),(3,.dptr [LS 1 (E1) y.States,LS 1 (E2) y.Water])] [] 1042 rfl rfl rfl U rfl (by exact⟨.conv (.same rfl),.ptr,U⟩) ?_))))))))
 refine Jr fun e=>(JLh (.agg [LS 1 (E1) (x.States.1.map Prod.fst),LS 1 (E2) (x.Water.1.map Prod.fst)]) (H2.cv (Cv.aggL (cs:=[LT 1 (LT 4 G2.av) x.States,LT 1 (LT 1 I64) x.Water]) ⟨Cv.lstM (f:=(LT 4 G2.av)) (g:=(E1)) Prod.fst (fun x=>⟨Cv.lst0 x,U⟩) x.States,Cv.lstM (f:=(LT 1 I64)) (g:=(E2)) Prod.fst (fun x=>⟨Cv.lst0 x,U⟩) x.Water,U⟩) (Gj R5 G G G)) G (JLh (.agg [LS 1 (E1) y.States,LS 1 (E2) y.Water]) (Gj R5 G G G) G ?_))
 obtain⟨a,i,h⟩:=Gd h
 refine JLh (BL a) (Gi G (qH (Ya.mk (x.States.1.map Prod.fst) (x.Water.1.map Prod.fst)) y a i) H5a ⟨G,G,G,G,U⟩) G (JLm (BL a) G (JLo (.dptr [LT 1 (LT 4 G2.av) x.States,LT 1 (LT 1 I64) x.Water]) [] G .sct U (fun hc=>Ga Qr G G G) G (JLo (LT 1 (LT 4 G2.av) x.States) [9] G .sct ⟨Ua,U⟩ (fun hc=>Ge Qe G G G) G (JLo (.dptr [LS 1 (E1) y.States,LS 1 (E2) y.Water]) [] G .sct U (fun hc=>Ga Qr G G G) G (JLo (LS 1 (E1) y.States) [11] G .sct ⟨Ua,U⟩ (fun hc=>Ge Qe G G G) G ?_)))))
 obtain⟨b,j,h⟩:=Gd h
 refine JLo (BL b) [10,12] G .sct ⟨Ua,Ua,U⟩ (fun hc=>Gi (args:=[LT 1 (LT 4 G2.av) x.States,LS 1 (E1) y.States]) G (oD x.States y.States b (Gv hc j)) H59 ⟨G,G,G,G,U⟩) G (JLh (BL (a&&b)) (J9 G G G G) G (JLm (BL (a&&b)) G (JLo (.dptr [LT 1 (LT 1 I64) x.Water]) [] G .sct U (fun hc=>Ga fU G G G) G (JLo (LT 1 (LT 1 I64) x.Water) [16] G .sct ⟨Ua,U⟩ (fun hc=>Ge cP G G G) G (JLo (.dptr [LS 1 (E2) y.Water]) [] G .sct U (fun hc=>Ga fU G G G) G (JLo (LS 1 (E2) y.Water) [18] G .sct ⟨Ua,U⟩ (fun hc=>Ge cP G G G) G ?_))))))
 obtain⟨c,k,h⟩:=Gd h
 refine JLo (BL c) [17,19] G .sct ⟨Ua,Ua,U⟩ (fun hc=>Gi (args:=[LT 1 (LT 1 I64) x.Water,LS 1 (E2) y.Water]) G (oC x.Water y.Water c (Gv hc k)) H58 ⟨G,G,G,G,U⟩) G (JLh (BL ((a&&b)&&c)) (J9 G G G G) G (JLm (BL ((a&&b)&&c)) G (G5 (e (Gs (fin1 BL h))))))
end
end Go.Proofs.YthkihfoleenlmaaGreat
