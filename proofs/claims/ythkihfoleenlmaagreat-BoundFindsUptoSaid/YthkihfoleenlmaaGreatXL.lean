/- Walks of functions. -/
import Derived.Test.YthkihfoleenlmaaGreatXLa
set_option maxRecDepth 100000
set_option maxHeartbeats 1000000
set_option linter.unusedVariables false
set_option linter.unusedSimpArgs false
namespace Go.Proofs.YthkihfoleenlmaaGreat
open Go.RowKit
noncomputable section
open XAF
open XLF

def Ro (out:Ln H9) (l:List Gz):Option Bool:=
 bif decide ((out.1.length:Int)≠(l.length:Int)) then
 (some false)
 else
 (chk ((l.length:Int)+12) fun j=>
  bnd (cN j (out.1++out.2).length) fun k=>
  each (fun c a (e:Unit) d=>
   bnd (bif decide ((a:Int) < (l.length:Int)) then Jx l (a:Int) some else some default) fun f=>
   bnd (bif decide ((a:Int) < (l.length:Int)) then Rz c f else some default) fun b=>
   bnd (bif ((!((decide ((a:Int) < (l.length:Int)))&&(!b)))&&(decide ((l.length:Int)≤(a:Int)))) then chk ((a:Int) - (l.length:Int)) some else some 0) fun g=>
   bnd (bif ((!((decide ((a:Int) < (l.length:Int)))&&(!b)))&&(decide ((l.length:Int)≤(a:Int)))) then R0 1 g else some default) fun h=>
   bnd (bif ((!((decide ((a:Int) < (l.length:Int)))&&(!b)))&&(decide ((l.length:Int)≤(a:Int)))) then Jz (Gz.mk c.Bay c.Rows.1) h else some default) fun i=>
   bif (((decide ((a:Int) < (l.length:Int)))&&(!b))||((decide ((l.length:Int)≤(a:Int)))&&(!i))) then
   (some false)
   else
   (d ()))
  (fun(e:Unit)=>
   some true) ((out.1++out.2).take k) 0 ())
theorem mT (out:Ln H9) (l:List Gz) (r:Bool) (h:Ro out l=some r):Pure Ej 58 [LT 2 H9.av out,E6 l] (·=BL r):=by
 unfold Ro at h
 refine Gy [.tmp 4] Tryz.func58 ø ø (Jr fun a9=>(JLm (BL false) ø (G7 (a9 (Js fun b0=>Jr fun b1=>(JLm (LT 2 H9.av out) ø (JLl J6 ø ø ø fun c4=>(JLm (E6 l) ø (JLl J6 ø ø ø fun c0=>(JLh (BL (decide ((out.1.length:Int)≠(l.length:Int)))) (dX ø ø ø) ø (G7 (b1 (JCc ø h (fun h hb=>?_) (fun h hb=>?_))))))))))))))
 ·
  refine Jr fun b2=>(JLm (BL false) ø (G7 (b2 (Gt (fin1 BL h)))))
 ·
  refine Gn (b0 (Jr fun b3=>(JLm (LT 2 H9.av out) ø (JLm (E6 l) ø (JLl J6 ø ø ø fun c1=>?_)))))
  obtain⟨v6,b4,h⟩:=Hd h
  refine JLh (I64 v6) (Hf b4 ø ø ø) ø ?_
  obtain⟨i,b5,h⟩:=Ge h
  refine JLh (LS 2 H9.av ((out.1++out.2).take i)) (sS (f:=H9.av) (e:=out) ø ø ø J6 (Rw b5)) ø (JLm (LS 2 H9.av ((out.1++out.2).take i)) ø (G7 (b3 (Js fun b6=>Jr fun b7=>(JLm (I64 0) ø (G7 (b7 (Gi ?_))))))))
  obtain⟨b8,t,u,s,h⟩:=Jg h
  refine H7 (fun a (m:Unit)=>each b8 t (List.drop a ((out.1++out.2).take i)) a m=some r) (fun a m=>[(1,E6 l),(5,LS 2 H9.av ((out.1++out.2).take i)),(6,Ei a)]) (fun a m=>[]) (fun a=>((out.1++out.2).take i).length - a) 0 () h ⟨(.sm ø ø),þ,ø⟩ ?_
  clear h
  intro a m n c5 b9
  refine Js fun v=>Jr fun w=>(JLm (Ei a) ø (JLm (LS 2 H9.av ((out.1++out.2).take i)) ø (JLl J6 ø ø ø fun x=>(JLh (BL (decide ((a:Int) < (((out.1++out.2).take i).length:Int)))) (Ht ø ø ø) ø (G7 (w (Gm ø (fun hb=>?_) (fun hb=>?_))))))))
  ·
   have o:=Q1 hb
   obtain⟨c,c3,p,z,h⟩:=J4 n o
   replace h:=Zt u h
   refine Gn (v (Js fun a0=>Gi (Js fun a1=>?_)))
   obtain⟨d,a2,h⟩:=Ge h
   obtain⟨g,a3,h⟩:=Ge h
   obtain⟨q,a4,h⟩:=Ge h
   obtain⟨j,a5,h⟩:=Ge h
   obtain⟨k,a6,h⟩:=Ge h
   refine JC_d0 J9 (by kernel_rfl) (Dq (Ei a) (G3 ø ø) ø (Dq (E6 l) (G3 ø ø) ø (Dq (Ei l.length) (Q4 (f:=Gz.av) (xs:=l) J6 ø ø) ø (Dq (BL (decide ((a:Int) < (l.length:Int)))) (Ht ø ø ø) ø (Dq (BL (decide ((a:Int) < (l.length:Int)))) (G3 ø ø) ø (Do (LS 2 H9.av ((out.1++out.2).take i)) [] ø .sct þ (fun hc=>G3 ø ø) ø (Do (Ei a) [] ø .sct þ (fun hc=>G3 ø ø) ø (Do (.dptr [I64 c.Bay,LT 1 I64 c.Rows]) [28,29] ø .sct ⟨Ua,Ua,þ⟩ (fun hc=>Gs (f:=H9.av) (xs:=((out.1++out.2).take i)) (y:=c) ø ø ø J6 p ø) ø (Do (.agg [I64 c.Bay,LT 1 I64 c.Rows]) [30] ø .sct ⟨Ua,þ⟩ (fun hc=>Gk Zz ø ø ø) ø (Do (E6 l) [] ø .sct þ (fun hc=>G3 ø ø) ø (Do (Ei a) [] ø .sct þ (fun hc=>G3 ø ø) ø (Do (.dptr [I64 d.Bay,E1 d.Rows]) [32,33] ø .sct ⟨Ua,Ua,þ⟩ (fun hc=>(match Qk (Gw hc a2) with | ⟨_,hm_,hy_⟩=>Gs (f:=Gz.av) (xs:=l) (y:=d) ø ø ø J6 hy_ hm_)) ø (Do (.agg [I64 d.Bay,E1 d.Rows]) [34] ø .sct ⟨Ua,þ⟩ (fun hc=>Gk Zz ø ø ø) ø ?_)))))))))))))
   refine Do (BL g) [31,35] ø .sct ⟨Ua,Ua,þ⟩ (fun hc=>Gq (args:=[.agg [I64 c.Bay,LT 1 I64 c.Rows],.agg [I64 d.Bay,E1 d.Rows]]) ø (oJ c d g (Gw hc a3)) G9b ⟨ø,ø,ø,ø,þ⟩) ø (Do (BL (!g)) [36] ø .sct ⟨Ua,þ⟩ (fun hc=>Ym (b:=g) ø ø) ø (Dq (BL ((decide ((a:Int) < (l.length:Int)))&&(!g))) (Jf ø ø ø ø) ø (Dq (BL ((decide ((a:Int) < (l.length:Int)))&&(!g))) (G3 ø ø) ø (Do (Ei a) [] ø .scf þ (fun hc=>G3 ø ø) ø (Do (E6 l) [] ø .scf þ (fun hc=>G3 ø ø) ø (Do (Ei l.length) [41] ø .scf ⟨Ua,þ⟩ (fun hc=>Q4 (f:=Gz.av) (xs:=l) J6 ø ø) ø (Do (BL (decide ((l.length:Int)≤(a:Int)))) [40,42] ø .scf ⟨Ua,Ua,þ⟩ (fun hc=>dF ø ø ø) ø (Do (BL (decide ((l.length:Int)≤(a:Int)))) [43] ø .scf ⟨Ua,þ⟩ (fun hc=>G3 ø ø) ø (Do (LS 2 H9.av ((out.1++out.2).take i)) [] ø .optt þ (fun hc=>G3 ø ø) ø (Do (Ei a) [] ø .optt þ (fun hc=>G3 ø ø) ø (Do (.dptr [I64 c.Bay,LT 1 I64 c.Rows]) [45,46] ø .optt ⟨Ua,Ua,þ⟩ (fun hc=>Gs (f:=H9.av) (xs:=((out.1++out.2).take i)) (y:=c) ø ø ø J6 p ø) ø (Do (.agg [I64 c.Bay,E1 c.Rows.1]) [47] ø .optt ⟨Ua,þ⟩ (fun hc=>Gv.cv (Cv.aggL (cs:=[I64 c.Bay,LT 1 I64 c.Rows]) ⟨.same,Cv.lst0 c.Rows,þ⟩) (Gk Zz ø ø ø)) ø (Do (Ei a) [] ø .optt þ (fun hc=>G3 ø ø) ø ?_)))))))))))))
   refine Do (E6 l) [] ø .optt þ (fun hc=>G3 ø ø) ø (Do (Ei l.length) [50] ø .optt ⟨Ua,þ⟩ (fun hc=>Q4 (f:=Gz.av) (xs:=l) J6 ø ø) ø (Do (I64 q) [49,51] ø .optt ⟨Ua,Ua,þ⟩ (fun hc=>cB (bS (Gw hc a4)) ø ø ø) ø (Do (.agg [I64 j.Bay,E1 j.Rows]) [52] ø .optt ⟨Ua,þ⟩ (fun hc=>Gq (args:=[I64 1,I64 q]) ø (fN 1 q j (Gw hc a5)) RG ⟨ø,ø,ø,ø,þ⟩) ø (Do (BL k) [48,53] ø .optt ⟨Ua,Ua,þ⟩ (fun hc=>Gq (args:=[.agg [I64 c.Bay,E1 c.Rows.1],.agg [I64 j.Bay,E1 j.Rows]]) ø (bV (Gz.mk c.Bay c.Rows.1) j k (Gw hc a6)) tT ⟨ø,ø,ø,ø,þ⟩) ø (Do (BL (!k)) [54] ø .optt ⟨Ua,þ⟩ (fun hc=>Ym (b:=k) ø ø) ø (Dg (.opt (!((decide ((a:Int) < (l.length:Int)))&&(!g))) (BL ((decide ((l.length:Int)≤(a:Int)))&&(!k)))) (Gh [(44,BL (decide ((l.length:Int)≤(a:Int)))),(55,_)] ø ø ø .scf ⟨.all id,.part,þ⟩ (fun hc=>Jf ø ø ø ø) ø) ø (Dq (BL (((decide ((a:Int) < (l.length:Int)))&&(!g))||((decide ((l.length:Int)≤(a:Int)))&&(!k)))) (aJ ø ø ø ø) ø (Dnil ?_))))))))
   refine a1 (JCc ø h (fun h hb=>?_) (fun h hb=>?_))
   ·
    refine Jr fun a7=>(JLm (BL false) ø (G7 (a7 (Gt (fin1 BL h)))))
   ·
    refine Gn (a0 (G2 (JLm (Ei a) ø (JLh (I64 ((a+1:Nat):Int)) (Hf (Hq o x) ø ø ø) ø (JLm (I64 ((a+1:Nat):Int)) ø (G7 (b9 _ _ (a+1) () (app1 z h) (by omega) ⟨(.sm ø ø),þ,rfl⟩)))))))
  ·
   have h:=app1 s (J5 n (Hg hb))
   refine H5 (b6 (Jr fun a8=>(JLm (BL true) ø (G7 (a8 (Gt (fin1 BL h)))))))

def Y9 (out:Ln Row) (l:List Row):Option Bool:=
 bif decide ((out.1.length:Int)≠(l.length:Int)) then
 (some false)
 else
 (chk ((l.length:Int)+12) fun h=>
  bnd (cN h (out.1++out.2).length) fun i=>
  each (fun b a (e:Unit) d=>
   bnd (bif decide ((a:Int) < (l.length:Int)) then Jx l (a:Int) some else some default) fun c=>
   bnd (bif ((!((decide ((a:Int) < (l.length:Int)))&&(!(decide (b=c)))))&&(decide ((l.length:Int)≤(a:Int)))) then chk ((a:Int) - (l.length:Int)) some else some 0) fun f=>
   bnd (bif ((!((decide ((a:Int) < (l.length:Int)))&&(!(decide (b=c)))))&&(decide ((l.length:Int)≤(a:Int)))) then Rt 1 f else some default) fun g=>
   bif (((decide ((a:Int) < (l.length:Int)))&&(!(decide (b=c))))||((decide ((l.length:Int)≤(a:Int)))&&(!(decide (b=g))))) then
   (some false)
   else
   (d ()))
  (fun(e:Unit)=>
   some true) ((out.1++out.2).take i) 0 ())
theorem pD (out:Ln Row) (l:List Row) (r:Bool) (h:Y9 out l=some r):Pure Ej 59 [LT 5 Row.av out,E8 l] (·=BL r):=by
 unfold Y9 at h
 refine Gy [.tmp 4] Tryz.func59 ø ø (Jr fun a5=>(JLm (BL false) ø (G7 (a5 (Js fun a6=>Jr fun a7=>(JLm (LT 5 Row.av out) ø (JLl Qc ø ø ø fun c0=>(JLm (E8 l) ø (JLl Qc ø ø ø fun b6=>(JLh (BL (decide ((out.1.length:Int)≠(l.length:Int)))) (dX ø ø ø) ø (G7 (a7 (JCc ø h (fun h hb=>?_) (fun h hb=>?_))))))))))))))
 ·
  refine Jr fun a8=>(JLm (BL false) ø (G7 (a8 (Gt (fin1 BL h)))))
 ·
  refine Gn (a6 (Jr fun a9=>(JLm (LT 5 Row.av out) ø (JLm (E8 l) ø (JLl Qc ø ø ø fun b7=>?_)))))
  obtain⟨v6,b0,h⟩:=Hd h
  refine JLh (I64 v6) (Hf b0 ø ø ø) ø ?_
  obtain⟨i,b1,h⟩:=Ge h
  refine JLh (E8 ((out.1++out.2).take i)) (sS (f:=Row.av) (e:=out) ø ø ø Qc (Rw b1)) ø (JLm (E8 ((out.1++out.2).take i)) ø (G7 (a9 (Js fun b2=>Jr fun b3=>(JLm (I64 0) ø (G7 (b3 (Gi ?_))))))))
  obtain⟨b4,q,s,p,h⟩:=Jg h
  refine H7 (fun a (j:Unit)=>each b4 q (List.drop a ((out.1++out.2).take i)) a j=some r) (fun a j=>[(1,E8 l),(5,E8 ((out.1++out.2).take i)),(6,Ei a)]) (fun a j=>[]) (fun a=>((out.1++out.2).take i).length - a) 0 () h ⟨(.sm ø ø),þ,ø⟩ ?_
  clear h
  intro a j k c1 b5
  refine Js fun t=>Jr fun u=>(JLm (Ei a) ø (JLm (E8 ((out.1++out.2).take i)) ø (JLl Qc ø ø ø fun v=>(JLh (BL (decide ((a:Int) < (((out.1++out.2).take i).length:Int)))) (Ht ø ø ø) ø (G7 (u (Gm ø (fun hb=>?_) (fun hb=>?_))))))))
  ·
   have m:=Q1 hb
   obtain⟨c,b9,n,w,h⟩:=J4 k m
   replace h:=Zt s h
   refine Gn (t (Js fun x=>Gi (Js fun z=>?_)))
   obtain⟨d,a0,h⟩:=Ge h
   obtain⟨o,a1,h⟩:=Ge h
   obtain⟨g,a2,h⟩:=Ge h
   refine JC_d0 J9 (by kernel_rfl) (Dq (Ei a) (G3 ø ø) ø (Dq (E8 l) (G3 ø ø) ø (Dq (Ei l.length) (Q4 (f:=Row.av) (xs:=l) Qc ø ø) ø (Dq (BL (decide ((a:Int) < (l.length:Int)))) (Ht ø ø ø) ø (Dq (BL (decide ((a:Int) < (l.length:Int)))) (G3 ø ø) ø (Do (E8 ((out.1++out.2).take i)) [] ø .sct þ (fun hc=>G3 ø ø) ø (Do (Ei a) [] ø .sct þ (fun hc=>G3 ø ø) ø (Do (.dptr (Row.cs c)) [28,29] ø .sct ⟨Ua,Ua,þ⟩ (fun hc=>Gs (f:=Row.av) (xs:=((out.1++out.2).take i)) (y:=c) ø ø ø Qc n ø) ø (Do (.agg (Row.cs c)) [30] ø .sct ⟨Ua,þ⟩ (fun hc=>Gk kF ø ø ø) ø (Do (E8 l) [] ø .sct þ (fun hc=>G3 ø ø) ø (Do (Ei a) [] ø .sct þ (fun hc=>G3 ø ø) ø (Do (.dptr (Row.cs d)) [32,33] ø .sct ⟨Ua,Ua,þ⟩ (fun hc=>(match Qk (Gw hc a0) with | ⟨_,hm_,hy_⟩=>Gs (f:=Row.av) (xs:=l) (y:=d) ø ø ø Qc hy_ hm_)) ø (Do (.agg (Row.cs d)) [34] ø .sct ⟨Ua,þ⟩ (fun hc=>Gk kF ø ø ø) ø ?_)))))))))))))
   refine Do (BL (decide (c=d))) [31,35] ø .sct ⟨Ua,Ua,þ⟩ (fun hc=>hY (vs:=[.int .i64 c.Draught,.int .i64 c.Kilos,.int .i64 c.Buoy,.int .i64 c.Metacentre,.int .i64 c.vN]) (us:=[.int .i64 d.Draught,.int .i64 d.Kilos,.int .i64 d.Buoy,.int .i64 d.Metacentre,.int .i64 d.vN]) 4 ø (Geb c d) rV wF ø ø ø) ø (Do (BL (!(decide (c=d)))) [36] ø .sct ⟨Ua,þ⟩ (fun hc=>Ym (b:=decide (c=d)) ø ø) ø (Dq (BL ((decide ((a:Int) < (l.length:Int)))&&(!(decide (c=d))))) (Jf ø ø ø ø) ø (Dq (BL ((decide ((a:Int) < (l.length:Int)))&&(!(decide (c=d))))) (G3 ø ø) ø (Do (Ei a) [] ø .scf þ (fun hc=>G3 ø ø) ø (Do (E8 l) [] ø .scf þ (fun hc=>G3 ø ø) ø (Do (Ei l.length) [41] ø .scf ⟨Ua,þ⟩ (fun hc=>Q4 (f:=Row.av) (xs:=l) Qc ø ø) ø (Do (BL (decide ((l.length:Int)≤(a:Int)))) [40,42] ø .scf ⟨Ua,Ua,þ⟩ (fun hc=>dF ø ø ø) ø (Do (BL (decide ((l.length:Int)≤(a:Int)))) [43] ø .scf ⟨Ua,þ⟩ (fun hc=>G3 ø ø) ø (Do (E8 ((out.1++out.2).take i)) [] ø .optt þ (fun hc=>G3 ø ø) ø (Do (Ei a) [] ø .optt þ (fun hc=>G3 ø ø) ø (Do (.dptr (Row.cs c)) [45,46] ø .optt ⟨Ua,Ua,þ⟩ (fun hc=>Gs (f:=Row.av) (xs:=((out.1++out.2).take i)) (y:=c) ø ø ø Qc n ø) ø (Do (.agg (Row.cs c)) [47] ø .optt ⟨Ua,þ⟩ (fun hc=>Gk kF ø ø ø) ø (Do (Ei a) [] ø .optt þ (fun hc=>G3 ø ø) ø ?_)))))))))))))
   refine Do (E8 l) [] ø .optt þ (fun hc=>G3 ø ø) ø (Do (Ei l.length) [50] ø .optt ⟨Ua,þ⟩ (fun hc=>Q4 (f:=Row.av) (xs:=l) Qc ø ø) ø (Do (I64 o) [49,51] ø .optt ⟨Ua,Ua,þ⟩ (fun hc=>cB (bS (Gw hc a1)) ø ø ø) ø (Do (.agg (Row.cs g)) [52] ø .optt ⟨Ua,þ⟩ (fun hc=>Gq (args:=[I64 1,I64 o]) ø (gN 1 o g (Gw hc a2)) RF ⟨ø,ø,ø,ø,þ⟩) ø (Do (BL (decide (c=g))) [48,53] ø .optt ⟨Ua,Ua,þ⟩ (fun hc=>hY (vs:=[.int .i64 c.Draught,.int .i64 c.Kilos,.int .i64 c.Buoy,.int .i64 c.Metacentre,.int .i64 c.vN]) (us:=[.int .i64 g.Draught,.int .i64 g.Kilos,.int .i64 g.Buoy,.int .i64 g.Metacentre,.int .i64 g.vN]) 4 ø (Geb c g) rV wF ø ø ø) ø (Do (BL (!(decide (c=g)))) [54] ø .optt ⟨Ua,þ⟩ (fun hc=>Ym (b:=decide (c=g)) ø ø) ø (Dg (.opt (!((decide ((a:Int) < (l.length:Int)))&&(!(decide (c=d))))) (BL ((decide ((l.length:Int)≤(a:Int)))&&(!(decide (c=g)))))) (Gh [(44,BL (decide ((l.length:Int)≤(a:Int)))),(55,_)] ø ø ø .scf ⟨.all id,.part,þ⟩ (fun hc=>Jf ø ø ø ø) ø) ø (Dq (BL (((decide ((a:Int) < (l.length:Int)))&&(!(decide (c=d))))||((decide ((l.length:Int)≤(a:Int)))&&(!(decide (c=g)))))) (aJ ø ø ø ø) ø (Dnil ?_))))))))
   refine z (JCc ø h (fun h hb=>?_) (fun h hb=>?_))
   ·
    refine Jr fun a3=>(JLm (BL false) ø (G7 (a3 (Gt (fin1 BL h)))))
   ·
    refine Gn (x (G2 (JLm (Ei a) ø (JLh (I64 ((a+1:Nat):Int)) (Hf (Hq m v) ø ø ø) ø (JLm (I64 ((a+1:Nat):Int)) ø (G7 (b5 _ _ (a+1) () (app1 w h) (by omega) ⟨(.sm ø ø),þ,rfl⟩)))))))
  ·
   have h:=app1 p (J5 k (Hg hb))
   refine H5 (b2 (Jr fun a4=>(JLm (BL true) ø (G7 (a4 (Gt (fin1 BL h)))))))

def Rn (out:Ln Frame) (l:List Frame):Option Bool:=
 bif decide ((out.1.length:Int)≠(l.length:Int)) then
 (some false)
 else
 (chk ((l.length:Int)+12) fun h=>
  bnd (cN h (out.1++out.2).length) fun i=>
  each (fun b a (e:Unit) d=>
   bnd (bif decide ((a:Int) < (l.length:Int)) then Jx l (a:Int) some else some default) fun c=>
   bnd (bif ((!((decide ((a:Int) < (l.length:Int)))&&(!(decide (b=c)))))&&(decide ((l.length:Int)≤(a:Int)))) then chk ((a:Int) - (l.length:Int)) some else some 0) fun f=>
   bnd (bif ((!((decide ((a:Int) < (l.length:Int)))&&(!(decide (b=c)))))&&(decide ((l.length:Int)≤(a:Int)))) then Qz 1 f else some default) fun g=>
   bif (((decide ((a:Int) < (l.length:Int)))&&(!(decide (b=c))))||((decide ((l.length:Int)≤(a:Int)))&&(!(decide (b=g))))) then
   (some false)
   else
   (d ()))
  (fun(e:Unit)=>
   some true) ((out.1++out.2).take i) 0 ())
theorem mS (out:Ln Frame) (l:List Frame) (r:Bool) (h:Rn out l=some r):Pure Ej 60 [LT 5 Frame.av out,E7 l] (·=BL r):=by
 unfold Rn at h
 refine Gy [.tmp 4] Tryz.func60 ø ø (Jr fun a5=>(JLm (BL false) ø (G7 (a5 (Js fun a6=>Jr fun a7=>(JLm (LT 5 Frame.av out) ø (JLl Qb ø ø ø fun c0=>(JLm (E7 l) ø (JLl Qb ø ø ø fun b6=>(JLh (BL (decide ((out.1.length:Int)≠(l.length:Int)))) (dX ø ø ø) ø (G7 (a7 (JCc ø h (fun h hb=>?_) (fun h hb=>?_))))))))))))))
 ·
  refine Jr fun a8=>(JLm (BL false) ø (G7 (a8 (Gt (fin1 BL h)))))
 ·
  refine Gn (a6 (Jr fun a9=>(JLm (LT 5 Frame.av out) ø (JLm (E7 l) ø (JLl Qb ø ø ø fun b7=>?_)))))
  obtain⟨v6,b0,h⟩:=Hd h
  refine JLh (I64 v6) (Hf b0 ø ø ø) ø ?_
  obtain⟨i,b1,h⟩:=Ge h
  refine JLh (E7 ((out.1++out.2).take i)) (sS (f:=Frame.av) (e:=out) ø ø ø Qb (Rw b1)) ø (JLm (E7 ((out.1++out.2).take i)) ø (G7 (a9 (Js fun b2=>Jr fun b3=>(JLm (I64 0) ø (G7 (b3 (Gi ?_))))))))
  obtain⟨b4,q,s,p,h⟩:=Jg h
  refine H7 (fun a (j:Unit)=>each b4 q (List.drop a ((out.1++out.2).take i)) a j=some r) (fun a j=>[(1,E7 l),(5,E7 ((out.1++out.2).take i)),(6,Ei a)]) (fun a j=>[]) (fun a=>((out.1++out.2).take i).length - a) 0 () h ⟨(.sm ø ø),þ,ø⟩ ?_
  clear h
  intro a j k c1 b5
  refine Js fun t=>Jr fun u=>(JLm (Ei a) ø (JLm (E7 ((out.1++out.2).take i)) ø (JLl Qb ø ø ø fun v=>(JLh (BL (decide ((a:Int) < (((out.1++out.2).take i).length:Int)))) (Ht ø ø ø) ø (G7 (u (Gm ø (fun hb=>?_) (fun hb=>?_))))))))
  ·
   have m:=Q1 hb
   obtain⟨c,b9,n,w,h⟩:=J4 k m
   replace h:=Zt s h
   refine Gn (t (Js fun x=>Gi (Js fun z=>?_)))
   obtain⟨d,a0,h⟩:=Ge h
   obtain⟨o,a1,h⟩:=Ge h
   obtain⟨g,a2,h⟩:=Ge h
   refine JC_d0 J9 (by kernel_rfl) (Dq (Ei a) (G3 ø ø) ø (Dq (E7 l) (G3 ø ø) ø (Dq (Ei l.length) (Q4 (f:=Frame.av) (xs:=l) Qb ø ø) ø (Dq (BL (decide ((a:Int) < (l.length:Int)))) (Ht ø ø ø) ø (Dq (BL (decide ((a:Int) < (l.length:Int)))) (G3 ø ø) ø (Do (E7 ((out.1++out.2).take i)) [] ø .sct þ (fun hc=>G3 ø ø) ø (Do (Ei a) [] ø .sct þ (fun hc=>G3 ø ø) ø (Do (.dptr (Frame.cs c)) [28,29] ø .sct ⟨Ua,Ua,þ⟩ (fun hc=>Gs (f:=Frame.av) (xs:=((out.1++out.2).take i)) (y:=c) ø ø ø Qb n ø) ø (Do (.agg (Frame.cs c)) [30] ø .sct ⟨Ua,þ⟩ (fun hc=>Gk kE ø ø ø) ø (Do (E7 l) [] ø .sct þ (fun hc=>G3 ø ø) ø (Do (Ei a) [] ø .sct þ (fun hc=>G3 ø ø) ø (Do (.dptr (Frame.cs d)) [32,33] ø .sct ⟨Ua,Ua,þ⟩ (fun hc=>(match Qk (Gw hc a0) with | ⟨_,hm_,hy_⟩=>Gs (f:=Frame.av) (xs:=l) (y:=d) ø ø ø Qb hy_ hm_)) ø (Do (.agg (Frame.cs d)) [34] ø .sct ⟨Ua,þ⟩ (fun hc=>Gk kE ø ø ø) ø ?_)))))))))))))
   refine Do (BL (decide (c=d))) [31,35] ø .sct ⟨Ua,Ua,þ⟩ (fun hc=>hY (vs:=[.int .i64 c.X,.int .i64 c.Light,.int .i64 c.Share,.int .i64 c.Shear,.int .i64 c.Bend]) (us:=[.int .i64 d.X,.int .i64 d.Light,.int .i64 d.Share,.int .i64 d.Shear,.int .i64 d.Bend]) 4 ø (Gea c d) rT wE ø ø ø) ø (Do (BL (!(decide (c=d)))) [36] ø .sct ⟨Ua,þ⟩ (fun hc=>Ym (b:=decide (c=d)) ø ø) ø (Dq (BL ((decide ((a:Int) < (l.length:Int)))&&(!(decide (c=d))))) (Jf ø ø ø ø) ø (Dq (BL ((decide ((a:Int) < (l.length:Int)))&&(!(decide (c=d))))) (G3 ø ø) ø (Do (Ei a) [] ø .scf þ (fun hc=>G3 ø ø) ø (Do (E7 l) [] ø .scf þ (fun hc=>G3 ø ø) ø (Do (Ei l.length) [41] ø .scf ⟨Ua,þ⟩ (fun hc=>Q4 (f:=Frame.av) (xs:=l) Qb ø ø) ø (Do (BL (decide ((l.length:Int)≤(a:Int)))) [40,42] ø .scf ⟨Ua,Ua,þ⟩ (fun hc=>dF ø ø ø) ø (Do (BL (decide ((l.length:Int)≤(a:Int)))) [43] ø .scf ⟨Ua,þ⟩ (fun hc=>G3 ø ø) ø (Do (E7 ((out.1++out.2).take i)) [] ø .optt þ (fun hc=>G3 ø ø) ø (Do (Ei a) [] ø .optt þ (fun hc=>G3 ø ø) ø (Do (.dptr (Frame.cs c)) [45,46] ø .optt ⟨Ua,Ua,þ⟩ (fun hc=>Gs (f:=Frame.av) (xs:=((out.1++out.2).take i)) (y:=c) ø ø ø Qb n ø) ø (Do (.agg (Frame.cs c)) [47] ø .optt ⟨Ua,þ⟩ (fun hc=>Gk kE ø ø ø) ø (Do (Ei a) [] ø .optt þ (fun hc=>G3 ø ø) ø ?_)))))))))))))
   refine Do (E7 l) [] ø .optt þ (fun hc=>G3 ø ø) ø (Do (Ei l.length) [50] ø .optt ⟨Ua,þ⟩ (fun hc=>Q4 (f:=Frame.av) (xs:=l) Qb ø ø) ø (Do (I64 o) [49,51] ø .optt ⟨Ua,Ua,þ⟩ (fun hc=>cB (bS (Gw hc a1)) ø ø ø) ø (Do (.agg (Frame.cs g)) [52] ø .optt ⟨Ua,þ⟩ (fun hc=>Gq (args:=[I64 1,I64 o]) ø (fM 1 o g (Gw hc a2)) RE ⟨ø,ø,ø,ø,þ⟩) ø (Do (BL (decide (c=g))) [48,53] ø .optt ⟨Ua,Ua,þ⟩ (fun hc=>hY (vs:=[.int .i64 c.X,.int .i64 c.Light,.int .i64 c.Share,.int .i64 c.Shear,.int .i64 c.Bend]) (us:=[.int .i64 g.X,.int .i64 g.Light,.int .i64 g.Share,.int .i64 g.Shear,.int .i64 g.Bend]) 4 ø (Gea c g) rT wE ø ø ø) ø (Do (BL (!(decide (c=g)))) [54] ø .optt ⟨Ua,þ⟩ (fun hc=>Ym (b:=decide (c=g)) ø ø) ø (Dg (.opt (!((decide ((a:Int) < (l.length:Int)))&&(!(decide (c=d))))) (BL ((decide ((l.length:Int)≤(a:Int)))&&(!(decide (c=g)))))) (Gh [(44,BL (decide ((l.length:Int)≤(a:Int)))),(55,_)] ø ø ø .scf ⟨.all id,.part,þ⟩ (fun hc=>Jf ø ø ø ø) ø) ø (Dq (BL (((decide ((a:Int) < (l.length:Int)))&&(!(decide (c=d))))||((decide ((l.length:Int)≤(a:Int)))&&(!(decide (c=g)))))) (aJ ø ø ø ø) ø (Dnil ?_))))))))
   refine z (JCc ø h (fun h hb=>?_) (fun h hb=>?_))
   ·
    refine Jr fun a3=>(JLm (BL false) ø (G7 (a3 (Gt (fin1 BL h)))))
   ·
    refine Gn (x (G2 (JLm (Ei a) ø (JLh (I64 ((a+1:Nat):Int)) (Hf (Hq m v) ø ø ø) ø (JLm (I64 ((a+1:Nat):Int)) ø (G7 (b5 _ _ (a+1) () (app1 w h) (by omega) ⟨(.sm ø ø),þ,rfl⟩)))))))
  ·
   have h:=app1 p (J5 k (Hg hb))
   refine H5 (b2 (Jr fun a4=>(JLm (BL true) ø (G7 (a4 (Gt (fin1 BL h)))))))

def Y8 (x:Hk) (y:He):Option Bool:=
 bnd (Q7 (He.mk x.Kilos x.X x.Y x.Z x.Surface x.Steps.1) y) fun a=>
 bnd (bif a then Jh x.Steps y.Steps else some default) fun b=>
 some (a&&b)
abbrev Kw (y:He):List AV:=[I64 y.Kilos,I64 y.X,I64 y.Y,I64 y.Z,I64 y.Surface,E1 y.Steps]
theorem pB (x:Hk) (y:He) (r:Bool) (h:Y8 x y=some r):Pure Ej 137 [.agg (Hk.cs x),.agg (He.cs y)] (·=BL r):=by
 unfold Y8 at h
 refine Gy [.tmp 4] Tryz.func137 ø ø (Jr fun c=>(JLh (.ptr 1111 0) (Qr (cs:=[I64 x.Kilos,I64 x.X,I64 x.Y,I64 x.Z,I64 x.Surface,LT 1 I64 x.Steps]) 1111 ø ø ø ø ø) ø (JLh (.ptr 1112 0) (Qr (cs:=(Kw y)) 1112 ø ø ø ø ø) ø (JLm (BL false) ø (G7 (c (H1 [(2,.dptr (Hk.cs x)),(3,.ptr 1112 0)] [(1112,.box 177 (Kw y))] 1111 rfl rfl rfl ⟨⟨_,rfl,.boxEq rfl rfl⟩,þ⟩ rfl (by exact⟨.ptr,.conv (.same rfl),þ⟩) (H1 [(2,.dptr (Hk.cs x)),(3,Eh y)] [] 1112 rfl rfl rfl þ rfl (by exact⟨.conv (.same rfl),.ptr,þ⟩) ?_))))))))
 refine Jr fun d=>(JLh (.agg [I64 x.Kilos,I64 x.X,I64 x.Y,I64 x.Z,I64 x.Surface,E1 x.Steps.1]) (Gv.cv (Cv.aggL (cs:=(Hk.cs x)) ⟨.same,.same,.same,.same,.same,Cv.lst0 x.Steps,þ⟩) (Gk aY ø ø ø)) ø (JLh (.agg (He.cs y)) (Gk aY ø ø ø) ø ?_))
 obtain⟨a,e,h⟩:=Ge h
 refine JLh (BL a) (Gq ø (cE (He.mk x.Kilos x.X x.Y x.Z x.Surface x.Steps.1) y a e) tQ ⟨ø,ø,ø,ø,þ⟩) ø (JLm (BL a) ø (JLo (.dptr [LT 1 I64 x.Steps]) [] ø .sct þ (fun hc=>Gb dJ ø ø ø) ø (JLo (LT 1 I64 x.Steps) [9] ø .sct ⟨Ua,þ⟩ (fun hc=>Gj Hv ø ø ø) ø (JLo (.dptr [E1 y.Steps]) [] ø .sct þ (fun hc=>Gb dJ ø ø ø) ø (JLo (E1 y.Steps) [11] ø .sct ⟨Ua,þ⟩ (fun hc=>Gj Hv ø ø ø) ø ?_)))))
 obtain⟨b,f,h⟩:=Ge h
 refine JLo (BL b) [10,12] ø .sct ⟨Ua,Ua,þ⟩ (fun hc=>Gq (args:=[LT 1 I64 x.Steps,E1 y.Steps]) ø (cH x.Steps y.Steps b (Gw hc f)) tP ⟨ø,ø,ø,ø,þ⟩) ø (JLh (BL (a&&b)) (Jf ø ø ø ø) ø (JLm (BL (a&&b)) ø (G7 (d (Gt (fin1 BL h))))))

def Ry (out:Ln Hk) (l:List He):Option Bool:=
 bif decide ((out.1.length:Int)≠(l.length:Int)) then
 (some false)
 else
 (chk ((l.length:Int)+12) fun j=>
  bnd (cN j (out.1++out.2).length) fun k=>
  each (fun b a (e:Unit) d=>
   bnd (bif decide ((a:Int) < (l.length:Int)) then Jx l (a:Int) some else some default) fun f=>
   bnd (bif decide ((a:Int) < (l.length:Int)) then Y8 b f else some default) fun c=>
   bnd (bif ((!((decide ((a:Int) < (l.length:Int)))&&(!c)))&&(decide ((l.length:Int)≤(a:Int)))) then chk ((a:Int) - (l.length:Int)) some else some 0) fun g=>
   bnd (bif ((!((decide ((a:Int) < (l.length:Int)))&&(!c)))&&(decide ((l.length:Int)≤(a:Int)))) then Ra 1 g else some default) fun h=>
   bnd (bif ((!((decide ((a:Int) < (l.length:Int)))&&(!c)))&&(decide ((l.length:Int)≤(a:Int)))) then Q7 (He.mk b.Kilos b.X b.Y b.Z b.Surface b.Steps.1) h else some default) fun i=>
   bif (((decide ((a:Int) < (l.length:Int)))&&(!c))||((decide ((l.length:Int)≤(a:Int)))&&(!i))) then
   (some false)
   else
   (d ()))
  (fun(e:Unit)=>
   some true) ((out.1++out.2).take k) 0 ())
theorem oI (out:Ln Hk) (l:List He) (r:Bool) (h:Ry out l=some r):Pure Ej 61 [LT 6 Hk.av out,E9 l] (·=BL r):=by
 unfold Ry at h
 refine Gy [.tmp 4] Tryz.func61 ø ø (Jr fun a9=>(JLm (BL false) ø (G7 (a9 (Js fun b0=>Jr fun b1=>(JLm (LT 6 Hk.av out) ø (JLl Jy ø ø ø fun c4=>(JLm (E9 l) ø (JLl Jy ø ø ø fun c0=>(JLh (BL (decide ((out.1.length:Int)≠(l.length:Int)))) (dX ø ø ø) ø (G7 (b1 (JCc ø h (fun h hb=>?_) (fun h hb=>?_))))))))))))))
 ·
  refine Jr fun b2=>(JLm (BL false) ø (G7 (b2 (Gt (fin1 BL h)))))
 ·
  refine Gn (b0 (Jr fun b3=>(JLm (LT 6 Hk.av out) ø (JLm (E9 l) ø (JLl Jy ø ø ø fun c1=>?_)))))
  obtain⟨v6,b4,h⟩:=Hd h
  refine JLh (I64 v6) (Hf b4 ø ø ø) ø ?_
  obtain⟨g,b5,h⟩:=Ge h
  refine JLh (LS 6 Hk.av ((out.1++out.2).take g)) (sS (f:=Hk.av) (e:=out) ø ø ø Jy (Rw b5)) ø (JLm (LS 6 Hk.av ((out.1++out.2).take g)) ø (G7 (b3 (Js fun b6=>Jr fun b7=>(JLm (I64 0) ø (G7 (b7 (Gi ?_))))))))
  obtain⟨b8,t,u,s,h⟩:=Jg h
  refine H7 (fun a (k:Unit)=>each b8 t (List.drop a ((out.1++out.2).take g)) a k=some r) (fun a k=>[(1,E9 l),(5,LS 6 Hk.av ((out.1++out.2).take g)),(6,Ei a)]) (fun a k=>[]) (fun a=>((out.1++out.2).take g).length - a) 0 () h ⟨(.sm ø ø),þ,ø⟩ ?_
  clear h
  intro a k n c5 b9
  refine Js fun v=>Jr fun w=>(JLm (Ei a) ø (JLm (LS 6 Hk.av ((out.1++out.2).take g)) ø (JLl Jy ø ø ø fun x=>(JLh (BL (decide ((a:Int) < (((out.1++out.2).take g).length:Int)))) (Ht ø ø ø) ø (G7 (w (Gm ø (fun hb=>?_) (fun hb=>?_))))))))
  ·
   have o:=Q1 hb
   obtain⟨c,c3,p,z,h⟩:=J4 n o
   replace h:=Zt u h
   refine Gn (v (Js fun a0=>Gi (Js fun a1=>?_)))
   obtain⟨j,a2,h⟩:=Ge h
   obtain⟨d,a3,h⟩:=Ge h
   obtain⟨q,a4,h⟩:=Ge h
   obtain⟨m,a5,h⟩:=Ge h
   obtain⟨i,a6,h⟩:=Ge h
   refine JC_d0 J9 (by kernel_rfl) (Dq (Ei a) (G3 ø ø) ø (Dq (E9 l) (G3 ø ø) ø (Dq (Ei l.length) (Q4 (f:=He.av) (xs:=l) Jy ø ø) ø (Dq (BL (decide ((a:Int) < (l.length:Int)))) (Ht ø ø ø) ø (Dq (BL (decide ((a:Int) < (l.length:Int)))) (G3 ø ø) ø (Do (LS 6 Hk.av ((out.1++out.2).take g)) [] ø .sct þ (fun hc=>G3 ø ø) ø (Do (Ei a) [] ø .sct þ (fun hc=>G3 ø ø) ø (Do (.dptr (Hk.cs c)) [28,29] ø .sct ⟨Ua,Ua,þ⟩ (fun hc=>Gs (f:=Hk.av) (xs:=((out.1++out.2).take g)) (y:=c) ø ø ø Jy p ø) ø (Do (.agg (Hk.cs c)) [30] ø .sct ⟨Ua,þ⟩ (fun hc=>Gk aY ø ø ø) ø (Do (E9 l) [] ø .sct þ (fun hc=>G3 ø ø) ø (Do (Ei a) [] ø .sct þ (fun hc=>G3 ø ø) ø (Do (Eh j) [32,33] ø .sct ⟨Ua,Ua,þ⟩ (fun hc=>(match Qk (Gw hc a2) with | ⟨_,hm_,hy_⟩=>Gs (f:=He.av) (xs:=l) (y:=j) ø ø ø Jy hy_ hm_)) ø (Do (.agg (He.cs j)) [34] ø .sct ⟨Ua,þ⟩ (fun hc=>Gk aY ø ø ø) ø ?_)))))))))))))
   refine Do (BL d) [31,35] ø .sct ⟨Ua,Ua,þ⟩ (fun hc=>Gq (args:=[.agg (Hk.cs c),.agg (He.cs j)]) ø (pB c j d (Gw hc a3)) G9a ⟨ø,ø,ø,ø,þ⟩) ø (Do (BL (!d)) [36] ø .sct ⟨Ua,þ⟩ (fun hc=>Ym (b:=d) ø ø) ø (Dq (BL ((decide ((a:Int) < (l.length:Int)))&&(!d))) (Jf ø ø ø ø) ø (Dq (BL ((decide ((a:Int) < (l.length:Int)))&&(!d))) (G3 ø ø) ø (Do (Ei a) [] ø .scf þ (fun hc=>G3 ø ø) ø (Do (E9 l) [] ø .scf þ (fun hc=>G3 ø ø) ø (Do (Ei l.length) [41] ø .scf ⟨Ua,þ⟩ (fun hc=>Q4 (f:=He.av) (xs:=l) Jy ø ø) ø (Do (BL (decide ((l.length:Int)≤(a:Int)))) [40,42] ø .scf ⟨Ua,Ua,þ⟩ (fun hc=>dF ø ø ø) ø (Do (BL (decide ((l.length:Int)≤(a:Int)))) [43] ø .scf ⟨Ua,þ⟩ (fun hc=>G3 ø ø) ø (Do (LS 6 Hk.av ((out.1++out.2).take g)) [] ø .optt þ (fun hc=>G3 ø ø) ø (Do (Ei a) [] ø .optt þ (fun hc=>G3 ø ø) ø (Do (.dptr (Hk.cs c)) [45,46] ø .optt ⟨Ua,Ua,þ⟩ (fun hc=>Gs (f:=Hk.av) (xs:=((out.1++out.2).take g)) (y:=c) ø ø ø Jy p ø) ø (Do (.agg [I64 c.Kilos,I64 c.X,I64 c.Y,I64 c.Z,I64 c.Surface,E1 c.Steps.1]) [47] ø .optt ⟨Ua,þ⟩ (fun hc=>Gv.cv (Cv.aggL (cs:=(Hk.cs c)) ⟨.same,.same,.same,.same,.same,Cv.lst0 c.Steps,þ⟩) (Gk aY ø ø ø)) ø (Do (Ei a) [] ø .optt þ (fun hc=>G3 ø ø) ø ?_)))))))))))))
   refine Do (E9 l) [] ø .optt þ (fun hc=>G3 ø ø) ø (Do (Ei l.length) [50] ø .optt ⟨Ua,þ⟩ (fun hc=>Q4 (f:=He.av) (xs:=l) Jy ø ø) ø (Do (I64 q) [49,51] ø .optt ⟨Ua,Ua,þ⟩ (fun hc=>cB (bS (Gw hc a4)) ø ø ø) ø (Do (.agg (He.cs m)) [52] ø .optt ⟨Ua,þ⟩ (fun hc=>Gq (args:=[I64 1,I64 q]) ø (gD 1 q m (Gw hc a5)) RD ⟨ø,ø,ø,ø,þ⟩) ø (Do (BL i) [48,53] ø .optt ⟨Ua,Ua,þ⟩ (fun hc=>Gq (args:=[.agg [I64 c.Kilos,I64 c.X,I64 c.Y,I64 c.Z,I64 c.Surface,E1 c.Steps.1],.agg (He.cs m)]) ø (cE (He.mk c.Kilos c.X c.Y c.Z c.Surface c.Steps.1) m i (Gw hc a6)) tQ ⟨ø,ø,ø,ø,þ⟩) ø (Do (BL (!i)) [54] ø .optt ⟨Ua,þ⟩ (fun hc=>Ym (b:=i) ø ø) ø (Dg (.opt (!((decide ((a:Int) < (l.length:Int)))&&(!d))) (BL ((decide ((l.length:Int)≤(a:Int)))&&(!i)))) (Gh [(44,BL (decide ((l.length:Int)≤(a:Int)))),(55,_)] ø ø ø .scf ⟨.all id,.part,þ⟩ (fun hc=>Jf ø ø ø ø) ø) ø (Dq (BL (((decide ((a:Int) < (l.length:Int)))&&(!d))||((decide ((l.length:Int)≤(a:Int)))&&(!i)))) (aJ ø ø ø ø) ø (Dnil ?_))))))))
   refine a1 (JCc ø h (fun h hb=>?_) (fun h hb=>?_))
   ·
    refine Jr fun a7=>(JLm (BL false) ø (G7 (a7 (Gt (fin1 BL h)))))
   ·
    refine Gn (a0 (G2 (JLm (Ei a) ø (JLh (I64 ((a+1:Nat):Int)) (Hf (Hq o x) ø ø ø) ø (JLm (I64 ((a+1:Nat):Int)) ø (G7 (b9 _ _ (a+1) () (app1 z h) (by omega) ⟨(.sm ø ø),þ,rfl⟩)))))))
  ·
   have h:=app1 s (J5 n (Hg hb))
   refine H5 (b6 (Jr fun a8=>(JLm (BL true) ø (G7 (a8 (Gt (fin1 BL h)))))))

def Zc (x:Yq) (y:H2):Option Bool:=
 bnd (Z7 (H2.mk (x.Columns.1.map Gu.pl) (x.Covers.1.map H9.pl) x.Light x.Rows.1 x.Frames.1 (x.Tanks.1.map Hk.pl) x.Gp) y) fun a=>
 bnd (bif a then Rc x.Columns y.Columns else some default) fun b=>
 bnd (bif (a&&b) then Ro x.Covers y.Covers else some default) fun c=>
 bnd (bif ((a&&b)&&c) then Y9 x.Rows y.Rows else some default) fun d=>
 bnd (bif (((a&&b)&&c)&&d) then Rn x.Frames y.Frames else some default) fun e=>
 bnd (bif ((((a&&b)&&c)&&d)&&e) then Ry x.Tanks y.Tanks else some default) fun f=>
 some (((((a&&b)&&c)&&d)&&e)&&f)
theorem pC (x:Yq) (y:H2) (r:Bool) (h:Zc x y=some r):Pure Ej 22 [.agg (Yq.cs x),.agg (H2.cs y)] (·=BL r):=by
 unfold Zc at h
 refine Gy [.tmp 4] Tryz.func22 ø ø (Jr fun j=>(JLh (.ptr 1008 0) (Qr (cs:=(Yq.cs x)) 1008 ø ø ø ø ø) ø (JLh (.ptr 1009 0) (Qr (cs:=(H2.cs y)) 1009 ø ø ø ø ø) ø (JLm (BL false) ø (G7 (j ?_))))))
 refine H1 [(2,.dptr (Yq.cs x)),(3,.ptr 1009 0)] [(1009,.box 32 (H2.cs y))] 1008 rfl rfl rfl ⟨⟨_,rfl,.boxEq rfl rfl⟩,þ⟩ rfl (by exact⟨.ptr,.conv (.same rfl),þ⟩) (H1 [(2,.dptr (Yq.cs x)),(3,Ec y)] [] 1009 rfl rfl rfl þ rfl (by exact⟨.conv (.same rfl),.ptr,þ⟩) ?_)
 refine Jr fun k=>(JLh (.agg [E5 (x.Columns.1.map Gu.pl),E6 (x.Covers.1.map H9.pl),I64 x.Light.Kilos,I64 x.Light.X,I64 x.Light.Y,I64 x.Light.Z,E8 x.Rows.1,E7 x.Frames.1,E9 (x.Tanks.1.map Hk.pl),I64 x.Gp.Tolerance,I64 x.Gp.Trim,I64 x.Gp.List_,I64 x.Gp.Stability]) (Gv.cv (Cv.aggL (cs:=(Yq.cs x)) ⟨Cv.lstM (f:=Gu.av) (g:=Gc.av) Gu.pl Gu.cvl x.Columns,Cv.lstM (f:=H9.av) (g:=Gz.av) H9.pl H9.cvl x.Covers,.same,.same,.same,.same,Cv.lst0 x.Rows,Cv.lst0 x.Frames,Cv.lstM (f:=Hk.av) (g:=He.av) Hk.pl Hk.cvl x.Tanks,.same,.same,.same,.same,þ⟩) (Gk Qa ø ø ø)) ø (JLh (.agg (H2.cs y)) (Gk Qa ø ø ø) ø ?_))
 obtain⟨a,l,h⟩:=Ge h
 refine JLh (BL a) (Gq ø (oV (H2.mk (x.Columns.1.map Gu.pl) (x.Covers.1.map H9.pl) x.Light x.Rows.1 x.Frames.1 (x.Tanks.1.map Hk.pl) x.Gp) y a l) H08 ⟨ø,ø,ø,ø,þ⟩) ø (JLm (BL a) ø (JLo (.dptr (Yq.cs x)) [] ø .sct þ (fun hc=>Gb J1 ø ø ø) ø (JLo (LT 12 Gu.av x.Columns) [9] ø .sct ⟨Ua,þ⟩ (fun hc=>Gj Jd ø ø ø) ø (JLo (Ec y) [] ø .sct þ (fun hc=>Gb J1 ø ø ø) ø (JLo (E5 y.Columns) [11] ø .sct ⟨Ua,þ⟩ (fun hc=>Gj Jd ø ø ø) ø ?_)))))
 obtain⟨b,m,h⟩:=Ge h
 refine JLo (BL b) [10,12] ø .sct ⟨Ua,Ua,þ⟩ (fun hc=>Gq (args:=[LT 12 Gu.av x.Columns,E5 y.Columns]) ø (lO x.Columns y.Columns b (Gw hc m)) H07 ⟨ø,ø,ø,ø,þ⟩) ø (JLh (BL (a&&b)) (Jf ø ø ø ø) ø (JLm (BL (a&&b)) ø (JLo (.dptr ((Yq.cs x).drop 1)) [] ø .sct þ (fun hc=>Gb Qv ø ø ø) ø (JLo (LT 2 H9.av x.Covers) [16] ø .sct ⟨Ua,þ⟩ (fun hc=>Gj Y2 ø ø ø) ø (JLo (.dptr ((H2.cs y).drop 1)) [] ø .sct þ (fun hc=>Gb Qv ø ø ø) ø (JLo (E6 y.Covers) [18] ø .sct ⟨Ua,þ⟩ (fun hc=>Gj Y2 ø ø ø) ø ?_))))))
 obtain⟨c,n,h⟩:=Ge h
 refine JLo (BL c) [17,19] ø .sct ⟨Ua,Ua,þ⟩ (fun hc=>Gq (args:=[LT 2 H9.av x.Covers,E6 y.Covers]) ø (mT x.Covers y.Covers c (Gw hc n)) H06 ⟨ø,ø,ø,ø,þ⟩) ø (JLh (BL ((a&&b)&&c)) (Jf ø ø ø ø) ø (JLm (BL ((a&&b)&&c)) ø (JLo (.dptr ((Yq.cs x).drop 6)) [] ø .sct þ (fun hc=>Gb eS ø ø ø) ø (JLo (LT 5 Row.av x.Rows) [23] ø .sct ⟨Ua,þ⟩ (fun hc=>Gj jG ø ø ø) ø (JLo (.dptr ((H2.cs y).drop 6)) [] ø .sct þ (fun hc=>Gb eS ø ø ø) ø (JLo (E8 y.Rows) [25] ø .sct ⟨Ua,þ⟩ (fun hc=>Gj jG ø ø ø) ø ?_))))))
 obtain⟨d,o,h⟩:=Ge h
 refine JLo (BL d) [24,26] ø .sct ⟨Ua,Ua,þ⟩ (fun hc=>Gq (args:=[LT 5 Row.av x.Rows,E8 y.Rows]) ø (pD x.Rows y.Rows d (Gw hc o)) H05 ⟨ø,ø,ø,ø,þ⟩) ø (JLh (BL (((a&&b)&&c)&&d)) (Jf ø ø ø ø) ø (JLm (BL (((a&&b)&&c)&&d)) ø (JLo (.dptr ((Yq.cs x).drop 7)) [] ø .sct þ (fun hc=>Gb eR ø ø ø) ø (JLo (LT 5 Frame.av x.Frames) [30] ø .sct ⟨Ua,þ⟩ (fun hc=>Gj jF ø ø ø) ø (JLo (.dptr ((H2.cs y).drop 7)) [] ø .sct þ (fun hc=>Gb eR ø ø ø) ø (JLo (E7 y.Frames) [32] ø .sct ⟨Ua,þ⟩ (fun hc=>Gj jF ø ø ø) ø ?_))))))
 obtain⟨e,p,h⟩:=Ge h
 refine JLo (BL e) [31,33] ø .sct ⟨Ua,Ua,þ⟩ (fun hc=>Gq (args:=[LT 5 Frame.av x.Frames,E7 y.Frames]) ø (mS x.Frames y.Frames e (Gw hc p)) H04 ⟨ø,ø,ø,ø,þ⟩) ø (JLh (BL ((((a&&b)&&c)&&d)&&e)) (Jf ø ø ø ø) ø (JLm (BL ((((a&&b)&&c)&&d)&&e)) ø (JLo (.dptr ((Yq.cs x).drop 8)) [] ø .sct þ (fun hc=>Gb eQ ø ø ø) ø (JLo (LT 6 Hk.av x.Tanks) [37] ø .sct ⟨Ua,þ⟩ (fun hc=>Gj jE ø ø ø) ø (JLo (.dptr ((H2.cs y).drop 8)) [] ø .sct þ (fun hc=>Gb eQ ø ø ø) ø (JLo (E9 y.Tanks) [39] ø .sct ⟨Ua,þ⟩ (fun hc=>Gj jE ø ø ø) ø ?_))))))
 obtain⟨i,q,h⟩:=Ge h
 refine JLo (BL i) [38,40] ø .sct ⟨Ua,Ua,þ⟩ (fun hc=>Gq (args:=[LT 6 Hk.av x.Tanks,E9 y.Tanks]) ø (oI x.Tanks y.Tanks i (Gw hc q)) H03 ⟨ø,ø,ø,ø,þ⟩) ø (JLh (BL (((((a&&b)&&c)&&d)&&e)&&i)) (Jf ø ø ø ø) ø (JLm (BL (((((a&&b)&&c)&&d)&&e)&&i)) ø (G7 (k (Gt (fin1 BL h))))))

def Ru (k:Int) (i:Int):Option Box:=
 bnd (Hi k i) fun a=>
 some (Box.mk a ByteArray.empty 0 false 0 0 0 0 false)
abbrev Kx (a:Int):List AV:=[I64 a,ST Nn,U8 0,BL false,I64 0,I64 0,I64 0,U8 0,BL false]
abbrev Ky:List AV:=[I64 0,ST Nn,U8 0,BL false,I64 0,I64 0,I64 0,U8 0,BL false]
theorem gP (k:Int) (i:Int) (r:Box) (h:Ru k i=some r):Pure Ej 40 [I64 k,I64 i] (·=.agg (Box.cs r)):=by
 unfold Ru at h
 refine Gy [.cell 4 77] Tryz.func40 ø ø (Jr fun b=>(JLh (.ptr 1033 0) (Y4 1033 Ky [E0,.string ByteArray.empty,.int .u8 0,.bool false,E0,E0,E0,.int .u8 0,.bool false] fI (zzQ ø) ø ø) ø (G7 (b (Jr fun c=>(JLm (I64 k) ø (JLm (I64 i) ø ?_)))))))
 obtain⟨a,d,h⟩:=Ge h
 refine JLh (I64 a) (Gq ø (Hy k i a d) Rs ⟨ø,ø,ø,ø,þ⟩) ø (JLh (.agg (Kx a)) (Jj (cs:=(Kx a)) [(0,1),(1,1),(2,1),(3,1),(4,1),(5,1),(6,1),(7,1),(8,1)] Ky [E0,.string ByteArray.empty,.int .u8 0,.bool false,E0,E0,E0,.int .u8 0,.bool false] eF fI (zzQ ø) ø ø) ø (J7 (u:=.junk) (Hw (u:=.agg (Kx a)) (ds:=(Kx a)) nF ø ø ø ø ø ø ø ø) (G7 (c ?_))))
 refine Gt (⟨[.agg (Kx a)],[],þ,ø,⟨⟨_,⟨_,_,_,_,ø,ø,ø,.inl ⟨iL,ø⟩⟩,.conv (.same ø)⟩,þ⟩,ø,congrArg (fun r:Box=>(.agg (Box.cs r):AV)) (Nv h)⟩)

def Yy (l:List Box):Option (Ln Box):=
 chk ((l.length:Int)+12) fun g=>
 bnd (iM g) fun e=>
 need (decide (64*e≤281474976710656∧e≤maxLen)) <|
 need (decide ((([]:List Box).length+l.length)*64≤140737488355328∧([]:List Box).length+l.length≤maxLen)) <|
 need (decide (12≤9223372036854775807)) <|
 upto (fun f (a:(List Box)) d=>
  bnd (Ru 1 (f:Int)) fun b=>
  need (decide ((a.length+[b].length)*64≤140737488355328∧a.length+[b].length≤maxLen)) <|
  d (a++[b]))
 (fun(a:(List Box))=>
  bnd (cN (l.length:Int) a.length) fun c=>
  some (a.take c,a.drop c)) (12:Int).toNat 0 (([]:List Box)++l)
theorem oH (l:List Box) (r:(Ln Box)) (h:Yy l=some r):Pure Ej 9 [E3 l] (·=LT 9 Box.av r):=by
 unfold Yy at h
 refine Gy [.tmp 2] Tryz.func9 ø ø (Jr fun w=>(JLh (E3 ([]:List Box)) (Qu 9 ø ø) ø (G7 (w (Jr fun x=>(JLm (E3 l) ø (JLl Hz ø ø ø fun b0=>?_)))))))
 obtain⟨v3,y,h⟩:=Hd h
 refine JLh (I64 v3) (Hf y ø ø ø) ø ?_
 obtain⟨m4,z,h⟩:=Ge h
 obtain⟨a0,h⟩:=J2 h
 refine JLh (OW 1005 9 Box.av ([]:List Box)) (jC 1005 ø ø ø ø Hz wG ø (Qe z) a0) ø (JLm (OW 1005 9 Box.av ([]:List Box)) ø (G7 (x (Jr fun a1=>(JLm (OW 1005 9 Box.av ([]:List Box)) ø (JLm (E3 l) ø ?_))))))
 obtain⟨a2,h⟩:=J2 h
 refine JLh (OW 1005 9 Box.av (([]:List Box)++l)) (nC (f:=Box.av) (xs:=([]:List Box)) (ys:=l) ø ø ø ø Hz wG a2 (fun _=>ø) (.inl ø)) ø (JLm (OW 1005 9 Box.av (([]:List Box)++l)) ø (G7 (a1 (Js fun a3=>Jr fun a4=>(JLm (I64 0) ø (G7 (a4 (Gi ?_))))))))
 obtain⟨j,h⟩:=J2 h
 obtain⟨a5,k,m,i,h⟩:=gT h
 refine H7 (fun b (a:(List Box))=>upto a5 k ((12:Int).toNat - b) b a=some r) (fun b a=>[(0,E3 l),(3,OW 1005 9 Box.av a),(4,Ei b)]) (fun b a=>[(1005,.spare 77 9 a.length a.length)]) (fun b=>(12:Int).toNat - b) 0 (([]:List Box)++l) h ⟨(.sm ø ø),⟨⟨_,ø,.same⟩,þ⟩,ø⟩ ?_
 clear h
 intro b a e b1 a6
 refine Js fun n=>Jr fun o=>(JLm (Ei b) ø (JLh (BL (decide ((b:Int) < 12))) (Ht ø ø ø) ø (G7 (o (Gm ø (fun hb=>?_) (fun hb=>?_))))))
 ·
  have g:=eJ hb
  obtain⟨a8,p,h⟩:=eH e g
  replace h:=vM m h
  refine Gn (n (Js fun q=>Gi (G2 (JLm (OW 1005 9 Box.av a) ø (JLm (Ei b) ø ?_)))))
  obtain⟨c,s,h⟩:=Ge h
  refine JLh (.agg (Box.cs c)) (Gq ø (gP 1 (b:Int) c s) RL ⟨ø,ø,ø,ø,þ⟩) ø (JLh (E3 [c]) (Hn (xs:=[.agg (Box.cs c)]) ø ⟨ø,ø,þ⟩ Hz fG ø ø ø ø) ø ?_)
  obtain⟨t,h⟩:=J2 h
  refine JLh (OW 1005 9 Box.av (a++[c])) (R3 (f:=Box.av) (xs:=a) (ys:=[c]) ø ø ø ø Hz wG t (fun _=>ø) (.inl ø) ø) ø (JLm (OW 1005 9 Box.av (a++[c])) ø (G7 (q (G2 (JLm (Ei b) ø (JLh (I64 ((b+1:Nat):Int)) (Hf (Hq g (cI j)) ø ø ø) ø (JLm (I64 ((b+1:Nat):Int)) ø (G7 (a6 _ _ (b+1) (a++[c]) (app1 p h) (by omega) ⟨(.sm ø ø),⟨⟨_,rfl,.same⟩,þ⟩,rfl⟩)))))))))
 ·
  have h:=app1 i (eI e (Z2 hb))
  refine H5 (a3 (Jr fun u=>(JLm (OW 1005 9 Box.av a) ø (JLm (E3 l) ø (JLl Hz ø ø ø fun a9=>?_)))))
  obtain⟨d,v,h⟩:=Ge h
  refine JLh (LT 9 Box.av (a.take d,a.drop d)) (ZW (f:=Box.av) (xs:=a) ø ø ø Hz (Rw v)) ø (JLm (LT 9 Box.av (a.take d,a.drop d)) ø (G7 (u (Gt (fin1 (fun r:(Ln Box)=>(LT 9 Box.av r:AV)) h)))))

def Yz (out:Ln Box) (l:List Box):Option Bool:=
 bif decide ((out.1.length:Int)≠(l.length:Int)) then
 (some false)
 else
 (chk ((l.length:Int)+12) fun h=>
  bnd (cN h (out.1++out.2).length) fun i=>
  each (fun b a (e:Unit) d=>
   bnd (bif decide ((a:Int) < (l.length:Int)) then Jx l (a:Int) some else some default) fun c=>
   bnd (bif ((!((decide ((a:Int) < (l.length:Int)))&&(!(decide (b=c)))))&&(decide ((l.length:Int)≤(a:Int)))) then chk ((a:Int) - (l.length:Int)) some else some 0) fun f=>
   bnd (bif ((!((decide ((a:Int) < (l.length:Int)))&&(!(decide (b=c)))))&&(decide ((l.length:Int)≤(a:Int)))) then Ru 1 f else some default) fun g=>
   bif (((decide ((a:Int) < (l.length:Int)))&&(!(decide (b=c))))||((decide ((l.length:Int)≤(a:Int)))&&(!(decide (b=g))))) then
   (some false)
   else
   (d ()))
  (fun(e:Unit)=>
   some true) ((out.1++out.2).take i) 0 ())
theorem oK (out:Ln Box) (l:List Box) (r:Bool) (h:Yz out l=some r):Pure Ej 23 [LT 9 Box.av out,E3 l] (·=BL r):=by
 unfold Yz at h
 refine Gy [.tmp 4] Tryz.func23 ø ø (Jr fun a5=>(JLm (BL false) ø (G7 (a5 (Js fun a6=>Jr fun a7=>(JLm (LT 9 Box.av out) ø (JLl Hz ø ø ø fun c0=>(JLm (E3 l) ø (JLl Hz ø ø ø fun b6=>(JLh (BL (decide ((out.1.length:Int)≠(l.length:Int)))) (dX ø ø ø) ø (G7 (a7 (JCc ø h (fun h hb=>?_) (fun h hb=>?_))))))))))))))
 ·
  refine Jr fun a8=>(JLm (BL false) ø (G7 (a8 (Gt (fin1 BL h)))))
 ·
  refine Gn (a6 (Jr fun a9=>(JLm (LT 9 Box.av out) ø (JLm (E3 l) ø (JLl Hz ø ø ø fun b7=>?_)))))
  obtain⟨v6,b0,h⟩:=Hd h
  refine JLh (I64 v6) (Hf b0 ø ø ø) ø ?_
  obtain⟨i,b1,h⟩:=Ge h
  refine JLh (E3 ((out.1++out.2).take i)) (sS (f:=Box.av) (e:=out) ø ø ø Hz (Rw b1)) ø (JLm (E3 ((out.1++out.2).take i)) ø (G7 (a9 (Js fun b2=>Jr fun b3=>(JLm (I64 0) ø (G7 (b3 (Gi ?_))))))))
  obtain⟨b4,q,s,p,h⟩:=Jg h
  refine H7 (fun c (j:Unit)=>each b4 q (List.drop c ((out.1++out.2).take i)) c j=some r) (fun c j=>[(1,E3 l),(5,E3 ((out.1++out.2).take i)),(6,Ei c)]) (fun c j=>[]) (fun c=>((out.1++out.2).take i).length - c) 0 () h ⟨(.sm ø ø),þ,ø⟩ ?_
  clear h
  intro c j k c1 b5
  refine Js fun t=>Jr fun u=>(JLm (Ei c) ø (JLm (E3 ((out.1++out.2).take i)) ø (JLl Hz ø ø ø fun v=>(JLh (BL (decide ((c:Int) < (((out.1++out.2).take i).length:Int)))) (Ht ø ø ø) ø (G7 (u (Gm ø (fun hb=>?_) (fun hb=>?_))))))))
  ·
   have m:=Q1 hb
   obtain⟨a,b9,n,w,h⟩:=J4 k m
   replace h:=Zt s h
   refine Gn (t (Js fun x=>Gi (Js fun z=>?_)))
   obtain⟨d,a0,h⟩:=Ge h
   obtain⟨o,a1,h⟩:=Ge h
   obtain⟨g,a2,h⟩:=Ge h
   refine JC_d0 J9 (by kernel_rfl) (Dq (Ei c) (G3 ø ø) ø (Dq (E3 l) (G3 ø ø) ø (Dq (Ei l.length) (Q4 (f:=Box.av) (xs:=l) Hz ø ø) ø (Dq (BL (decide ((c:Int) < (l.length:Int)))) (Ht ø ø ø) ø (Dq (BL (decide ((c:Int) < (l.length:Int)))) (G3 ø ø) ø (Do (E3 ((out.1++out.2).take i)) [] ø .sct þ (fun hc=>G3 ø ø) ø (Do (Ei c) [] ø .sct þ (fun hc=>G3 ø ø) ø (Do (Ef a) [28,29] ø .sct ⟨Ua,Ua,þ⟩ (fun hc=>Gs (f:=Box.av) (xs:=((out.1++out.2).take i)) (y:=a) ø ø ø Hz n ø) ø (Do (.agg (Box.cs a)) [30] ø .sct ⟨Ua,þ⟩ (fun hc=>Gk iL ø ø ø) ø (Do (E3 l) [] ø .sct þ (fun hc=>G3 ø ø) ø (Do (Ei c) [] ø .sct þ (fun hc=>G3 ø ø) ø (Do (Ef d) [32,33] ø .sct ⟨Ua,Ua,þ⟩ (fun hc=>(match Qk (Gw hc a0) with | ⟨_,hm_,hy_⟩=>Gs (f:=Box.av) (xs:=l) (y:=d) ø ø ø Hz hy_ hm_)) ø (Do (.agg (Box.cs d)) [34] ø .sct ⟨Ua,þ⟩ (fun hc=>Gk iL ø ø ø) ø ?_)))))))))))))
   refine Do (BL (decide (a=d))) [31,35] ø .sct ⟨Ua,Ua,þ⟩ (fun hc=>hY (vs:=[.int .i64 a.ID,.string a.Number,.int .u8 a.Size,.bool a.High,.int .i64 a.Kilos,.int .i64 a.Load,.int .i64 a.Discharge,.int .u8 a.Class,.bool a.Reefer]) (us:=[.int .i64 d.ID,.string d.Number,.int .u8 d.Size,.bool d.High,.int .i64 d.Kilos,.int .i64 d.Load,.int .i64 d.Discharge,.int .u8 d.Class,.bool d.Reefer]) 4 ø (J42 a d) HS G1e ø ø ø) ø (Do (BL (!(decide (a=d)))) [36] ø .sct ⟨Ua,þ⟩ (fun hc=>Ym (b:=decide (a=d)) ø ø) ø (Dq (BL ((decide ((c:Int) < (l.length:Int)))&&(!(decide (a=d))))) (Jf ø ø ø ø) ø (Dq (BL ((decide ((c:Int) < (l.length:Int)))&&(!(decide (a=d))))) (G3 ø ø) ø (Do (Ei c) [] ø .scf þ (fun hc=>G3 ø ø) ø (Do (E3 l) [] ø .scf þ (fun hc=>G3 ø ø) ø (Do (Ei l.length) [41] ø .scf ⟨Ua,þ⟩ (fun hc=>Q4 (f:=Box.av) (xs:=l) Hz ø ø) ø (Do (BL (decide ((l.length:Int)≤(c:Int)))) [40,42] ø .scf ⟨Ua,Ua,þ⟩ (fun hc=>dF ø ø ø) ø (Do (BL (decide ((l.length:Int)≤(c:Int)))) [43] ø .scf ⟨Ua,þ⟩ (fun hc=>G3 ø ø) ø (Do (E3 ((out.1++out.2).take i)) [] ø .optt þ (fun hc=>G3 ø ø) ø (Do (Ei c) [] ø .optt þ (fun hc=>G3 ø ø) ø (Do (Ef a) [45,46] ø .optt ⟨Ua,Ua,þ⟩ (fun hc=>Gs (f:=Box.av) (xs:=((out.1++out.2).take i)) (y:=a) ø ø ø Hz n ø) ø (Do (.agg (Box.cs a)) [47] ø .optt ⟨Ua,þ⟩ (fun hc=>Gk iL ø ø ø) ø (Do (Ei c) [] ø .optt þ (fun hc=>G3 ø ø) ø ?_)))))))))))))
   refine Do (E3 l) [] ø .optt þ (fun hc=>G3 ø ø) ø (Do (Ei l.length) [50] ø .optt ⟨Ua,þ⟩ (fun hc=>Q4 (f:=Box.av) (xs:=l) Hz ø ø) ø (Do (I64 o) [49,51] ø .optt ⟨Ua,Ua,þ⟩ (fun hc=>cB (bS (Gw hc a1)) ø ø ø) ø (Do (.agg (Box.cs g)) [52] ø .optt ⟨Ua,þ⟩ (fun hc=>Gq (args:=[I64 1,I64 o]) ø (gP 1 o g (Gw hc a2)) RL ⟨ø,ø,ø,ø,þ⟩) ø (Do (BL (decide (a=g))) [48,53] ø .optt ⟨Ua,Ua,þ⟩ (fun hc=>hY (vs:=[.int .i64 a.ID,.string a.Number,.int .u8 a.Size,.bool a.High,.int .i64 a.Kilos,.int .i64 a.Load,.int .i64 a.Discharge,.int .u8 a.Class,.bool a.Reefer]) (us:=[.int .i64 g.ID,.string g.Number,.int .u8 g.Size,.bool g.High,.int .i64 g.Kilos,.int .i64 g.Load,.int .i64 g.Discharge,.int .u8 g.Class,.bool g.Reefer]) 4 ø (J42 a g) HS G1e ø ø ø) ø (Do (BL (!(decide (a=g)))) [54] ø .optt ⟨Ua,þ⟩ (fun hc=>Ym (b:=decide (a=g)) ø ø) ø (Dg (.opt (!((decide ((c:Int) < (l.length:Int)))&&(!(decide (a=d))))) (BL ((decide ((l.length:Int)≤(c:Int)))&&(!(decide (a=g)))))) (Gh [(44,BL (decide ((l.length:Int)≤(c:Int)))),(55,_)] ø ø ø .scf ⟨.all id,.part,þ⟩ (fun hc=>Jf ø ø ø ø) ø) ø (Dq (BL (((decide ((c:Int) < (l.length:Int)))&&(!(decide (a=d))))||((decide ((l.length:Int)≤(c:Int)))&&(!(decide (a=g)))))) (aJ ø ø ø ø) ø (Dnil ?_))))))))
   refine z (JCc ø h (fun h hb=>?_) (fun h hb=>?_))
   ·
    refine Jr fun a3=>(JLm (BL false) ø (G7 (a3 (Gt (fin1 BL h)))))
   ·
    refine Gn (x (G2 (JLm (Ei c) ø (JLh (I64 ((c+1:Nat):Int)) (Hf (Hq m v) ø ø ø) ø (JLm (I64 ((c+1:Nat):Int)) ø (G7 (b5 _ _ (c+1) () (app1 w h) (by omega) ⟨(.sm ø ø),þ,rfl⟩)))))))
  ·
   have h:=app1 p (J5 k (Hg hb))
   refine H5 (b2 (Jr fun a4=>(JLm (BL true) ø (G7 (a4 (Gt (fin1 BL h)))))))
end
end Go.Proofs.YthkihfoleenlmaaGreat
