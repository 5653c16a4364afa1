/- Walks of functions. -/
import Derived.Test.YtmfhaflabpnaoaaGreatXR
set_option maxRecDepth 100000
set_option maxHeartbeats 1000000
set_option linter.unusedVariables false
set_option linter.unusedSimpArgs false
namespace Go.Proofs.YtmfhaflabpnaoaaGreat
open Go.RowKit
noncomputable section

namespace XPF
open XAF
open XLF
open XCF
open XSF
open XKF
open XTF
open XUF
open XBF
open XRF
theorem Q0c:H9 Ek 10=true:=by kernel_rfl
theorem R58:H9 Ek 11=true:=by kernel_rfl
theorem R57:H9 Ek 12=true:=by kernel_rfl
theorem R56:H9 Ek 13=true:=by kernel_rfl
theorem Rc7:H9 Ek 4=true:=by kernel_rfl
theorem Rc6:H9 Ek 5=true:=by kernel_rfl
theorem Rc5:H9 Ek 6=true:=by kernel_rfl
theorem Q74:H9 Ek 8=true:=by kernel_rfl
theorem Q73:H9 Ek 9=true:=by kernel_rfl
theorem Q63:Jz Ek 32 3 6=true:=by kernel_rfl
theorem Q62:Jz Ek 32 4 7=true:=by kernel_rfl
theorem Q61:Jz Ek 32 5 8=true:=by kernel_rfl
theorem Qaa:Rm Ek 26=true:=by kernel_rfl
theorem Qa9:Rm Ek 27=true:=by kernel_rfl
theorem Qa8:Rm Ek 28=true:=by kernel_rfl
theorem Qda:sliceB Ek 26 211 5=true:=by kernel_rfl
theorem Qd9:sliceB Ek 27 213 5=true:=by kernel_rfl
theorem Qd8:sliceB Ek 28 215 6=true:=by kernel_rfl
theorem J91:Yb Ek 45 18=true:=by kernel_rfl
end XPF
open XAF
open XLF
open XCF
open XSF
open XKF
open XTF
open XUF
open XBF
open XRF
open XPF

def G01 (s:G6) (boxes:List Box) (state:List G3):Option Bool:=
 bif ((((decide (40 < (s.Columns.length:Int)))||(decide (40 < (s.Covers.length:Int))))||(decide (60 < (boxes.length:Int))))||(decide (40 < (state.length:Int)))) then
 (some false)
 else
 (each (fun c i (d:Unit) a=>
   bif decide (20 < (c.Plugs.length:Int)) then
   (some false)
   else
   (a ()))
  (fun(d:Unit)=>
   each (fun e j (f:Unit) b=>
    bif decide (40 < (e.Rows.length:Int)) then
    (some false)
    else
    (b ()))
   (fun(f:Unit)=>
    wrp ((s.Rows.length:Int)+(s.Frames.length:Int)) fun g=>
    wrp (g+(s.Tanks.length:Int)) fun h=>
    some (decide (h≤200))) s.Covers 0 ()) s.Columns 0 ())
theorem Hb2 (s:G6) (boxes:List Box) (state:List G3) (r:Bool) (h:G01 s boxes state=some r):Pure Ek 6 [.agg (G6.cs s),E8 boxes,E2 state] (·=BL r):=by
 unfold G01 at h
 refine H3 [.tmp 6] Tryz.func6 O O (Jr fun c0=>(JLh (.ptr 1006 0) (Ju (cs:=(G6.cs s)) 1006 O O O O O) O (JLm (BL false) O (G8 (c0 (Gu [(1,E8 boxes),(2,E2 state),(3,Ee s)] [] 1006 rfl rfl rfl G rfl (by exact⟨.conv (.same rfl),.conv (.same rfl),.ptr,G⟩) (Js fun c1=>?_)))))))
 refine Jr fun c2=>(JLh (Ee s) (Gb Hh O O O) O (JLh (E3 s.Columns) (Ge Hn O O O) O (JLl Hk O O O fun d1=>(JLh (BL (decide (40 < (s.Columns.length:Int)))) (G08 O O O) O (JLm (BL (decide (40 < (s.Columns.length:Int)))) O (JLo (.dptr ((G6.cs s).drop 1)) [] O .scf G (fun hc=>Gb Jc O O O) O (JLo (E7 s.Covers) [16] O .scf ⟨Ua,G⟩ (fun hc=>Ge Ji O O O) O (JLo (Ej s.Covers.length) [17] O .scf ⟨Ua,G⟩ (fun hc=>G2d (f:=Ga.av) (xs:=s.Covers) J7 O O) O (JLo (BL (decide (40 < (s.Covers.length:Int)))) [18] O .scf ⟨Ua,G⟩ (fun hc=>G08 O O O) O (JLh (BL ((decide (40 < (s.Columns.length:Int)))||(decide (40 < (s.Covers.length:Int))))) (Ya O O O O) O (JLm (BL ((decide (40 < (s.Columns.length:Int)))||(decide (40 < (s.Covers.length:Int))))) O (JLo (E8 boxes) [] O .scf G (fun hc=>G7 O O) O (JLo (Ej boxes.length) [22] O .scf ⟨Ua,G⟩ (fun hc=>G2d (f:=Box.av) (xs:=boxes) G57 O O) O ?_)))))))))))))
 refine JLo (BL (decide (60 < (boxes.length:Int)))) [23] O .scf ⟨Ua,G⟩ (fun hc=>G08 O O O) O (JLh (BL (((decide (40 < (s.Columns.length:Int)))||(decide (40 < (s.Covers.length:Int))))||(decide (60 < (boxes.length:Int))))) (Ya O O O O) O (JLm (BL (((decide (40 < (s.Columns.length:Int)))||(decide (40 < (s.Covers.length:Int))))||(decide (60 < (boxes.length:Int))))) O (JLo (E2 state) [] O .scf G (fun hc=>G7 O O) O (JLo (Ej state.length) [27] O .scf ⟨Ua,G⟩ (fun hc=>G2d (f:=G3.av) (xs:=state) H6 O O) O (JLo (BL (decide (40 < (state.length:Int)))) [28] O .scf ⟨Ua,G⟩ (fun hc=>G08 O O O) O (JLh (BL ((((decide (40 < (s.Columns.length:Int)))||(decide (40 < (s.Covers.length:Int))))||(decide (60 < (boxes.length:Int))))||(decide (40 < (state.length:Int))))) (Ya O O O O) O (G8 (c2 ?_))))))))
 refine JCc O h ?_ ?_<;>intro h hb
 ·
  refine Jr fun c3=>(JLm (BL false) O (G8 (c3 (Gs (fin1 BL h)))))
 ·
  refine Gn (c1 (Js fun c4=>Jr fun c5=>(JLh (Ee s) (Gb Hh O O O) O (JLh (E3 s.Columns) (Ge Hn O O O) O (JLl Hk O O O fun p=>(JLm (I64 0) O (G8 (c5 (Gx ?_)))))))))
  obtain⟨c6,q,t,n,h⟩:=Jf h
  refine Hs (fun b (e:Unit)=>each c6 q (List.drop b s.Columns) b e=some r) (fun b e=>[(3,Ee s),(32,E3 s.Columns),(33,Ej s.Columns.length),(34,Ej b)]) (fun b e=>[]) (fun b=>s.Columns.length - b) 0 () h ⟨(.sm O O),G,rfl⟩ ?_
  clear h
  intro b e i d9 c7
  refine Jr fun v=>(JLh (BL (decide ((b:Int) < (s.Columns.length:Int)))) (Jq O O O) O (G8 (v (Js fun w=>Gp O (fun hb=>?_) (fun hb=>?_)))))
  ·
   have j:=Q4 hb
   obtain⟨d,d2,x,z,h⟩:=Hz i j
   replace h:=Zi t h
   refine Gn (w (Js fun a0=>Gx (Jr fun a1=>(JLh (Eh d) (H0 (f:=G1.av) (xs:=s.Columns) (y:=d) O O O Hk x O) O (JLh (.agg (G1.cs d)) (Gt H75 O O O) O (JLh (.ptr 1007 0) (Jn 1007 12 Hcc O O) O (J9 (u:=.junk) (He (u:=.agg (G1.cs d)) (ds:=(G1.cs d)) Jdf O O O O O O O O) (G8 (a1 (fzQ [(3,Ee s),(8,Eh d),(32,E3 s.Columns),(33,Ej s.Columns.length),(34,Ej b)] [] 1007 rfl rfl rfl G rfl ?_))))))))))
   refine Jr fun a2=>(JLh (.dptr ((G1.cs d).drop 8)) (Gb G1d O O O) O (JLh (E1 d.Plugs) (Ge Hq O O O) O (JLl Gz O O O fun d3=>(JLh (BL (decide (20 < (d.Plugs.length:Int)))) (G08 O O O) O (G8 (a2 (JCc O h (fun h hb=>?_) (fun h hb=>?_))))))))
   ·
    refine Jr fun a3=>(JLm (BL false) O (G8 (a3 (Gs (fin1 BL h)))))
   ·
    refine Gn (a0 (G2 (JLh (I64 ((b+1:Nat):Int)) (Jo (Hw j p) O O O) O (JLm (I64 ((b+1:Nat):Int)) O (G8 (c7 _ _ (b+1) () (app1 z h) (by omega) ⟨(.sm O O),G,rfl⟩))))))
  ·
   have h:=app1 n (J0 i (Hd hb))
   refine Hy (c4 (Js fun a4=>Jr fun a5=>(JLh (.dptr ((G6.cs s).drop 1)) (Gb Jc O O O) O (JLh (E7 s.Covers) (Ge Ji O O O) O (JLl J7 O O O fun a6=>(JLm (I64 0) O (G8 (a5 (Gx ?_)))))))))
   obtain⟨c8,a7,a8,o,h⟩:=Jf h
   refine Hs (fun c (g:Unit)=>each c8 a7 (List.drop c s.Covers) c g=some r) (fun c g=>[(3,Ee s),(44,E7 s.Covers),(45,Ej s.Covers.length),(46,Ej c)]) (fun c g=>[]) (fun c=>s.Covers.length - c) 0 () h ⟨(.sm O O),G,rfl⟩ ?_
   clear h
   intro c g k e0 c9
   refine Jr fun a9=>(JLh (BL (decide ((c:Int) < (s.Covers.length:Int)))) (Jq O O O) O (G8 (a9 (Js fun b0=>Gp O (fun hb=>?_) (fun hb=>?_)))))
   ·
    have l:=Q4 hb
    obtain⟨a,d4,b1,b2,h⟩:=Hz k l
    replace h:=Zi a8 h
    refine Gn (b0 (Js fun b3=>Gx (Jr fun b4=>(JLh (.dptr [I64 a.Bay,E1 a.Rows]) (H0 (f:=Ga.av) (xs:=s.Covers) (y:=a) O O O J7 b1 O) O (JLh (.agg [I64 a.Bay,E1 a.Rows]) (Gt H2d O O O) O (JLh (.ptr 1008 0) (Jn 1008 2 Gff O O) O (J9 (u:=.junk) (He (u:=.agg [I64 a.Bay,E1 a.Rows]) (ds:=[I64 a.Bay,E1 a.Rows]) H95 O O O O O O O O) (G8 (b4 (fzQ [(3,Ee s),(10,.dptr [I64 a.Bay,E1 a.Rows]),(44,E7 s.Covers),(45,Ej s.Covers.length),(46,Ej c)] [] 1008 rfl rfl rfl G rfl ?_))))))))))
    refine Jr fun b5=>(JLh (.dptr [E1 a.Rows]) (Gb Qk O O O) O (JLh (E1 a.Rows) (Ge Hq O O O) O (JLl Gz O O O fun d5=>(JLh (BL (decide (40 < (a.Rows.length:Int)))) (G08 O O O) O (G8 (b5 (JCc O h (fun h hb=>?_) (fun h hb=>?_))))))))
    ·
     refine Jr fun b6=>(JLm (BL false) O (G8 (b6 (Gs (fin1 BL h)))))
    ·
     refine Gn (b3 (G2 (JLh (I64 ((c+1:Nat):Int)) (Jo (Hw l a6) O O O) O (JLm (I64 ((c+1:Nat):Int)) O (G8 (c9 _ _ (c+1) () (app1 b2 h) (by omega) ⟨(.sm O O),G,rfl⟩))))))
   ·
    have h:=app1 o (J0 k (Hd hb))
    refine Hy (a4 (Jr fun b7=>(JLh (.dptr ((G6.cs s).drop 6)) (Gb Q63 O O O) O (JLh (E4 s.Rows) (Ge Qaa O O O) O (JLl Qda O O O fun d6=>(JLh (.dptr ((G6.cs s).drop 7)) (Gb Q62 O O O) O (JLh (E5 s.Frames) (Ge Qa9 O O O) O (JLl Qd9 O O O fun d7=>?_))))))))
    obtain⟨d0,b8,h⟩:=Qa4 h
    refine JLh (I64 d0) (Jo b8 O O O) O (JLh (.dptr ((G6.cs s).drop 8)) (Gb Q61 O O O) O (JLh (E6 s.Tanks) (Ge Qa8 O O O) O (JLl Qd8 O O O fun d8=>?_)))
    obtain⟨m,b9,h⟩:=Qa4 h
    refine JLh (I64 m) (Jo b9 O O O) O (JLh (BL (decide (m≤200))) (H61 O O O) O (JLm (BL (decide (m≤200))) O (G8 (b7 (Gs (fin1 BL h))))))

def Za (F:Nat) (s:G6) (boxes:List Box) (state:List G3) (ashore:List Int) (l:List Move):Option Bool:=
 bnd (G01 s boxes state) fun u=>
 bif (((!u)||(decide (40 < (ashore.length:Int))))||(decide (40 < (l.length:Int)))) then
 (some true)
 else
 (bif (G22 s boxes state ashore).isSome then
  (bnd (G22 s boxes state ashore) fun n=>
   bnd (Rn F s boxes state ashore) fun e=>
   bif decide (n.2≠e.2) then
   (some false)
   else
   (bif decide (n.2≠0) then
    (some true)
    else
    (loop (fun h (a:Int×Int×(List G1)×(List Ga)×Int×Int×Int×Int×(List Row)×(List Frame)×(List Gr)×Int×Int×Int×Int×(List Box)×(List G3)×(List Int)×(List Int)×Int)=>
      bif ((decide (a.1 < (l.length:Int)))&&(decide (a.2.1=0))) then
      (Qr l a.1 fun o=>
       bnd (Qh F (Gq.mk (G6.mk a.2.2.1 a.2.2.2.1 (Light.mk a.2.2.2.2.1 a.2.2.2.2.2.1 a.2.2.2.2.2.2.1 a.2.2.2.2.2.2.2.1) a.2.2.2.2.2.2.2.2.1 a.2.2.2.2.2.2.2.2.2.1 a.2.2.2.2.2.2.2.2.2.2.1 (G5.mk a.2.2.2.2.2.2.2.2.2.2.2.1 a.2.2.2.2.2.2.2.2.2.2.2.2.1 a.2.2.2.2.2.2.2.2.2.2.2.2.2.1 a.2.2.2.2.2.2.2.2.2.2.2.2.2.2.1)) a.2.2.2.2.2.2.2.2.2.2.2.2.2.2.2.1 a.2.2.2.2.2.2.2.2.2.2.2.2.2.2.2.2.1 a.2.2.2.2.2.2.2.2.2.2.2.2.2.2.2.2.2.1 a.2.2.2.2.2.2.2.2.2.2.2.2.2.2.2.2.2.2.1 a.2.2.2.2.2.2.2.2.2.2.2.2.2.2.2.2.2.2.2) o) fun b=>
       bif decide (b.2=0) then
       (chk (a.1+1) fun p=>
        h (p,b.2,b.1.G6.Columns,b.1.G6.Covers,b.1.G6.Light.Kilos,b.1.G6.Light.X,b.1.G6.Light.Y,b.1.G6.Light.Z,b.1.G6.Rows,b.1.G6.Frames,b.1.G6.Tanks,b.1.G6.G5.Tolerance,b.1.G6.G5.Trim,b.1.G6.G5.List_,b.1.G6.G5.Stability,b.1.Boxes,b.1.State,b.1.Ashore,b.1.Open,b.1.Lifts))
       else
       (h (a.1,b.2,b.1.G6.Columns,b.1.G6.Covers,b.1.G6.Light.Kilos,b.1.G6.Light.X,b.1.G6.Light.Y,b.1.G6.Light.Z,b.1.G6.Rows,b.1.G6.Frames,b.1.G6.Tanks,b.1.G6.G5.Tolerance,b.1.G6.G5.Trim,b.1.G6.G5.List_,b.1.G6.G5.Stability,b.1.Boxes,b.1.State,b.1.Ashore,b.1.Open,b.1.Lifts)))
      else
      (bnd (Qx l) fun j=>
       bnd (G54 n.1 j.1) fun g=>
       bnd (bif ((decide (g.1=a.1))&&(decide (g.2.1=a.2.1))) then Yj g.2.2 (Gq.mk (G6.mk a.2.2.1 a.2.2.2.1 (Light.mk a.2.2.2.2.1 a.2.2.2.2.2.1 a.2.2.2.2.2.2.1 a.2.2.2.2.2.2.2.1) a.2.2.2.2.2.2.2.2.1 a.2.2.2.2.2.2.2.2.2.1 a.2.2.2.2.2.2.2.2.2.2.1 (G5.mk a.2.2.2.2.2.2.2.2.2.2.2.1 a.2.2.2.2.2.2.2.2.2.2.2.2.1 a.2.2.2.2.2.2.2.2.2.2.2.2.2.1 a.2.2.2.2.2.2.2.2.2.2.2.2.2.2.1)) a.2.2.2.2.2.2.2.2.2.2.2.2.2.2.2.1 a.2.2.2.2.2.2.2.2.2.2.2.2.2.2.2.2.1 a.2.2.2.2.2.2.2.2.2.2.2.2.2.2.2.2.2.1 a.2.2.2.2.2.2.2.2.2.2.2.2.2.2.2.2.2.2.1 a.2.2.2.2.2.2.2.2.2.2.2.2.2.2.2.2.2.2.2) else some default) fun k=>
       bnd (bif (((decide (g.1=a.1))&&(decide (g.2.1=a.2.1)))&&k) then Ru j l else some default) fun q=>
       some ((((decide (g.1=a.1))&&(decide (g.2.1=a.2.1)))&&k)&&q))) F (0,0,e.1.G6.Columns,e.1.G6.Covers,e.1.G6.Light.Kilos,e.1.G6.Light.X,e.1.G6.Light.Y,e.1.G6.Light.Z,e.1.G6.Rows,e.1.G6.Frames,e.1.G6.Tanks,e.1.G6.G5.Tolerance,e.1.G6.G5.Trim,e.1.G6.G5.List_,e.1.G6.G5.Stability,e.1.Boxes,e.1.State,e.1.Ashore,e.1.Open,e.1.Lifts))))
  else
  (bnd (Gb2 s boxes state ashore) fun m=>
   bnd (Rn F s boxes state ashore) fun f=>
   bif decide (m≠f.2) then
   (some false)
   else
   (bif decide (m≠0) then
    (some true)
    else
    (loop (fun i (d:Int×Int×(List G1)×(List Ga)×Int×Int×Int×Int×(List Row)×(List Frame)×(List Gr)×Int×Int×Int×Int×(List Box)×(List G3)×(List Int)×(List Int)×Int)=>
      bif ((decide (d.1 < (l.length:Int)))&&(decide (d.2.1=0))) then
      (Qr l d.1 fun r=>
       bnd (Qh F (Gq.mk (G6.mk d.2.2.1 d.2.2.2.1 (Light.mk d.2.2.2.2.1 d.2.2.2.2.2.1 d.2.2.2.2.2.2.1 d.2.2.2.2.2.2.2.1) d.2.2.2.2.2.2.2.2.1 d.2.2.2.2.2.2.2.2.2.1 d.2.2.2.2.2.2.2.2.2.2.1 (G5.mk d.2.2.2.2.2.2.2.2.2.2.2.1 d.2.2.2.2.2.2.2.2.2.2.2.2.1 d.2.2.2.2.2.2.2.2.2.2.2.2.2.1 d.2.2.2.2.2.2.2.2.2.2.2.2.2.2.1)) d.2.2.2.2.2.2.2.2.2.2.2.2.2.2.2.1 d.2.2.2.2.2.2.2.2.2.2.2.2.2.2.2.2.1 d.2.2.2.2.2.2.2.2.2.2.2.2.2.2.2.2.2.1 d.2.2.2.2.2.2.2.2.2.2.2.2.2.2.2.2.2.2.1 d.2.2.2.2.2.2.2.2.2.2.2.2.2.2.2.2.2.2.2) r) fun c=>
       bif decide (c.2=0) then
       (chk (d.1+1) fun t=>
        i (t,c.2,c.1.G6.Columns,c.1.G6.Covers,c.1.G6.Light.Kilos,c.1.G6.Light.X,c.1.G6.Light.Y,c.1.G6.Light.Z,c.1.G6.Rows,c.1.G6.Frames,c.1.G6.Tanks,c.1.G6.G5.Tolerance,c.1.G6.G5.Trim,c.1.G6.G5.List_,c.1.G6.G5.Stability,c.1.Boxes,c.1.State,c.1.Ashore,c.1.Open,c.1.Lifts))
       else
       (i (d.1,c.2,c.1.G6.Columns,c.1.G6.Covers,c.1.G6.Light.Kilos,c.1.G6.Light.X,c.1.G6.Light.Y,c.1.G6.Light.Z,c.1.G6.Rows,c.1.G6.Frames,c.1.G6.Tanks,c.1.G6.G5.Tolerance,c.1.G6.G5.Trim,c.1.G6.G5.List_,c.1.G6.G5.Stability,c.1.Boxes,c.1.State,c.1.Ashore,c.1.Open,c.1.Lifts)))
      else
      (bnd (Qx l) fun v=>
       none)) F (0,0,f.1.G6.Columns,f.1.G6.Covers,f.1.G6.Light.Kilos,f.1.G6.Light.X,f.1.G6.Light.Y,f.1.G6.Light.Z,f.1.G6.Rows,f.1.G6.Frames,f.1.G6.Tanks,f.1.G6.G5.Tolerance,f.1.G6.G5.Trim,f.1.G6.G5.List_,f.1.G6.G5.Stability,f.1.Boxes,f.1.State,f.1.Ashore,f.1.Open,f.1.Lifts)))))
abbrev Kk (a:Int×Int×(List G1)×(List Ga)×Int×Int×Int×Int×(List Row)×(List Frame)×(List Gr)×Int×Int×Int×Int×(List Box)×(List G3)×(List Int)×(List Int)×Int):List AV:=[E3 a.2.2.1,E7 a.2.2.2.1,I64 a.2.2.2.2.1,I64 a.2.2.2.2.2.1,I64 a.2.2.2.2.2.2.1,I64 a.2.2.2.2.2.2.2.1,E4 a.2.2.2.2.2.2.2.2.1,E5 a.2.2.2.2.2.2.2.2.2.1,E6 a.2.2.2.2.2.2.2.2.2.2.1,I64 a.2.2.2.2.2.2.2.2.2.2.2.1,I64 a.2.2.2.2.2.2.2.2.2.2.2.2.1,I64 a.2.2.2.2.2.2.2.2.2.2.2.2.2.1,I64 a.2.2.2.2.2.2.2.2.2.2.2.2.2.2.1,E8 a.2.2.2.2.2.2.2.2.2.2.2.2.2.2.2.1,E2 a.2.2.2.2.2.2.2.2.2.2.2.2.2.2.2.2.1,E1 a.2.2.2.2.2.2.2.2.2.2.2.2.2.2.2.2.2.1,E1 a.2.2.2.2.2.2.2.2.2.2.2.2.2.2.2.2.2.2.1,I64 a.2.2.2.2.2.2.2.2.2.2.2.2.2.2.2.2.2.2.2]
abbrev Km (a:Int×Int×(List G1)×(List Ga)×Int×Int×Int×Int×(List Row)×(List Frame)×(List Gr)×Int×Int×Int×Int×(List Box)×(List G3)×(List Int)×(List Int)×Int):List AV:=[E3 a.2.2.1,E7 a.2.2.2.1,I64 a.2.2.2.2.1,I64 a.2.2.2.2.2.1,I64 a.2.2.2.2.2.2.1,I64 a.2.2.2.2.2.2.2.1,E4 a.2.2.2.2.2.2.2.2.1,E5 a.2.2.2.2.2.2.2.2.2.1,E6 a.2.2.2.2.2.2.2.2.2.2.1,I64 a.2.2.2.2.2.2.2.2.2.2.2.1,I64 a.2.2.2.2.2.2.2.2.2.2.2.2.1,I64 a.2.2.2.2.2.2.2.2.2.2.2.2.2.1,I64 a.2.2.2.2.2.2.2.2.2.2.2.2.2.2.1,E8 a.2.2.2.2.2.2.2.2.2.2.2.2.2.2.2.1,E2 a.2.2.2.2.2.2.2.2.2.2.2.2.2.2.2.2.1,E1 a.2.2.2.2.2.2.2.2.2.2.2.2.2.2.2.2.2.1,E1 a.2.2.2.2.2.2.2.2.2.2.2.2.2.2.2.2.2.2.1,I64 a.2.2.2.2.2.2.2.2.2.2.2.2.2.2.2.2.2.2.2]
theorem H6f (F:Nat) (s:G6) (boxes:List Box) (state:List G3) (ashore:List Int) (l:List Move) (r:Bool) (h:Za F s boxes state ashore l=some r):Pure Ek 4 [.agg (G6.cs s),E8 boxes,E2 state,E1 ashore,Ea l] (·=BL r):=by
 unfold Za at h
 refine H3 [.tmp 10] Tryz.func4 O O (Jr fun g0=>(JLh (.ptr 1002 0) (Ju (cs:=(G6.cs s)) 1002 O O O O O) O (JLm (BL false) O (G8 (g0 (fzQ [(1,E8 boxes),(2,E2 state),(3,E1 ashore),(4,Ea l),(5,Ee s)] [] 1002 rfl rfl rfl G rfl (Js fun g1=>Jr fun g2=>(JLh (.agg (G6.cs s)) (Gt Jm O O O) O (JLm (E8 boxes) O (JLm (E2 state) O ?_))))))))))
 obtain⟨v,g3,h⟩:=Gj h
 refine JLh (BL v) (Gw O (Hb2 s boxes state v g3) Rc5 ⟨O,O,O,O,O,O,G⟩) O (JLh (BL (!v)) (R2 (b:=v) O O) O (JLm (BL (!v)) O (JLo (E1 ashore) [] O .scf G (fun hc=>G7 O O) O (JLo (Ej ashore.length) [25] O .scf ⟨Ua,G⟩ (fun hc=>G2d (f:=I64) (xs:=ashore) Gz O O) O (JLo (BL (decide (40 < (ashore.length:Int)))) [26] O .scf ⟨Ua,G⟩ (fun hc=>G08 O O O) O (JLh (BL ((!v)||(decide (40 < (ashore.length:Int))))) (Ya O O O O) O (JLm (BL ((!v)||(decide (40 < (ashore.length:Int))))) O (JLo (Ea l) [] O .scf G (fun hc=>G7 O O) O (JLo (Ej l.length) [30] O .scf ⟨Ua,G⟩ (fun hc=>G2d (f:=Move.av) (xs:=l) Jt O O) O (JLo (BL (decide (40 < (l.length:Int)))) [31] O .scf ⟨Ua,G⟩ (fun hc=>G08 O O O) O (JLh (BL (((!v)||(decide (40 < (ashore.length:Int))))||(decide (40 < (l.length:Int))))) (Ya O O O O) O (G8 (g2 ?_)))))))))))))
 refine JCc O h ?_ ?_<;>intro h hb
 ·
  refine Jr fun g4=>(JLm (BL true) O (G8 (g4 (Gs (fin1 BL h)))))
 ·
  refine Gn (g1 (Jr fun a5=>(JLh (.agg (G6.cs s)) (Gt Jm O O O) O (JLm (E8 boxes) O (JLm (E2 state) O (JLm (E1 ashore) O ((Bool.eq_false_or_eq_true (G22 s boxes state ashore).isSome).elim (fun a0=>?_) (fun a0=>?_))))))))
  ·
   replace h:=H1 a0 h
   obtain⟨a,g5,h⟩:=Gj h
   refine JLh (.tup [.ptr 1158 0,I64 a.2]) (Gbc (args:=[.agg (G6.cs s),E8 boxes,E2 state,E1 ashore]) (L0:=[]) (Lr:=[(1158,.box 79 [E3 a.1.ship.Columns,E7 a.1.ship.Covers,I64 a.1.ship.Light.Kilos,I64 a.1.ship.Light.X,I64 a.1.ship.Light.Y,I64 a.1.ship.Light.Z,E4 a.1.ship.Rows,E5 a.1.ship.Frames,E6 a.1.ship.Tanks,I64 a.1.ship.G5.Tolerance,I64 a.1.ship.G5.Trim,I64 a.1.ship.G5.List_,I64 a.1.ship.G5.Stability,.mp 1159,.mp 1160,.mp 1161,I64 a.1.lifts]),(1159,TP 75 Slot.kv Box.av a.1.on),(1160,TP 76 Kn Box.av a.1.quay),(1161,TP 77 Kn I64 a.1.open_)]) O (J14 s boxes state ashore a g5) J67 ⟨.inl O,O,.inl O,O,.inl O,O,.inl O,O,G⟩ G O O O) O (JLm (.tup [.ptr 1158 0,I64 a.2]) O (JLh (.ptr 1158 0) (H4 O O O) O (JLh (I64 a.2) (H4 O O O) O (JLm (.ptr 1158 0) O (JLm (I64 a.2) O (G8 (a5 ?_)))))))
   refine Jr fun g6=>(JLh (.agg (G6.cs s)) (Gt Jm O O O) O (JLm (E8 boxes) O (JLm (E2 state) O (JLm (E1 ashore) O ?_))))
   obtain⟨j,b0,h⟩:=Gj h
   refine JLh (.tup [.agg (Gq.cs j.1),I64 j.2]) (Gw O (Gab F s boxes state ashore j b0) Q74 ⟨O,O,O,O,O,O,O,O,G⟩) O (JLm (.tup [.agg (Gq.cs j.1),I64 j.2]) O (JLh (.agg (Gq.cs j.1)) (H4 O O O) O (JLh (I64 j.2) (H4 O O O) O (JLh (.ptr 1003 0) (Jn 1003 18 J91 O O) O (J9 (u:=.junk) (He (u:=.agg (Gq.cs j.1)) (ds:=(Gq.cs j.1)) Qf O O O O O O O O) (JLm (I64 j.2) O (G8 (g6 ?_))))))))
   refine Js fun b1=>Jr fun b2=>(JLm (I64 a.2) O (JLm (I64 j.2) O (JLh (BL (decide (a.2≠j.2))) (G2c O O O) O (G8 (b2 (JCc O h (fun h hb=>?_) (fun h hb=>?_)))))))
   ·
    refine Jr fun b3=>(JLm (BL false) O (G8 (b3 (Gu [(10,BL false)] [(1158,.box 79 [E3 a.1.ship.Columns,E7 a.1.ship.Covers,I64 a.1.ship.Light.Kilos,I64 a.1.ship.Light.X,I64 a.1.ship.Light.Y,I64 a.1.ship.Light.Z,E4 a.1.ship.Rows,E5 a.1.ship.Frames,E6 a.1.ship.Tanks,I64 a.1.ship.G5.Tolerance,I64 a.1.ship.G5.Trim,I64 a.1.ship.G5.List_,I64 a.1.ship.G5.Stability,.mp 1159,.mp 1160,.mp 1161,I64 a.1.lifts]),(1159,TP 75 Slot.kv Box.av a.1.on),(1160,TP 76 Kn Box.av a.1.quay),(1161,TP 77 Kn I64 a.1.open_)] 1003 rfl rfl rfl ⟨⟨_,rfl,.boxEq rfl rfl⟩,fmQ O,fmQ O,fmQ O,G⟩ rfl (by exact⟨.conv (.same rfl),G⟩) (Gs ?_)))))
    exact fin1 BL h
   ·
    refine Gn (b1 (Js fun b4=>Jr fun b5=>(JLm (I64 a.2) O (JLh (BL (decide (a.2≠0))) (G2c O O O) O (G8 (b5 (JCc O h (fun h hb=>?_) (fun h hb=>?_))))))))
    ·
     refine Jr fun b6=>(JLm (BL true) O (G8 (b6 (Gu [(10,BL true)] [(1158,.box 79 [E3 a.1.ship.Columns,E7 a.1.ship.Covers,I64 a.1.ship.Light.Kilos,I64 a.1.ship.Light.X,I64 a.1.ship.Light.Y,I64 a.1.ship.Light.Z,E4 a.1.ship.Rows,E5 a.1.ship.Frames,E6 a.1.ship.Tanks,I64 a.1.ship.G5.Tolerance,I64 a.1.ship.G5.Trim,I64 a.1.ship.G5.List_,I64 a.1.ship.G5.Stability,.mp 1159,.mp 1160,.mp 1161,I64 a.1.lifts]),(1159,TP 75 Slot.kv Box.av a.1.on),(1160,TP 76 Kn Box.av a.1.quay),(1161,TP 77 Kn I64 a.1.open_)] 1003 rfl rfl rfl ⟨⟨_,rfl,.boxEq rfl rfl⟩,fmQ O,fmQ O,fmQ O,G⟩ rfl (by exact⟨.conv (.same rfl),G⟩) (Gs ?_)))))
     exact fin1 BL h
    ·
     refine Gn (b4 (Jr fun b7=>(JLm (I64 0) O (JLm (I64 0) O (G8 (b7 (Js fun b8=>Gx ?_)))))))
     obtain⟨g7,b9,h⟩:=Ra9 h
     refine Hs (fun o (c:Int×Int×(List G1)×(List Ga)×Int×Int×Int×Int×(List Row)×(List Frame)×(List Gr)×Int×Int×Int×Int×(List Box)×(List G3)×(List Int)×(List Int)×Int)=>loop g7 o c=some r) (fun o c=>[(4,Ea l),(11,.ptr 1158 0),(13,.ptr 1003 0),(15,I64 c.1),(16,I64 c.2.1)]) (fun o c=>[(1158,.box 79 [E3 a.1.ship.Columns,E7 a.1.ship.Covers,I64 a.1.ship.Light.Kilos,I64 a.1.ship.Light.X,I64 a.1.ship.Light.Y,I64 a.1.ship.Light.Z,E4 a.1.ship.Rows,E5 a.1.ship.Frames,E6 a.1.ship.Tanks,I64 a.1.ship.G5.Tolerance,I64 a.1.ship.G5.Trim,I64 a.1.ship.G5.List_,I64 a.1.ship.G5.Stability,.mp 1159,.mp 1160,.mp 1161,I64 a.1.lifts]),(1159,TP 75 Slot.kv Box.av a.1.on),(1160,TP 76 Kn Box.av a.1.quay),(1161,TP 77 Kn I64 a.1.open_),(1003,.box 45 (Kk c))]) (fun o=>o) F (0,0,j.1.G6.Columns,j.1.G6.Covers,j.1.G6.Light.Kilos,j.1.G6.Light.X,j.1.G6.Light.Y,j.1.G6.Light.Z,j.1.G6.Rows,j.1.G6.Frames,j.1.G6.Tanks,j.1.G6.G5.Tolerance,j.1.G6.G5.Trim,j.1.G6.G5.List_,j.1.G6.G5.Stability,j.1.Boxes,j.1.State,j.1.Ashore,j.1.Open,j.1.Lifts) h ⟨(.sm O O),⟨fbQ O (.sm O O),fmQ O,fmQ O,fmQ O,fbQ O (.sm O O),G⟩,rfl⟩ ?_
     clear h
     intro o c c0 h2 a6
     obtain⟨a7,g9,hm_37,a1,h⟩:=R08 c0
     replace h:=app2 b9 h
     refine Js fun c1=>Jr fun c2=>(JLm (I64 c.1) O (JLm (Ea l) O (JLl Jt O O O fun c3=>(JLh (BL (decide (c.1 < (l.length:Int)))) (Jq O O O) O (JLm (BL (decide (c.1 < (l.length:Int)))) O (JLo (I64 c.2.1) [] O .sct G (fun hc=>G7 O O) O (JLo (BL (decide (c.2.1=0))) [60] O .sct ⟨Ua,G⟩ (fun hc=>Jk O O O) O (JLh (BL ((decide (c.1 < (l.length:Int)))&&(decide (c.2.1=0)))) (Jv O O O O) O (G8 (c2 (JCc O h (fun h hb=>?_) (fun h hb=>?_))))))))))))
     ·
      refine Gn (c1 (Gx (Js fun c4=>?_)))
      refine Qw (l':=[(4,Ea l),(11,.ptr 1158 0),(13,.ptr 1003 0),(15,I64 c.1)]) (L':=[(1158,.box 79 [E3 a.1.ship.Columns,E7 a.1.ship.Covers,I64 a.1.ship.Light.Kilos,I64 a.1.ship.Light.X,I64 a.1.ship.Light.Y,I64 a.1.ship.Light.Z,E4 a.1.ship.Rows,E5 a.1.ship.Frames,E6 a.1.ship.Tanks,I64 a.1.ship.G5.Tolerance,I64 a.1.ship.G5.Trim,I64 a.1.ship.G5.List_,I64 a.1.ship.G5.Stability,.mp 1159,.mp 1160,.mp 1161,I64 a.1.lifts]),(1159,TP 75 Slot.kv Box.av a.1.on),(1160,TP 76 Kn Box.av a.1.quay),(1161,TP 77 Kn I64 a.1.open_),(1003,.box 45 (Kk c))]) ⟨(.sm O O),⟨fbQ O (.sm O O),fmQ O,fmQ O,fmQ O,fbQ O (.sm O O),G⟩,rfl⟩ ?_
      obtain⟨h3,w,c5,c6,h⟩:=Rr h
      obtain⟨d,c7,h⟩:=Gj h
      refine J4 [9] [0,0,0,0,0,0,0,0,0,0,1] [0,0,0,0,0,0,0,0,1,0,1] [[(1158,.box 79 [E3 a.1.ship.Columns,E7 a.1.ship.Covers,I64 a.1.ship.Light.Kilos,I64 a.1.ship.Light.X,I64 a.1.ship.Light.Y,I64 a.1.ship.Light.Z,E4 a.1.ship.Rows,E5 a.1.ship.Frames,E6 a.1.ship.Tanks,I64 a.1.ship.G5.Tolerance,I64 a.1.ship.G5.Trim,I64 a.1.ship.G5.List_,I64 a.1.ship.G5.Stability,.mp 1159,.mp 1160,.mp 1161,I64 a.1.lifts]),(1159,TP 75 Slot.kv Box.av a.1.on),(1160,TP 76 Kn Box.av a.1.quay),(1161,TP 77 Kn I64 a.1.open_),(1003,.box 45 (Kk c))],((1003,.box 45 (Gq.cs d.1))::[(1158,.box 79 [E3 a.1.ship.Columns,E7 a.1.ship.Covers,I64 a.1.ship.Light.Kilos,I64 a.1.ship.Light.X,I64 a.1.ship.Light.Y,I64 a.1.ship.Light.Z,E4 a.1.ship.Rows,E5 a.1.ship.Frames,E6 a.1.ship.Tanks,I64 a.1.ship.G5.Tolerance,I64 a.1.ship.G5.Trim,I64 a.1.ship.G5.List_,I64 a.1.ship.G5.Stability,.mp 1159,.mp 1160,.mp 1161,I64 a.1.lifts]),(1159,TP 75 Slot.kv Box.av a.1.on),(1160,TP 76 Kn Box.av a.1.quay),(1161,TP 77 Kn I64 a.1.open_),(1003,.box 45 (Kk c))])] Ho (by kernel_rfl) rfl rfl ?_
      refine Gc (u:=.agg (Kk c)) O O ⟨Gi (Ra Ja O O O O) O,G⟩ (Gc (u:=Ea l) O O ⟨Gi (G7 O O) O,G⟩ (Gc (u:=I64 c.1) O O ⟨Gi (G7 O O) O,G⟩ (Gc (u:=Ec w) O O ⟨Gi (H0 (f:=Move.av) (xs:=l) (y:=w) O O O Jt c6 c5) O,G⟩ (Gc (u:=.agg (Move.cs w)) O O ⟨Gi (Gt G23 O O O) O,G⟩ (Gc (u:=.tup [.agg (Gq.cs d.1),I64 d.2]) O O ⟨Gi (Gw O (Ge3 F (Gq.mk (G6.mk c.2.2.1 c.2.2.2.1 (Light.mk c.2.2.2.2.1 c.2.2.2.2.2.1 c.2.2.2.2.2.2.1 c.2.2.2.2.2.2.2.1) c.2.2.2.2.2.2.2.2.1 c.2.2.2.2.2.2.2.2.2.1 c.2.2.2.2.2.2.2.2.2.2.1 (G5.mk c.2.2.2.2.2.2.2.2.2.2.2.1 c.2.2.2.2.2.2.2.2.2.2.2.2.1 c.2.2.2.2.2.2.2.2.2.2.2.2.2.1 c.2.2.2.2.2.2.2.2.2.2.2.2.2.2.1)) c.2.2.2.2.2.2.2.2.2.2.2.2.2.2.2.1 c.2.2.2.2.2.2.2.2.2.2.2.2.2.2.2.2.1 c.2.2.2.2.2.2.2.2.2.2.2.2.2.2.2.2.2.1 c.2.2.2.2.2.2.2.2.2.2.2.2.2.2.2.2.2.2.1 c.2.2.2.2.2.2.2.2.2.2.2.2.2.2.2.2.2.2.2) w d c7) Q73 ⟨O,O,O,O,G⟩) O,G⟩ (Gc (u:=.tup [.agg (Gq.cs d.1),I64 d.2]) O O ⟨Gi (G7 O O) O,G⟩ (Gc (u:=.agg (Gq.cs d.1)) O O ⟨Gi (H4 O O O) O,G⟩ (Gc (u:=I64 d.2) O O ⟨Gi (H4 O O O) O,Gi (H4 O O O) O,G⟩ (Gf2 (u:=.junk) O O O O (Gi (He (u:=.agg (Gq.cs d.1)) (ds:=(Gq.cs d.1)) Qf O O O O O O O O) O) (Gc (u:=I64 d.2) O O ⟨Gi (G9 O O) O,G⟩ (Qp ?_)))))))))))
      refine c4 (Jr fun c8=>(JLm (I64 d.2) O (JLh (BL (decide (d.2=0))) (Jk O O O) O (G8 (c8 (JCc O h (fun h hb=>?_) (fun h hb=>?_)))))))
      ·
       refine G2 (JLm (I64 c.1) O ?_)
       obtain⟨a2,c9,h⟩:=Zw h
       refine JLh (I64 a2) (Jo c9 O O O) O (JLm (I64 a2) O (G8 (a6 _ _ a7 (a2,d.2,d.1.G6.Columns,d.1.G6.Covers,d.1.G6.Light.Kilos,d.1.G6.Light.X,d.1.G6.Light.Y,d.1.G6.Light.Z,d.1.G6.Rows,d.1.G6.Frames,d.1.G6.Tanks,d.1.G6.G5.Tolerance,d.1.G6.G5.Trim,d.1.G6.G5.List_,d.1.G6.G5.Stability,d.1.Boxes,d.1.State,d.1.Ashore,d.1.Open,d.1.Lifts) (app1 a1 h) (by omega) ⟨(.sm O O),⟨fbQ O (.sm O O),fmQ O,fmQ O,fmQ O,fbQ O (.sm O O),G⟩,rfl⟩)))
      ·
       refine Gn (a6 _ _ a7 (c.1,d.2,d.1.G6.Columns,d.1.G6.Covers,d.1.G6.Light.Kilos,d.1.G6.Light.X,d.1.G6.Light.Y,d.1.G6.Light.Z,d.1.G6.Rows,d.1.G6.Frames,d.1.G6.Tanks,d.1.G6.G5.Tolerance,d.1.G6.G5.Trim,d.1.G6.G5.List_,d.1.G6.G5.Stability,d.1.Boxes,d.1.State,d.1.Ashore,d.1.Open,d.1.Lifts) (app1 a1 h) (by omega) ⟨(.sm O O),⟨fbQ O (.sm O O),fmQ O,fmQ O,fmQ O,fbQ O (.sm O O),G⟩,rfl⟩)
     ·
      refine Hy (b8 (Jr fun d0=>(JLm (Ea l) O ?_)))
      obtain⟨m,d1,h⟩:=Gj h
      refine JLh (LT 6 Move.av m) (Gw O (G83 l m d1) Q0c ⟨O,O,G⟩) O (JLm (LT 6 Move.av m) O (G8 (d0 ?_)))
      refine fzQ [(4,Ea l),(11,.ptr 1158 0),(13,.dptr (Kk c)),(15,I64 c.1),(16,I64 c.2.1),(17,LT 6 Move.av m)] [(1158,.box 79 [E3 a.1.ship.Columns,E7 a.1.ship.Covers,I64 a.1.ship.Light.Kilos,I64 a.1.ship.Light.X,I64 a.1.ship.Light.Y,I64 a.1.ship.Light.Z,E4 a.1.ship.Rows,E5 a.1.ship.Frames,E6 a.1.ship.Tanks,I64 a.1.ship.G5.Tolerance,I64 a.1.ship.G5.Trim,I64 a.1.ship.G5.List_,I64 a.1.ship.G5.Stability,.mp 1159,.mp 1160,.mp 1161,I64 a.1.lifts]),(1159,TP 75 Slot.kv Box.av a.1.on),(1160,TP 76 Kn Box.av a.1.quay),(1161,TP 77 Kn I64 a.1.open_)] 1003 rfl rfl rfl ⟨⟨_,rfl,.boxEq rfl rfl⟩,fmQ O,fmQ O,fmQ O,G⟩ rfl ?_
      refine Jr fun d2=>(JLm (.ptr 1158 0) O (JLh (Ea m.1) (H2.cv (Cv.lst0 m) (G7 O O)) O ?_))
      obtain⟨g,d3,h⟩:=Gj h
      refine JLh (.tup [I64 g.1,I64 g.2.1]) (Gbc (args:=[.ptr 1158 0,Ea m.1]) (L0:=[(1158,.box 79 [E3 a.1.ship.Columns,E7 a.1.ship.Covers,I64 a.1.ship.Light.Kilos,I64 a.1.ship.Light.X,I64 a.1.ship.Light.Y,I64 a.1.ship.Light.Z,E4 a.1.ship.Rows,E5 a.1.ship.Frames,E6 a.1.ship.Tanks,I64 a.1.ship.G5.Tolerance,I64 a.1.ship.G5.Trim,I64 a.1.ship.G5.List_,I64 a.1.ship.G5.Stability,.mp 1159,.mp 1160,.mp 1161,I64 a.1.lifts]),(1159,TP 75 Slot.kv Box.av a.1.on),(1160,TP 76 Kn Box.av a.1.quay),(1161,TP 77 Kn I64 a.1.open_)]) (Lr:=[(1158,.box 79 [E3 g.2.2.ship.Columns,E7 g.2.2.ship.Covers,I64 g.2.2.ship.Light.Kilos,I64 g.2.2.ship.Light.X,I64 g.2.2.ship.Light.Y,I64 g.2.2.ship.Light.Z,E4 g.2.2.ship.Rows,E5 g.2.2.ship.Frames,E6 g.2.2.ship.Tanks,I64 g.2.2.ship.G5.Tolerance,I64 g.2.2.ship.G5.Trim,I64 g.2.2.ship.G5.List_,I64 g.2.2.ship.G5.Stability,.mp 1159,.mp 1160,.mp 1161,I64 g.2.2.lifts]),(1159,TP 75 Slot.kv Box.av g.2.2.on),(1160,TP 76 Kn Box.av g.2.2.quay),(1161,TP 77 Kn I64 g.2.2.open_)]) O (J87 a.1 m.1 g d3) R58 ⟨.inl O,O,.inl O,O,G⟩ ⟨O,O,O,O,G⟩ O O O) O (JLm (.tup [I64 g.1,I64 g.2.1]) O (JLh (I64 g.1) (H4 O O O) O (JLh (I64 g.2.1) (H4 O O O) O (JLm (I64 g.1) O (JLm (I64 g.2.1) O (G8 (d2 ?_)))))))
      refine Jr fun d4=>(JLm (I64 g.1) O (JLm (I64 c.1) O (JLh (BL (decide (g.1=c.1))) (Jk O O O) O (JLm (BL (decide (g.1=c.1))) O (JLo (I64 g.2.1) [] O .sct G (fun hc=>G7 O O) O (JLo (I64 c.2.1) [] O .sct G (fun hc=>G7 O O) O (JLo (BL (decide (g.2.1=c.2.1))) [88,89] O .sct ⟨Ua,Ua,G⟩ (fun hc=>Jk O O O) O (JLh (BL ((decide (g.1=c.1))&&(decide (g.2.1=c.2.1)))) (Jv O O O O) O (JLm (BL ((decide (g.1=c.1))&&(decide (g.2.1=c.2.1)))) O (JLo (.ptr 1158 0) [] O .sct G (fun hc=>G7 O O) O (JLo (.agg (Kk c)) [] O .sct G (fun hc=>Gt Ja O O O) O ?_)))))))))))
      obtain⟨p,d5,h⟩:=Gj h
      refine JLo (BL p) [93,94] O .sct ⟨Ua,Ua,G⟩ (fun hc=>G8e (args:=[.dptr (Gh.cs g.2.2),.agg (Kk c)]) O (H89 g.2.2 (Gq.mk (G6.mk c.2.2.1 c.2.2.2.1 (Light.mk c.2.2.2.2.1 c.2.2.2.2.2.1 c.2.2.2.2.2.2.1 c.2.2.2.2.2.2.2.1) c.2.2.2.2.2.2.2.2.1 c.2.2.2.2.2.2.2.2.2.1 c.2.2.2.2.2.2.2.2.2.2.1 (G5.mk c.2.2.2.2.2.2.2.2.2.2.2.1 c.2.2.2.2.2.2.2.2.2.2.2.2.1 c.2.2.2.2.2.2.2.2.2.2.2.2.2.1 c.2.2.2.2.2.2.2.2.2.2.2.2.2.2.1)) c.2.2.2.2.2.2.2.2.2.2.2.2.2.2.2.1 c.2.2.2.2.2.2.2.2.2.2.2.2.2.2.2.2.1 c.2.2.2.2.2.2.2.2.2.2.2.2.2.2.2.2.2.1 c.2.2.2.2.2.2.2.2.2.2.2.2.2.2.2.2.2.2.1 c.2.2.2.2.2.2.2.2.2.2.2.2.2.2.2.2.2.2.2) p (H1 hc d5)) R57 ⟨.ptrL O (dnQ 13 O O ⟨.mp O,.mp O,.mp O,.data O O,G⟩),.data O O,G⟩ O) O (JLh (BL (((decide (g.1=c.1))&&(decide (g.2.1=c.2.1)))&&p)) (Jv O O O O) O (JLm (BL (((decide (g.1=c.1))&&(decide (g.2.1=c.2.1)))&&p)) O (JLo (LT 6 Move.av m) [] O .sct G (fun hc=>G7 O O) O (JLo (Ea l) [] O .sct G (fun hc=>G7 O O) O ?_))))
      obtain⟨x,d6,h⟩:=Gj h
      refine JLo (BL x) [98,99] O .sct ⟨Ua,Ua,G⟩ (fun hc=>Gw (args:=[LT 6 Move.av m,Ea l]) O (H45 m l x (H1 hc d6)) R56 ⟨O,O,O,O,G⟩) O (JLh (BL ((((decide (g.1=c.1))&&(decide (g.2.1=c.2.1)))&&p)&&x)) (Jv O O O O) O (JLm (BL ((((decide (g.1=c.1))&&(decide (g.2.1=c.2.1)))&&p)&&x)) O (G8 (d4 (Gs (fin1 BL h))))))
  ·
   replace h:=Hg a0 h
   obtain⟨n,d7,h⟩:=Gj h
   refine JLh (.tup [.sc (.pointer none),I64 n]) (Gw O (Jc1 s boxes state ashore n d7) J67 ⟨O,O,O,O,O,O,O,O,G⟩) O (JLm (.tup [.sc (.pointer none),I64 n]) O (JLh (.sc (.pointer none)) (H4 O O O) O (JLh (I64 n) (H4 O O O) O (JLm (.sc (.pointer none)) O (JLm (I64 n) O (G8 (a5 (Jr fun d8=>(JLh (.agg (G6.cs s)) (Gt Jm O O O) O (JLm (E8 boxes) O (JLm (E2 state) O (JLm (E1 ashore) O ?_))))))))))))
   obtain⟨k,d9,h⟩:=Gj h
   refine JLh (.tup [.agg (Gq.cs k.1),I64 k.2]) (Gw O (Gab F s boxes state ashore k d9) Q74 ⟨O,O,O,O,O,O,O,O,G⟩) O (JLm (.tup [.agg (Gq.cs k.1),I64 k.2]) O (JLh (.agg (Gq.cs k.1)) (H4 O O O) O (JLh (I64 k.2) (H4 O O O) O (JLh (.ptr 1003 0) (Jn 1003 18 J91 O O) O (J9 (u:=.junk) (He (u:=.agg (Gq.cs k.1)) (ds:=(Gq.cs k.1)) Qf O O O O O O O O) (JLm (I64 k.2) O (G8 (d8 ?_))))))))
   refine Js fun e0=>Jr fun e1=>(JLm (I64 n) O (JLm (I64 k.2) O (JLh (BL (decide (n≠k.2))) (G2c O O O) O (G8 (e1 (JCc O h (fun h hb=>?_) (fun h hb=>?_)))))))
   ·
    refine Jr fun e2=>(JLm (BL false) O (G8 (e2 (Gu [(10,BL false)] [] 1003 rfl rfl rfl G rfl (by exact⟨.conv (.same rfl),G⟩) (Gs (fin1 BL h))))))
   ·
    refine Gn (e0 (Js fun e3=>Jr fun e4=>(JLm (I64 n) O (JLh (BL (decide (n≠0))) (G2c O O O) O (G8 (e4 (JCc O h (fun h hb=>?_) (fun h hb=>?_))))))))
    ·
     refine Jr fun e5=>(JLm (BL true) O (G8 (e5 (Gu [(10,BL true)] [] 1003 rfl rfl rfl G rfl (by exact⟨.conv (.same rfl),G⟩) (Gs (fin1 BL h))))))
    ·
     refine Gn (e3 (Jr fun e6=>(JLm (I64 0) O (JLm (I64 0) O (G8 (e6 (Js fun e7=>Gx ?_)))))))
     obtain⟨g8,e8,h⟩:=Ra9 h
     refine Hs (fun q (i:Int×Int×(List G1)×(List Ga)×Int×Int×Int×Int×(List Row)×(List Frame)×(List Gr)×Int×Int×Int×Int×(List Box)×(List G3)×(List Int)×(List Int)×Int)=>loop g8 q i=some r) (fun q i=>[(4,Ea l),(11,.sc (.pointer none)),(13,.ptr 1003 0),(15,I64 i.1),(16,I64 i.2.1)]) (fun q i=>[(1003,.box 45 (Km i))]) (fun q=>q) F (0,0,k.1.G6.Columns,k.1.G6.Covers,k.1.G6.Light.Kilos,k.1.G6.Light.X,k.1.G6.Light.Y,k.1.G6.Light.Z,k.1.G6.Rows,k.1.G6.Frames,k.1.G6.Tanks,k.1.G6.G5.Tolerance,k.1.G6.G5.Trim,k.1.G6.G5.List_,k.1.G6.G5.Stability,k.1.Boxes,k.1.State,k.1.Ashore,k.1.Open,k.1.Lifts) h ⟨(.sm O O),⟨fbQ O (.sm O O),G⟩,rfl⟩ ?_
     clear h
     intro q i e9 h4 a8
     obtain⟨a9,h0,hm_82,a3,h⟩:=R08 e9
     replace h:=app2 e8 h
     refine Js fun f0=>Jr fun f1=>(JLm (I64 i.1) O (JLm (Ea l) O (JLl Jt O O O fun c3=>(JLh (BL (decide (i.1 < (l.length:Int)))) (Jq O O O) O (JLm (BL (decide (i.1 < (l.length:Int)))) O (JLo (I64 i.2.1) [] O .sct G (fun hc=>G7 O O) O (JLo (BL (decide (i.2.1=0))) [60] O .sct ⟨Ua,G⟩ (fun hc=>Jk O O O) O (JLh (BL ((decide (i.1 < (l.length:Int)))&&(decide (i.2.1=0)))) (Jv O O O O) O (G8 (f1 (JCc O h (fun h hb=>?_) (fun h hb=>?_))))))))))))
     ·
      refine Gn (f0 (Gx (Js fun f2=>?_)))
      refine Qw (l':=[(4,Ea l),(11,.sc (.pointer none)),(13,.ptr 1003 0),(15,I64 i.1)]) (L':=[(1003,.box 45 (Km i))]) ⟨(.sm O O),⟨fbQ O (.sm O O),G⟩,rfl⟩ ?_
      obtain⟨h5,z,f3,f4,h⟩:=Rr h
      obtain⟨e,f5,h⟩:=Gj h
      refine J4 [9] [0,0,0,0,0,0,0,0,0,0,1] [0,0,0,0,0,0,0,0,1,0,1] [[(1003,.box 45 (Km i))],((1003,.box 45 (Gq.cs e.1))::[(1003,.box 45 (Km i))])] Ho (by kernel_rfl) rfl rfl ?_
      refine Gc (u:=.agg (Km i)) O O ⟨Gi (Ra Ja O O O O) O,G⟩ (Gc (u:=Ea l) O O ⟨Gi (G7 O O) O,G⟩ (Gc (u:=I64 i.1) O O ⟨Gi (G7 O O) O,G⟩ (Gc (u:=Ec z) O O ⟨Gi (H0 (f:=Move.av) (xs:=l) (y:=z) O O O Jt f4 f3) O,G⟩ (Gc (u:=.agg (Move.cs z)) O O ⟨Gi (Gt G23 O O O) O,G⟩ (Gc (u:=.tup [.agg (Gq.cs e.1),I64 e.2]) O O ⟨Gi (Gw O (Ge3 F (Gq.mk (G6.mk i.2.2.1 i.2.2.2.1 (Light.mk i.2.2.2.2.1 i.2.2.2.2.2.1 i.2.2.2.2.2.2.1 i.2.2.2.2.2.2.2.1) i.2.2.2.2.2.2.2.2.1 i.2.2.2.2.2.2.2.2.2.1 i.2.2.2.2.2.2.2.2.2.2.1 (G5.mk i.2.2.2.2.2.2.2.2.2.2.2.1 i.2.2.2.2.2.2.2.2.2.2.2.2.1 i.2.2.2.2.2.2.2.2.2.2.2.2.2.1 i.2.2.2.2.2.2.2.2.2.2.2.2.2.2.1)) i.2.2.2.2.2.2.2.2.2.2.2.2.2.2.2.1 i.2.2.2.2.2.2.2.2.2.2.2.2.2.2.2.2.1 i.2.2.2.2.2.2.2.2.2.2.2.2.2.2.2.2.2.1 i.2.2.2.2.2.2.2.2.2.2.2.2.2.2.2.2.2.2.1 i.2.2.2.2.2.2.2.2.2.2.2.2.2.2.2.2.2.2.2) z e f5) Q73 ⟨O,O,O,O,G⟩) O,G⟩ (Gc (u:=.tup [.agg (Gq.cs e.1),I64 e.2]) O O ⟨Gi (G7 O O) O,G⟩ (Gc (u:=.agg (Gq.cs e.1)) O O ⟨Gi (H4 O O O) O,G⟩ (Gc (u:=I64 e.2) O O ⟨Gi (H4 O O O) O,Gi (H4 O O O) O,G⟩ (Gf2 (u:=.junk) O O O O (Gi (He (u:=.agg (Gq.cs e.1)) (ds:=(Gq.cs e.1)) Qf O O O O O O O O) O) (Gc (u:=I64 e.2) O O ⟨Gi (G9 O O) O,G⟩ (Qp ?_)))))))))))
      refine f2 (Jr fun f6=>(JLm (I64 e.2) O (JLh (BL (decide (e.2=0))) (Jk O O O) O (G8 (f6 (JCc O h (fun h hb=>?_) (fun h hb=>?_)))))))
      ·
       refine G2 (JLm (I64 i.1) O ?_)
       obtain⟨a4,f7,h⟩:=Zw h
       refine JLh (I64 a4) (Jo f7 O O O) O (JLm (I64 a4) O (G8 (a8 _ _ a9 (a4,e.2,e.1.G6.Columns,e.1.G6.Covers,e.1.G6.Light.Kilos,e.1.G6.Light.X,e.1.G6.Light.Y,e.1.G6.Light.Z,e.1.G6.Rows,e.1.G6.Frames,e.1.G6.Tanks,e.1.G6.G5.Tolerance,e.1.G6.G5.Trim,e.1.G6.G5.List_,e.1.G6.G5.Stability,e.1.Boxes,e.1.State,e.1.Ashore,e.1.Open,e.1.Lifts) (app1 a3 h) (by omega) ⟨(.sm O O),⟨fbQ O (.sm O O),G⟩,rfl⟩)))
      ·
       refine Gn (a8 _ _ a9 (i.1,e.2,e.1.G6.Columns,e.1.G6.Covers,e.1.G6.Light.Kilos,e.1.G6.Light.X,e.1.G6.Light.Y,e.1.G6.Light.Z,e.1.G6.Rows,e.1.G6.Frames,e.1.G6.Tanks,e.1.G6.G5.Tolerance,e.1.G6.G5.Trim,e.1.G6.G5.List_,e.1.G6.G5.Stability,e.1.Boxes,e.1.State,e.1.Ashore,e.1.Open,e.1.Lifts) (app1 a3 h) (by omega) ⟨(.sm O O),⟨fbQ O (.sm O O),G⟩,rfl⟩)
     ·
      refine Hy (e7 (Jr fun f8=>(JLm (Ea l) O ?_)))
      obtain⟨t,f9,h⟩:=Gj h
      refine JLh (LT 6 Move.av t) (Gw O (G83 l t f9) Q0c ⟨O,O,G⟩) O (JLm (LT 6 Move.av t) O (G8 (f8 ?_)))
      refine fzQ [(4,Ea l),(11,.sc (.pointer none)),(13,.dptr (Km i)),(15,I64 i.1),(16,I64 i.2.1),(17,LT 6 Move.av t)] [] 1003 rfl rfl rfl G rfl ?_
      refine Jr fun h1=>(JLm (.sc (.pointer none)) O (JLh (Ea t.1) (H2.cv (Cv.lst0 t) (G7 O O)) O ?_))
      cases h

def Zf (F:Nat) (s:G6) (boxes:List Box) (state:List G3) (ashore:List Int) (l:List Move):Option Bool:=
 bnd (Za F s boxes state ashore l) fun a=>
 bnd (bif a then G17 else some default) fun b=>
 some (a&&b)
theorem H26 (F:Nat) (s:G6) (boxes:List Box) (state:List G3) (ashore:List Int) (l:List Move) (r:Bool) (h:Zf F s boxes state ashore l=some r):Pure Ek 3 [.agg (G6.cs s),E8 boxes,E2 state,E1 ashore,Ea l] (·=BL r):=by
 unfold Zf at h
 refine H3 [.tmp 10] Tryz.func3 O O (Jr fun c=>(JLh (.ptr 1001 0) (Ju (cs:=(G6.cs s)) 1001 O O O O O) O (JLm (BL false) O (G8 (c (fzQ [(1,E8 boxes),(2,E2 state),(3,E1 ashore),(4,Ea l),(5,Ee s)] [] 1001 rfl rfl rfl G rfl (Jr fun d=>(JLh (.agg (G6.cs s)) (Gt Jm O O O) O (JLm (E8 boxes) O (JLm (E2 state) O (JLm (E1 ashore) O (JLm (Ea l) O ?_))))))))))))
 obtain⟨a,e,h⟩:=Gj h
 refine JLh (BL a) (Gw O (H6f F s boxes state ashore l a e) Rc7 ⟨O,O,O,O,O,O,O,O,O,O,G⟩) O (JLm (BL a) O ?_)
 obtain⟨b,f,h⟩:=Gj h
 refine JLo (BL b) [] O .sct G (fun hc=>Gw (args:=[]) O (H70  b (H1 hc f)) Rc6 G) O (JLh (BL (a&&b)) (Jv O O O O) O (JLm (BL (a&&b)) O (G8 (d (Gs (fin1 BL h))))))
end
end Go.Proofs.YtmfhaflabpnaoaaGreat
