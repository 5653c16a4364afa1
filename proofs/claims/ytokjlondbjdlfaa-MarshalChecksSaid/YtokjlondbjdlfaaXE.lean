/- Walks of functions. -/
import Derived.Test.YtokjlondbjdlfaaXEa
set_option maxRecDepth 100000
set_option maxHeartbeats 1000000
set_option linter.unusedVariables false
set_option linter.unusedSimpArgs false
namespace Go.Proofs.Ytokjlondbjdlfaa
open Go.RowKit
noncomputable section
open XAF
open XBF
open XCF
open XDF
open XEF

def Qq (k:Int) (i:Int):Option Int:=
 chk (k+7) fun a=>
 chk (1000003*a) fun b=>
 chk (b+i) fun c=>
 some c
theorem G0e (k:Int) (i:Int) (r:Int) (h:Qq k i=some r):Pure E8 64 [I64 k,I64 i] (·=I64 r):=by
 unfold Qq at h
 refine Hc [.tmp 4] Try.func64 O O (Jr fun a=>(JLm (I64 0) O (G6 (a (Jr fun b=>(JLm (I64 k) O ?_))))))
 obtain⟨g,c,h⟩:=J4 h
 refine JLh (I64 g) (Hv c O O O) O ?_
 obtain⟨j,d,h⟩:=J4 h
 refine JLh (I64 j) (Q71 d O O O) O (JLm (I64 i) O ?_)
 obtain⟨e,f,h⟩:=J4 h
 refine JLh (I64 e) (Hv f O O O) O (JLm (I64 e) O (G6 (b (H0 (fin1 I64 h)))))

def Ji (out:Ln Int) (l:List Int):Option Bool:=
 bif decide ((out.1.length:Int)≠(l.length:Int)) then
 (some false)
 else
 (chk ((l.length:Int)+12) fun h=>
  bnd (Rj h (out.1++out.2).length) fun i=>
  each (fun b a (e:Unit) d=>
   bnd (bif decide ((a:Int) < (l.length:Int)) then Qu l (a:Int) some else some default) fun c=>
   bnd (bif ((!((decide ((a:Int) < (l.length:Int)))&&(!(decide (b=c)))))&&(decide ((l.length:Int)≤(a:Int)))) then chk ((a:Int) - (l.length:Int)) some else some 0) fun f=>
   bnd (bif ((!((decide ((a:Int) < (l.length:Int)))&&(!(decide (b=c)))))&&(decide ((l.length:Int)≤(a:Int)))) then Qq 1 f else some default) fun g=>
   bif (((decide ((a:Int) < (l.length:Int)))&&(!(decide (b=c))))||((decide ((l.length:Int)≤(a:Int)))&&(!(decide (b=g))))) then
   (some false)
   else
   (d ()))
  (fun(e:Unit)=>
   some true) ((out.1++out.2).take i) 0 ())
theorem Rh (out:Ln Int) (l:List Int) (r:Bool) (h:Ji out l=some r):Pure E8 35 [LT 1 I64 out,E1 l] (·=BL r):=by
 unfold Ji at h
 refine Hc [.tmp 4] Try.func35 O O (Jr fun a5=>(JLm (BL false) O (G6 (a5 (Js fun a6=>Jr fun a7=>(JLm (LT 1 I64 out) O (JLl G7 O O O fun c0=>(JLm (E1 l) O (JLl G7 O O O fun b6=>(JLh (BL (decide ((out.1.length:Int)≠(l.length:Int)))) (G06 O O O) O (G6 (a7 (JCc O h (fun h hb=>?_) (fun h hb=>?_))))))))))))))
 ·
  refine Jr fun a8=>(JLm (BL false) O (G6 (a8 (H0 (fin1 BL h)))))
 ·
  refine Gi (a6 (Jr fun a9=>(JLm (LT 1 I64 out) O (JLm (E1 l) O (JLl G7 O O O fun b7=>?_)))))
  obtain⟨v6,b0,h⟩:=J4 h
  refine JLh (I64 v6) (Hv b0 O O O) O ?_
  obtain⟨g,b1,h⟩:=Gc h
  refine JLh (E1 ((out.1++out.2).take g)) (Q05 (f:=I64) (e:=out) O O O G7 (Hb b1)) O (JLm (E1 ((out.1++out.2).take g)) O (G6 (a9 (Js fun b2=>Jr fun b3=>(JLm (I64 0) O (G6 (b3 (Gf ?_))))))))
  obtain⟨b4,q,s,p,h⟩:=J0 h
  refine H7 (fun a (j:Unit)=>each b4 q (List.drop a ((out.1++out.2).take g)) a j=some r) (fun a j=>[(1,E1 l),(5,E1 ((out.1++out.2).take g)),(6,E7 a)]) (fun a j=>[]) (fun a=>((out.1++out.2).take g).length - a) 0 () h ⟨(.sm O O),G,O⟩ ?_
  clear h
  intro a j k c1 b5
  refine Js fun t=>Jr fun u=>(JLm (E7 a) O (JLm (E1 ((out.1++out.2).take g)) O (JLl G7 O O O fun v=>(JLh (BL (decide ((a:Int) < (((out.1++out.2).take g).length:Int)))) (Hu O O O) O (G6 (u (Gh O (fun hb=>?_) (fun hb=>?_))))))))
  ·
   have m:=Jn hb
   obtain⟨c,b9,n,w,h⟩:=Hp k m
   replace h:=Y1 s h
   refine Gi (t (Js fun x=>Gf (Js fun z=>?_)))
   obtain⟨d,a0,h⟩:=Gc h
   obtain⟨o,a1,h⟩:=Gc h
   obtain⟨i,a2,h⟩:=Gc h
   refine JC_d0 Jf (by kernel_rfl) (Dq (E7 a) (G2 O O) O (Dq (E1 l) (G2 O O) O (Dq (E7 l.length) (Q6 (f:=I64) (xs:=l) G7 O O) O (Dq (BL (decide ((a:Int) < (l.length:Int)))) (Hu O O O) O (Dq (BL (decide ((a:Int) < (l.length:Int)))) (G2 O O) O (Do (E1 ((out.1++out.2).take g)) [] O .sct G (fun hc=>G2 O O) O (Do (E7 a) [] O .sct G (fun hc=>G2 O O) O (Do (.dptr [I64 c]) [28,29] O .sct ⟨Ua,Ua,G⟩ (fun hc=>Gz (f:=I64) (xs:=((out.1++out.2).take g)) (y:=c) O O O G7 n O) O (Do (I64 c) [30] O .sct ⟨Ua,G⟩ (fun hc=>Gk Gg O O O) O (Do (E1 l) [] O .sct G (fun hc=>G2 O O) O (Do (E7 a) [] O .sct G (fun hc=>G2 O O) O (Do (.dptr [I64 d]) [32,33] O .sct ⟨Ua,Ua,G⟩ (fun hc=>(match G3f (H3 hc a0) with | ⟨_,hm_,hy_⟩=>Gz (f:=I64) (xs:=l) (y:=d) O O O G7 hy_ hm_)) O (Do (I64 d) [34] O .sct ⟨Ua,G⟩ (fun hc=>Gk Gg O O O) O ?_)))))))))))))
   refine Do (BL (decide (c=d))) [31,35] O .sct ⟨Ua,Ua,G⟩ (fun hc=>Rq O O O) O (Do (BL (!(decide (c=d)))) [36] O .sct ⟨Ua,G⟩ (fun hc=>Yr (b:=decide (c=d)) O O) O (Dq (BL ((decide ((a:Int) < (l.length:Int)))&&(!(decide (c=d))))) (Y0 O O O O) O (Dq (BL ((decide ((a:Int) < (l.length:Int)))&&(!(decide (c=d))))) (G2 O O) O (Do (E7 a) [] O .scf G (fun hc=>G2 O O) O (Do (E1 l) [] O .scf G (fun hc=>G2 O O) O (Do (E7 l.length) [41] O .scf ⟨Ua,G⟩ (fun hc=>Q6 (f:=I64) (xs:=l) G7 O O) O (Do (BL (decide ((l.length:Int)≤(a:Int)))) [40,42] O .scf ⟨Ua,Ua,G⟩ (fun hc=>G45 O O O) O (Do (BL (decide ((l.length:Int)≤(a:Int)))) [43] O .scf ⟨Ua,G⟩ (fun hc=>G2 O O) O (Do (E1 ((out.1++out.2).take g)) [] O .optt G (fun hc=>G2 O O) O (Do (E7 a) [] O .optt G (fun hc=>G2 O O) O (Do (.dptr [I64 c]) [45,46] O .optt ⟨Ua,Ua,G⟩ (fun hc=>Gz (f:=I64) (xs:=((out.1++out.2).take g)) (y:=c) O O O G7 n O) O (Do (I64 c) [47] O .optt ⟨Ua,G⟩ (fun hc=>Gk Gg O O O) O (Do (E7 a) [] O .optt G (fun hc=>G2 O O) O ?_)))))))))))))
   refine Do (E1 l) [] O .optt G (fun hc=>G2 O O) O (Do (E7 l.length) [50] O .optt ⟨Ua,G⟩ (fun hc=>Q6 (f:=I64) (xs:=l) G7 O O) O (Do (I64 o) [49,51] O .optt ⟨Ua,Ua,G⟩ (fun hc=>Y4 (G78 (H3 hc a1)) O O O) O (Do (I64 i) [52] O .optt ⟨Ua,G⟩ (fun hc=>Gr (args:=[I64 1,I64 o]) O (G0e 1 o i (H3 hc a2)) H34 ⟨O,O,O,O,G⟩) O (Do (BL (decide (c=i))) [48,53] O .optt ⟨Ua,Ua,G⟩ (fun hc=>Rq O O O) O (Do (BL (!(decide (c=i)))) [54] O .optt ⟨Ua,G⟩ (fun hc=>Yr (b:=decide (c=i)) O O) O (Dg (.opt (!((decide ((a:Int) < (l.length:Int)))&&(!(decide (c=d))))) (BL ((decide ((l.length:Int)≤(a:Int)))&&(!(decide (c=i)))))) (H8 [(44,BL (decide ((l.length:Int)≤(a:Int)))),(55,_)] O O O .scf ⟨.all id,.part,G⟩ (fun hc=>Y0 O O O O) O) O (Dq (BL (((decide ((a:Int) < (l.length:Int)))&&(!(decide (c=d))))||((decide ((l.length:Int)≤(a:Int)))&&(!(decide (c=i)))))) (Za O O O O) O (Dnil ?_))))))))
   refine z (JCc O h (fun h hb=>?_) (fun h hb=>?_))
   ·
    refine Jr fun a3=>(JLm (BL false) O (G6 (a3 (H0 (fin1 BL h)))))
   ·
    refine Gi (x (G1 (JLm (E7 a) O (JLh (I64 ((a+1:Nat):Int)) (Hv (Hh m v) O O O) O (JLm (I64 ((a+1:Nat):Int)) O (G6 (b5 _ _ (a+1) () (app1 w h) (by omega) ⟨(.sm O O),G,rfl⟩)))))))
  ·
   have h:=app1 p (Hq k (Ha hb))
   refine Hd (b2 (Jr fun a4=>(JLm (BL true) O (G6 (a4 (H0 (fin1 BL h)))))))

def Q7 (k:Int) (i:Int):Option (List Int):=
 bnd (Qq k i) fun a=>
 some [a]
theorem G1d (k:Int) (i:Int) (r:(List Int)) (h:Q7 k i=some r):Pure E8 87 [I64 k,I64 i] (·=E1 r):=by
 unfold Q7 at h
 refine Hc [.tmp 4] Try.func87 O O (Jr fun b=>(JLh (E1 ([]:List Int)) (Jj 1 O O) O (G6 (b (Jr fun c=>(JLm (I64 k) O (JLm (I64 i) O ?_)))))))
 obtain⟨a,d,h⟩:=Gc h
 refine JLh (I64 a) (Gr O (G0e k i a d) H34 ⟨O,O,O,O,G⟩) O (JLh (E1 [a]) (H9 (xs:=[I64 a]) O ⟨O,O,G⟩ G7 Jd O O O O) O (JLm (E1 [a]) O (G6 (c (H0 (fin1 (fun r:(List Int)=>(E1 r:AV)) h))))))

def Qp (out:Ln (Ln Int)) (l:List (List Int)):Option Bool:=
 bif decide ((out.1.length:Int)≠(l.length:Int)) then
 (some false)
 else
 (chk ((l.length:Int)+12) fun j=>
  bnd (Rj j (out.1++out.2).length) fun k=>
  each (fun c a (e:Unit) d=>
   bnd (bif decide ((a:Int) < (l.length:Int)) then Qu l (a:Int) some else some default) fun f=>
   bnd (bif decide ((a:Int) < (l.length:Int)) then Ji c f else some default) fun b=>
   bnd (bif ((!((decide ((a:Int) < (l.length:Int)))&&(!b)))&&(decide ((l.length:Int)≤(a:Int)))) then chk ((a:Int) - (l.length:Int)) some else some 0) fun g=>
   bnd (bif ((!((decide ((a:Int) < (l.length:Int)))&&(!b)))&&(decide ((l.length:Int)≤(a:Int)))) then Q7 1 g else some default) fun h=>
   bnd (bif ((!((decide ((a:Int) < (l.length:Int)))&&(!b)))&&(decide ((l.length:Int)≤(a:Int)))) then Jv c.1 h else some default) fun i=>
   bif (((decide ((a:Int) < (l.length:Int)))&&(!b))||((decide ((l.length:Int)≤(a:Int)))&&(!i))) then
   (some false)
   else
   (d ()))
  (fun(e:Unit)=>
   some true) ((out.1++out.2).take k) 0 ())
theorem G8f (out:Ln (Ln Int)) (l:List (List Int)) (r:Bool) (h:Qp out l=some r):Pure E8 68 [LT 1 (LT 1 I64) out,LS 1 (E1) l] (·=BL r):=by
 unfold Qp at h
 refine Hc [.tmp 4] Try.func68 O O (Jr fun a9=>(JLm (BL false) O (G6 (a9 (Js fun b0=>Jr fun b1=>(JLm (LT 1 (LT 1 I64) out) O (JLl Gd O O O fun c4=>(JLm (LS 1 (E1) l) O (JLl Gd O O O fun c0=>(JLh (BL (decide ((out.1.length:Int)≠(l.length:Int)))) (G06 O O O) O (G6 (b1 (JCc O h (fun h hb=>?_) (fun h hb=>?_))))))))))))))
 ·
  refine Jr fun b2=>(JLm (BL false) O (G6 (b2 (H0 (fin1 BL h)))))
 ·
  refine Gi (b0 (Jr fun b3=>(JLm (LT 1 (LT 1 I64) out) O (JLm (LS 1 (E1) l) O (JLl Gd O O O fun c1=>?_)))))
  obtain⟨v6,b4,h⟩:=J4 h
  refine JLh (I64 v6) (Hv b4 O O O) O ?_
  obtain⟨g,b5,h⟩:=Gc h
  refine JLh (LS 1 (LT 1 I64) ((out.1++out.2).take g)) (Q05 (f:=(LT 1 I64)) (e:=out) O O O Gd (Hb b5)) O (JLm (LS 1 (LT 1 I64) ((out.1++out.2).take g)) O (G6 (b3 (Js fun b6=>Jr fun b7=>(JLm (I64 0) O (G6 (b7 (Gf ?_))))))))
  obtain⟨b8,t,u,s,h⟩:=J0 h
  refine H7 (fun a (k:Unit)=>each b8 t (List.drop a ((out.1++out.2).take g)) a k=some r) (fun a k=>[(1,LS 1 (E1) l),(5,LS 1 (LT 1 I64) ((out.1++out.2).take g)),(6,E7 a)]) (fun a k=>[]) (fun a=>((out.1++out.2).take g).length - a) 0 () h ⟨(.sm O O),G,O⟩ ?_
  clear h
  intro a k n c5 b9
  refine Js fun v=>Jr fun w=>(JLm (E7 a) O (JLm (LS 1 (LT 1 I64) ((out.1++out.2).take g)) O (JLl Gd O O O fun x=>(JLh (BL (decide ((a:Int) < (((out.1++out.2).take g).length:Int)))) (Hu O O O) O (G6 (w (Gh O (fun hb=>?_) (fun hb=>?_))))))))
  ·
   have o:=Jn hb
   obtain⟨c,c3,p,z,h⟩:=Hp n o
   replace h:=Y1 u h
   refine Gi (v (Js fun a0=>Gf (Js fun a1=>?_)))
   obtain⟨j,a2,h⟩:=Gc h
   obtain⟨d,a3,h⟩:=Gc h
   obtain⟨q,a4,h⟩:=Gc h
   obtain⟨m,a5,h⟩:=Gc h
   obtain⟨i,a6,h⟩:=Gc h
   refine JC_d0 Jf (by kernel_rfl) (Dq (E7 a) (G2 O O) O (Dq (LS 1 (E1) l) (G2 O O) O (Dq (E7 l.length) (Q6 (f:=(E1)) (xs:=l) Gd O O) O (Dq (BL (decide ((a:Int) < (l.length:Int)))) (Hu O O O) O (Dq (BL (decide ((a:Int) < (l.length:Int)))) (G2 O O) O (Do (LS 1 (LT 1 I64) ((out.1++out.2).take g)) [] O .sct G (fun hc=>G2 O O) O (Do (E7 a) [] O .sct G (fun hc=>G2 O O) O (Do (.dptr [LT 1 I64 c]) [28,29] O .sct ⟨Ua,Ua,G⟩ (fun hc=>Gz (f:=(LT 1 I64)) (xs:=((out.1++out.2).take g)) (y:=c) O O O Gd p O) O (Do (LT 1 I64 c) [30] O .sct ⟨Ua,G⟩ (fun hc=>Gk H4 O O O) O (Do (LS 1 (E1) l) [] O .sct G (fun hc=>G2 O O) O (Do (E7 a) [] O .sct G (fun hc=>G2 O O) O (Do (.dptr [E1 j]) [32,33] O .sct ⟨Ua,Ua,G⟩ (fun hc=>(match G3f (H3 hc a2) with | ⟨_,hm_,hy_⟩=>Gz (f:=(E1)) (xs:=l) (y:=j) O O O Gd hy_ hm_)) O (Do (E1 j) [34] O .sct ⟨Ua,G⟩ (fun hc=>Gk H4 O O O) O ?_)))))))))))))
   refine Do (BL d) [31,35] O .sct ⟨Ua,Ua,G⟩ (fun hc=>Gr (args:=[LT 1 I64 c,E1 j]) O (Rh c j d (H3 hc a3)) Gd9 ⟨O,O,O,O,G⟩) O (Do (BL (!d)) [36] O .sct ⟨Ua,G⟩ (fun hc=>Yr (b:=d) O O) O (Dq (BL ((decide ((a:Int) < (l.length:Int)))&&(!d))) (Y0 O O O O) O (Dq (BL ((decide ((a:Int) < (l.length:Int)))&&(!d))) (G2 O O) O (Do (E7 a) [] O .scf G (fun hc=>G2 O O) O (Do (LS 1 (E1) l) [] O .scf G (fun hc=>G2 O O) O (Do (E7 l.length) [41] O .scf ⟨Ua,G⟩ (fun hc=>Q6 (f:=(E1)) (xs:=l) Gd O O) O (Do (BL (decide ((l.length:Int)≤(a:Int)))) [40,42] O .scf ⟨Ua,Ua,G⟩ (fun hc=>G45 O O O) O (Do (BL (decide ((l.length:Int)≤(a:Int)))) [43] O .scf ⟨Ua,G⟩ (fun hc=>G2 O O) O (Do (LS 1 (LT 1 I64) ((out.1++out.2).take g)) [] O .optt G (fun hc=>G2 O O) O (Do (E7 a) [] O .optt G (fun hc=>G2 O O) O (Do (.dptr [LT 1 I64 c]) [45,46] O .optt ⟨Ua,Ua,G⟩ (fun hc=>Gz (f:=(LT 1 I64)) (xs:=((out.1++out.2).take g)) (y:=c) O O O Gd p O) O (Do (E1 c.1) [47] O .optt ⟨Ua,G⟩ (fun hc=>Gj.cv (Cv.lst0 c) (Gk H4 O O O)) O (Do (E7 a) [] O .optt G (fun hc=>G2 O O) O ?_)))))))))))))
   refine Do (LS 1 (E1) l) [] O .optt G (fun hc=>G2 O O) O (Do (E7 l.length) [50] O .optt ⟨Ua,G⟩ (fun hc=>Q6 (f:=(E1)) (xs:=l) Gd O O) O (Do (I64 q) [49,51] O .optt ⟨Ua,Ua,G⟩ (fun hc=>Y4 (G78 (H3 hc a4)) O O O) O (Do (E1 m) [52] O .optt ⟨Ua,G⟩ (fun hc=>Gr (args:=[I64 1,I64 q]) O (G1d 1 q m (H3 hc a5)) Hc4 ⟨O,O,O,O,G⟩) O (Do (BL i) [48,53] O .optt ⟨Ua,Ua,G⟩ (fun hc=>Gr (args:=[E1 c.1,E1 m]) O (Yy c.1 m i (H3 hc a6)) H37 ⟨O,O,O,O,G⟩) O (Do (BL (!i)) [54] O .optt ⟨Ua,G⟩ (fun hc=>Yr (b:=i) O O) O (Dg (.opt (!((decide ((a:Int) < (l.length:Int)))&&(!d))) (BL ((decide ((l.length:Int)≤(a:Int)))&&(!i)))) (H8 [(44,BL (decide ((l.length:Int)≤(a:Int)))),(55,_)] O O O .scf ⟨.all id,.part,G⟩ (fun hc=>Y0 O O O O) O) O (Dq (BL (((decide ((a:Int) < (l.length:Int)))&&(!d))||((decide ((l.length:Int)≤(a:Int)))&&(!i)))) (Za O O O O) O (Dnil ?_))))))))
   refine a1 (JCc O h (fun h hb=>?_) (fun h hb=>?_))
   ·
    refine Jr fun a7=>(JLm (BL false) O (G6 (a7 (H0 (fin1 BL h)))))
   ·
    refine Gi (a0 (G1 (JLm (E7 a) O (JLh (I64 ((a+1:Nat):Int)) (Hv (Hh o x) O O O) O (JLm (I64 ((a+1:Nat):Int)) O (G6 (b9 _ _ (a+1) () (app1 z h) (by omega) ⟨(.sm O O),G,rfl⟩)))))))
  ·
   have h:=app1 s (Hq n (Ha hb))
   refine Hd (b6 (Jr fun a8=>(JLm (BL true) O (G6 (a8 (H0 (fin1 BL h)))))))

def Qa (own:Q1) (y:Gp):Option Bool:=
 bnd (bif decide (own.Height=y.Height) then Qp own.Stacks y.Stacks else some default) fun a=>
 some ((decide (own.Height=y.Height))&&a)
theorem Zo (own:Q1) (y:Gp) (r:Bool) (h:Qa own y=some r):Pure E8 34 [.agg [LT 1 (LT 1 I64) own.Stacks,I64 own.Height],.agg [LS 1 (E1) y.Stacks,I64 y.Height]] (·=BL r):=by
 unfold Qa at h
 refine Hc [.tmp 4] Try.func34 O O (Jr fun b=>(JLh (.ptr 1041 0) (Q3 (cs:=[LT 1 (LT 1 I64) own.Stacks,I64 own.Height]) 1041 O O O O O) O (JLh (.ptr 1042 0) (Q3 (cs:=[LS 1 (E1) y.Stacks,I64 y.Height]) 1042 O O O O O) O (JLm (BL false) O (G6 (b (H5 [(2,.dptr [LT 1 (LT 1 I64) own.Stacks,I64 own.Height]),(3,.ptr 1042 0)] [(1042,.box 24 [LS 1 (E1) y.Stacks,I64 y.Height])] 1041 rfl rfl rfl ⟨⟨_,rfl,.boxEq rfl rfl⟩,G⟩ rfl (by exact⟨.ptr,.conv (.same rfl),G⟩) (H5 [(2,.dptr [LT 1 (LT 1 I64) own.Stacks,I64 own.Height]),(3,.dptr [LS 1 (E1) y.Stacks,I64 y.Height])] [] 1042 rfl rfl rfl G rfl (by exact⟨.conv (.same rfl),.ptr,G⟩) ?_))))))))
 refine Jr fun c=>(JLh (.dptr [I64 own.Height]) (Gy Rs O O O) O (JLh (I64 own.Height) (Gk Gg O O O) O (JLh (.dptr [I64 y.Height]) (Gy Rs O O O) O (JLh (I64 y.Height) (Gk Gg O O O) O (JLh (BL (decide (own.Height=y.Height))) (Rq O O O) O (JLm (BL (decide (own.Height=y.Height))) O (JLo (.dptr [LT 1 (LT 1 I64) own.Stacks,I64 own.Height]) [] O .sct G (fun hc=>Gy Ht O O O) O (JLo (LT 1 (LT 1 I64) own.Stacks) [11] O .sct ⟨Ua,G⟩ (fun hc=>Gk Gn O O O) O (JLo (.dptr [LS 1 (E1) y.Stacks,I64 y.Height]) [] O .sct G (fun hc=>Gy Ht O O O) O (JLo (LS 1 (E1) y.Stacks) [13] O .sct ⟨Ua,G⟩ (fun hc=>Gk Gn O O O) O ?_))))))))))
 obtain⟨a,d,h⟩:=Gc h
 refine JLo (BL a) [12,14] O .sct ⟨Ua,Ua,G⟩ (fun hc=>Gr (args:=[LT 1 (LT 1 I64) own.Stacks,LS 1 (E1) y.Stacks]) O (G8f own.Stacks y.Stacks a (H3 hc d)) J9e ⟨O,O,O,O,G⟩) O (JLh (BL ((decide (own.Height=y.Height))&&a)) (Y0 O O O O) O (JLm (BL ((decide (own.Height=y.Height))&&a)) O (G6 (c (H0 (fin1 BL h))))))

def Ry (y:Gp):Option Bool:=
 each (fun b d (c:Unit) a=>
  bif decide (10 < (b.length:Int)) then
  (some false)
  else
  (a ()))
 (fun(c:Unit)=>
  some (decide ((y.Stacks.length:Int)≤32))) y.Stacks 0 ()
theorem Geb (y:Gp) (r:Bool) (h:Ry y=some r):Pure E8 10 [.agg [LS 1 (E1) y.Stacks,I64 y.Height]] (·=BL r):=by
 unfold Ry at h
 refine Hc [.tmp 2] Try.func10 O O (Jr fun t=>(JLh (.ptr 1002 0) (Q3 (cs:=[LS 1 (E1) y.Stacks,I64 y.Height]) 1002 O O O O O) O (JLm (BL false) O (G6 (t (H5 [(1,.dptr [LS 1 (E1) y.Stacks,I64 y.Height])] [] 1002 rfl rfl rfl G rfl (by exact⟨.ptr,G⟩) (Js fun u=>Jr fun v=>(JLm (I64 0) O (G6 (v (Gf ?_)))))))))))
 obtain⟨w,i,j,g,h⟩:=J0 h
 refine H7 (fun a (b:Unit)=>each w i (List.drop a y.Stacks) a b=some r) (fun a b=>[(1,.dptr [LS 1 (E1) y.Stacks,I64 y.Height]),(3,E7 a)]) (fun a b=>[]) (fun a=>y.Stacks.length - a) 0 () h ⟨(.sm O O),G,O⟩ ?_
 clear h
 intro a b d a3 x
 refine Js fun k=>Jr fun l=>(JLm (E7 a) O (JLh (.dptr [LS 1 (E1) y.Stacks,I64 y.Height]) (Gy Ht O O O) O (JLh (LS 1 (E1) y.Stacks) (Gk Gn O O O) O (JLl Gd O O O fun z=>(JLh (BL (decide ((a:Int) < (y.Stacks.length:Int)))) (Hu O O O) O (G6 (l (Gh O (fun hb=>?_) (fun hb=>?_)))))))))
 ·
  have e:=Jn hb
  obtain⟨c,a0,m,n,h⟩:=Hp d e
  replace h:=Y1 j h
  refine Gi (k (Js fun o=>Gf (Jr fun p=>(JLh (.dptr [LS 1 (E1) y.Stacks,I64 y.Height]) (Gy Ht O O O) O (JLh (LS 1 (E1) y.Stacks) (Gk Gn O O O) O (JLm (E7 a) O (JLh (.dptr [E1 c]) (Gz (f:=(E1)) (xs:=y.Stacks) (y:=c) O O O Gd m O) O (JLh (E1 c) (Gk H4 O O O) O (JLl G7 O O O fun a1=>(JLh (BL (decide (10 < (c.length:Int)))) (Rz O O O) O (G6 (p (JCc O h (fun h hb=>?_) (fun h hb=>?_))))))))))))))
  ·
   refine Jr fun q=>(JLm (BL false) O (G6 (q (H0 (fin1 BL h)))))
  ·
   refine Gi (o (G1 (JLm (E7 a) O (JLh (I64 ((a+1:Nat):Int)) (Hv (Hh e z) O O O) O (JLm (I64 ((a+1:Nat):Int)) O (G6 (x _ _ (a+1) () (app1 n h) (by omega) ⟨(.sm O O),G,rfl⟩)))))))
 ·
  have h:=app1 g (Hq d (Ha hb))
  refine Hd (u (Jr fun s=>(JLh (.dptr [LS 1 (E1) y.Stacks,I64 y.Height]) (Gy Ht O O O) O (JLh (LS 1 (E1) y.Stacks) (Gk Gn O O O) O (JLl Gd O O O fun a2=>(JLh (BL (decide ((y.Stacks.length:Int)≤32))) (J81 O O O) O (JLm (BL (decide ((y.Stacks.length:Int)≤32))) O (G6 (s (H0 (fin1 BL h)))))))))))

def Jh (l:List Int):Option (Ln Int):=
 chk ((l.length:Int)+12) fun g=>
 bnd (Ha3 g) fun e=>
 need (decide (8*e≤281474976710656∧e≤maxLen)) <|
 need (decide ((([]:List Int).length+l.length)*8≤140737488355328∧([]:List Int).length+l.length≤maxLen)) <|
 need (decide (12≤9223372036854775807)) <|
 upto (fun f (a:(List Int)) d=>
  bnd (Qq 1 (f:Int)) fun b=>
  need (decide ((a.length+[b].length)*8≤140737488355328∧a.length+[b].length≤maxLen)) <|
  d (a++[b]))
 (fun(a:(List Int))=>
  bnd (Rj (l.length:Int) a.length) fun c=>
  some (a.take c,a.drop c)) (12:Int).toNat 0 (([]:List Int)++l)
theorem Rg (l:List Int) (r:(Ln Int)) (h:Jh l=some r):Pure E8 32 [E1 l] (·=LT 1 I64 r):=by
 unfold Jh at h
 refine Hc [.tmp 2] Try.func32 O O (Jr fun w=>(JLh (E1 ([]:List Int)) (Jj 1 O O) O (G6 (w (Jr fun x=>(JLm (E1 l) O (JLl G7 O O O fun b0=>?_)))))))
 obtain⟨v3,y,h⟩:=J4 h
 refine JLh (I64 v3) (Hv y O O O) O ?_
 obtain⟨m4,z,h⟩:=Gc h
 obtain⟨a0,h⟩:=Hz h
 refine JLh (OW 1038 1 I64 ([]:List Int)) (J2e 1038 O O O O G7 Qx O (J1e z) a0) O (JLm (OW 1038 1 I64 ([]:List Int)) O (G6 (x (Jr fun a1=>(JLm (OW 1038 1 I64 ([]:List Int)) O (JLm (E1 l) O ?_))))))
 obtain⟨a2,h⟩:=Hz h
 refine JLh (OW 1038 1 I64 (([]:List Int)++l)) (G22 (f:=I64) (xs:=([]:List Int)) (ys:=l) O O O O G7 Qx a2 (fun _=>O) (.inl O)) O (JLm (OW 1038 1 I64 (([]:List Int)++l)) O (G6 (a1 (Js fun a3=>Jr fun a4=>(JLm (I64 0) O (G6 (a4 (Gf ?_))))))))
 obtain⟨j,h⟩:=Hz h
 obtain⟨a5,k,m,i,h⟩:=Gae h
 refine H7 (fun b (a:(List Int))=>upto a5 k ((12:Int).toNat - b) b a=some r) (fun b a=>[(0,E1 l),(3,OW 1038 1 I64 a),(4,E7 b)]) (fun b a=>[(1038,.spare 3 1 a.length a.length)]) (fun b=>(12:Int).toNat - b) 0 (([]:List Int)++l) h ⟨(.sm O O),⟨⟨_,O,.same⟩,G⟩,O⟩ ?_
 clear h
 intro b a e b1 a6
 refine Js fun n=>Jr fun o=>(JLm (E7 b) O (JLh (BL (decide ((b:Int) < 12))) (Hu O O O) O (G6 (o (Gh O (fun hb=>?_) (fun hb=>?_))))))
 ·
  have g:=G76 hb
  obtain⟨a8,p,h⟩:=G70 e g
  replace h:=J75 m h
  refine Gi (n (Js fun q=>Gf (G1 (JLm (OW 1038 1 I64 a) O (JLm (E7 b) O ?_)))))
  obtain⟨c,s,h⟩:=Gc h
  refine JLh (I64 c) (Gr O (G0e 1 (b:Int) c s) H34 ⟨O,O,O,O,G⟩) O (JLh (E1 [c]) (H9 (xs:=[I64 c]) O ⟨O,O,G⟩ G7 Jd O O O O) O ?_)
  obtain⟨t,h⟩:=Hz h
  refine JLh (OW 1038 1 I64 (a++[c])) (Rb (f:=I64) (xs:=a) (ys:=[c]) O O O O G7 Qx t (fun _=>O) (.inl O) O) O (JLm (OW 1038 1 I64 (a++[c])) O (G6 (q (G1 (JLm (E7 b) O (JLh (I64 ((b+1:Nat):Int)) (Hv (Hh g (G39 j)) O O O) O (JLm (I64 ((b+1:Nat):Int)) O (G6 (a6 _ _ (b+1) (a++[c]) (app1 p h) (by omega) ⟨(.sm O O),⟨⟨_,rfl,.same⟩,G⟩,rfl⟩)))))))))
 ·
  have h:=app1 i (G71 e (Z4 hb))
  refine Hd (a3 (Jr fun u=>(JLm (OW 1038 1 I64 a) O (JLm (E1 l) O (JLl G7 O O O fun a9=>?_)))))
  obtain⟨d,v,h⟩:=Gc h
  refine JLh (LT 1 I64 (a.take d,a.drop d)) (Qc5 (f:=I64) (xs:=a) O O O G7 (Hb v)) O (JLm (LT 1 I64 (a.take d,a.drop d)) O (G6 (u (H0 (fin1 (fun r:(Ln Int)=>(LT 1 I64 r:AV)) h)))))

def Qo (l:List (List Int)):Option (Ln (Ln Int)):=
 chk ((l.length:Int)+12) fun k=>
 bnd (Ha3 k) fun h=>
 need (decide (24*h≤281474976710656∧h≤maxLen)) <|
 each (fun i m (b:(List (Ln Int))) f=>
  bnd (Jh i) fun c=>
  need (decide ((b.length+[c].length)*24≤140737488355328∧b.length+[c].length≤maxLen)) <|
  f (b++[c]))
 (fun(b:(List (Ln Int)))=>
  need (decide (12≤9223372036854775807)) <|
  upto (fun j (a:(List (Ln Int))) g=>
   bnd (Q7 1 (j:Int)) fun d=>
   need (decide ((a.length+[(d,([]:List Int))].length)*24≤140737488355328∧a.length+[(d,([]:List Int))].length≤maxLen)) <|
   g (a++[(d,([]:List Int))]))
  (fun(a:(List (Ln Int)))=>
   bnd (Rj (l.length:Int) a.length) fun e=>
   some (a.take e,a.drop e)) (12:Int).toNat 0 b) l 0 []
theorem G8e (l:List (List Int)) (r:(Ln (Ln Int))) (h:Qo l=some r):Pure E8 63 [LS 1 (E1) l] (·=LT 1 (LT 1 I64) r):=by
 unfold Qo at h
 refine Hc [.tmp 2] Try.func63 O O (Jr fun b7=>(JLh (LS 1 (E1) ([]:List (List Int))) (Jj 1 O O) O (G6 (b7 (Jr fun b8=>(JLm (LS 1 (E1) l) O (JLl Gd O O O fun d2=>?_)))))))
 obtain⟨v3,b9,h⟩:=J4 h
 refine JLh (I64 v3) (Hv b9 O O O) O ?_
 obtain⟨m4,c0,h⟩:=Gc h
 obtain⟨c1,h⟩:=Hz h
 refine JLh (OW 1063 1 (LT 1 I64) ([]:List (Ln Int))) (J2e 1063 O O O O Gd G34 O (J1e c0) c1) O (JLm (OW 1063 1 (LT 1 I64) ([]:List (Ln Int))) O (G6 (b8 (Js fun c2=>Jr fun c3=>(JLm (I64 0) O (G6 (c3 (Gf ?_))))))))
 obtain⟨c4,s,t,p,h⟩:=J0 h
 refine H7 (fun c (d:(List (Ln Int)))=>each c4 s (List.drop c l) c d=some r) (fun c d=>[(0,LS 1 (E1) l),(3,OW 1063 1 (LT 1 I64) d),(4,E7 c)]) (fun c d=>[(1063,.spare 25 1 d.length d.length)]) (fun c=>l.length - c) 0 [] h ⟨(.sm O O),⟨⟨_,O,.same⟩,G⟩,O⟩ ?_
 clear h
 intro c d k d3 c5
 refine Js fun u=>Jr fun v=>(JLm (E7 c) O (JLm (LS 1 (E1) l) O (JLl Gd O O O fun w=>(JLh (BL (decide ((c:Int) < (l.length:Int)))) (Hu O O O) O (G6 (v (Gh O (fun hb=>?_) (fun hb=>?_))))))))
 ·
  have m:=Jn hb
  obtain⟨i,c9,x,z,h⟩:=Hp k m
  replace h:=Y1 t h
  refine Gi (u (Js fun a0=>Gf (Jr fun a1=>(JLm (LS 1 (E1) l) O (JLm (E7 c) O (JLh (.dptr [E1 i]) (Gz (f:=(E1)) (xs:=l) (y:=i) O O O Gd x O) O (JLh (E1 i) (Gk H4 O O O) O ?_)))))))
  obtain⟨e,a2,h⟩:=Gc h
  refine JLh (LT 1 I64 e) (Gr O (Rg i e a2) Gda ⟨O,O,G⟩) O (JLm (LT 1 I64 e) O (G6 (a1 (G1 (JLm (OW 1063 1 (LT 1 I64) d) O (JLm (LT 1 I64 e) O (JLh (LS 1 (LT 1 I64) [e]) (H9 (xs:=[LT 1 I64 e]) O ⟨O,O,G⟩ Gd Yo O O O O) O ?_)))))))
  obtain⟨a3,h⟩:=Hz h
  refine JLh (OW 1063 1 (LT 1 I64) (d++[e])) (Rb (f:=(LT 1 I64)) (xs:=d) (ys:=[e]) O O O O Gd G34 a3 (fun _=>O) (.inl O) O) O (JLm (OW 1063 1 (LT 1 I64) (d++[e])) O (G6 (a0 (G1 (JLm (E7 c) O (JLh (I64 ((c+1:Nat):Int)) (Hv (Hh m w) O O O) O (JLm (I64 ((c+1:Nat):Int)) O (G6 (c5 _ _ (c+1) (d++[e]) (app1 z h) (by omega) ⟨(.sm O O),⟨⟨_,rfl,.same⟩,G⟩,rfl⟩)))))))))
 ·
  have h:=app1 p (Hq k (Ha hb))
  refine Hd (c2 (Js fun a4=>Jr fun a5=>(JLm (I64 0) O (G6 (a5 (Gf ?_))))))
  obtain⟨a6,h⟩:=Hz h
  obtain⟨c6,a7,a8,q,h⟩:=Gae h
  refine H7 (fun b (a:(List (Ln Int)))=>upto c6 a7 ((12:Int).toNat - b) b a=some r) (fun b a=>[(0,LS 1 (E1) l),(3,OW 1063 1 (LT 1 I64) a),(6,E7 b)]) (fun b a=>[(1063,.spare 25 1 a.length a.length)]) (fun b=>(12:Int).toNat - b) 0 d h ⟨(.sm O O),⟨⟨_,O,.same⟩,G⟩,O⟩ ?_
  clear h
  intro b a n d4 c7
  refine Js fun a9=>Jr fun b0=>(JLm (E7 b) O (JLh (BL (decide ((b:Int) < 12))) (Hu O O O) O (G6 (b0 (Gh O (fun hb=>?_) (fun hb=>?_))))))
  ·
   have o:=G76 hb
   obtain⟨d0,b1,h⟩:=G70 n o
   replace h:=J75 a8 h
   refine Gi (a9 (Js fun b2=>Gf (G1 (JLm (OW 1063 1 (LT 1 I64) a) O (JLm (E7 b) O ?_)))))
   obtain⟨g,b3,h⟩:=Gc h
   refine JLh (LT 1 I64 (g,([]:List Int))) (Gj.cv (Cv.of0 g) (Gr O (G1d 1 (b:Int) g b3) Hc4 ⟨O,O,O,O,G⟩)) O (JLh (LS 1 (LT 1 I64) ([(g,([]:List Int))])) (H9 (xs:=[LT 1 I64 (g,([]:List Int))]) O ⟨O,O,G⟩ Gd Yo O O O O) O ?_)
   obtain⟨b4,h⟩:=Hz h
   refine JLh (OW 1063 1 (LT 1 I64) (a++[(g,([]:List Int))])) (Rb (f:=(LT 1 I64)) (xs:=a) (ys:=[(g,([]:List Int))]) O O O O Gd G34 b4 (fun _=>O) (.inl O) O) O (JLm (OW 1063 1 (LT 1 I64) (a++[(g,([]:List Int))])) O (G6 (b2 (G1 (JLm (E7 b) O (JLh (I64 ((b+1:Nat):Int)) (Hv (Hh o (G39 a6)) O O O) O (JLm (I64 ((b+1:Nat):Int)) O (G6 (c7 _ _ (b+1) (a++[(g,([]:List Int))]) (app1 b1 h) (by omega) ⟨(.sm O O),⟨⟨_,rfl,.same⟩,G⟩,rfl⟩)))))))))
  ·
   have h:=app1 q (G71 n (Z4 hb))
   refine Hd (a4 (Jr fun b5=>(JLm (OW 1063 1 (LT 1 I64) a) O (JLm (LS 1 (E1) l) O (JLl Gd O O O fun d1=>?_)))))
   obtain⟨j,b6,h⟩:=Gc h
   refine JLh (LT 1 (LT 1 I64) (a.take j,a.drop j)) (Qc5 (f:=(LT 1 I64)) (xs:=a) O O O Gd (Hb b6)) O (JLm (LT 1 (LT 1 I64) (a.take j,a.drop j)) O (G6 (b5 (H0 (fin1 (fun r:(Ln (Ln Int))=>(LT 1 (LT 1 I64) r:AV)) h)))))

def Qe (y:Gp):Option Q1:=
 bnd (Qo y.Stacks) fun a=>
 some (Q1.mk a y.Height)
theorem G02 (y:Gp) (r:Q1) (h:Qe y=some r):Pure E8 31 [.agg [LS 1 (E1) y.Stacks,I64 y.Height]] (·=.agg [LT 1 (LT 1 I64) r.Stacks,I64 r.Height]):=by
 unfold Qe at h
 refine Hc [.cell 2 24] Try.func31 O O (Jr fun b=>(JLh (.ptr 1036 0) (Q3 (cs:=[LS 1 (E1) y.Stacks,I64 y.Height]) 1036 O O O O O) O (JLh (.ptr 1037 0) (Ga6 1037 [LS 1 (E1) ([]:List (List Int)),I64 0] [.slice none 0 0,E0] G94 ⟨.inr ⟨_,O,O⟩,.inl O,G⟩ O O) O (G6 (b (Jr fun c=>(JLh (.ptr 1036 0) (Hs Ht O O) O (JLh (LS 1 (E1) y.Stacks) (Hr Gn O O O O) O ?_))))))))
 obtain⟨a,d,h⟩:=Gc h
 refine JLh (LT 1 (LT 1 I64) a) (Gr O (G8e y.Stacks a d) Ja0 ⟨O,O,G⟩) O (JLh (.ptr 1036 0) (Hs Ht O O) O (J7 (u:=.junk) (Ho (u:=LT 1 (LT 1 I64) a) (ds:=[LT 1 (LT 1 I64) a,I64 y.Height]) G95 O O O O O O O O) (G6 (c (H5 [(1,.dptr [LT 1 (LT 1 I64) a,I64 y.Height]),(2,.ptr 1037 0)] [(1037,.box 24 [LS 1 (E1) ([]:List (List Int)),I64 0])] 1036 rfl rfl rfl ⟨⟨_,rfl,.boxEq rfl rfl⟩,G⟩ rfl (by exact⟨.ptr,.conv (.same rfl),G⟩) (Jr fun e=>(JLh (.agg [LT 1 (LT 1 I64) a,I64 y.Height]) (Gv Hn O O O) O (J7 (u:=.junk) (Ho (u:=.agg [LT 1 (LT 1 I64) a,I64 y.Height]) (ds:=[LT 1 (LT 1 I64) a,I64 y.Height]) Zu O O O O O O O O) (G6 (e (H0 ?_)))))))))))
 exact⟨[.agg [LT 1 (LT 1 I64) a,I64 y.Height]],[],G,O,⟨⟨_,⟨_,_,_,_,O,O,O,.inl ⟨Hn,O⟩⟩,.conv (.same O)⟩,G⟩,O,congrArg (fun r:Q1=>(.agg [LT 1 (LT 1 I64) r.Stacks,I64 r.Height]:AV)) (Ez h)⟩

def Qz (F:Nat) (y:Gp) (order:List Int) (l:List G5):Option Bool:=
 bnd (Qe y) fun g=>
 bnd (Jh order) fun i=>
 need (decide ((([]:List G5).length+l.length)*16≤140737488355328∧([]:List G5).length+l.length≤maxLen)) <|
 bnd (Y8 (Gp.mk (g.Stacks.1.map Prod.fst) g.Height) i.1 (([]:List G5)++l)) fun c=>
 each (fun b k (d:(List G9)) h=>
  need (decide ((d.length+[(G9.mk b.From b.To)].length)*16≤140737488355328∧d.length+[(G9.mk b.From b.To)].length≤maxLen)) <|
  h (d++[(G9.mk b.From b.To)]))
 (fun(d:(List G9))=>
  bnd (R6 F (Gq.mk y.Stacks y.Height) order d) fun a=>
  bnd (bif ((c.1==a.1)&&(decide (c.2=a.2))) then Jm (([]:List G5)++l) l else some default) fun e=>
  bnd (bif (((c.1==a.1)&&(decide (c.2=a.2)))&&e) then Qa g y else some default) fun f=>
  bnd (bif ((((c.1==a.1)&&(decide (c.2=a.2)))&&e)&&f) then Ji i order else some default) fun j=>
  some (((((c.1==a.1)&&(decide (c.2=a.2)))&&e)&&f)&&j)) l 0 []
theorem Gab (F:Nat) (y:Gp) (order:List Int) (l:List G5) (r:Bool) (h:Qz F y order l=some r):Pure E8 11 [.agg [LS 1 (E1) y.Stacks,I64 y.Height],E1 order,E2 l] (·=BL r):=by
 unfold Qz at h
 refine Hc [.tmp 6] Try.func11 O O (Jr fun b1=>(JLh (.ptr 1003 0) (Q3 (cs:=[LS 1 (E1) y.Stacks,I64 y.Height]) 1003 O O O O O) O (JLm (BL false) O (G6 (b1 (H5 [(1,E1 order),(2,E2 l),(3,.dptr [LS 1 (E1) y.Stacks,I64 y.Height])] [] 1003 rfl rfl rfl G rfl (by exact⟨.conv (.same rfl),.conv (.same rfl),.ptr,G⟩) (Jr fun b2=>(JLh (.agg [LS 1 (E1) y.Stacks,I64 y.Height]) (Gv Hn O O O) O ?_))))))))
 obtain⟨d,b3,h⟩:=Gc h
 refine JLh (.agg [LT 1 (LT 1 I64) d.Stacks,I64 d.Height]) (Gr O (G02 y d b3) H39 ⟨O,O,G⟩) O (JLm (E1 order) O ?_)
 obtain⟨k,b4,h⟩:=Gc h
 refine JLh (LT 1 I64 k) (Gr O (Rg order k b4) Gda ⟨O,O,G⟩) O (JLh (OW 1006 2 G5.av ([]:List G5)) (Gcf 1006 39 2 O O J8) O (JLm (E2 l) O ?_))
 obtain⟨b5,h⟩:=Hz h
 refine JLh (OW 1006 2 G5.av (([]:List G5)++l)) (G22 (f:=G5.av) (xs:=([]:List G5)) (ys:=l) O O O O J8 Gd5 b5 (fun _=>O) (.inl O)) O (JLh (.ptr 1004 0) (Jg 1004 2 G14 O O) O (J7 (u:=.junk) (Ho (u:=.agg [LT 1 (LT 1 I64) d.Stacks,I64 d.Height]) (ds:=[LT 1 (LT 1 I64) d.Stacks,I64 d.Height]) Zu O O O O O O O O) (JLm (LT 1 I64 k) O (JLm (OW 1006 2 G5.av (([]:List G5)++l)) O (G6 (b2 ?_))))))
 refine fzQ [(1,E1 order),(2,E2 l),(3,.dptr [LS 1 (E1) y.Stacks,I64 y.Height]),(7,.dptr [LT 1 (LT 1 I64) d.Stacks,I64 d.Height]),(8,LT 1 I64 k),(9,OW 1006 2 G5.av (([]:List G5)++l))] [(1006,.spare 39 2 (([]:List G5)++l).length (([]:List G5)++l).length)] 1004 rfl rfl rfl ⟨⟨_,rfl,.same⟩,G⟩ rfl (Jr fun b6=>(JLh (.agg [LS 1 (E1) (d.Stacks.1.map Prod.fst),I64 d.Height]) (Gj.cv (Cv.aggL (cs:=[LT 1 (LT 1 I64) d.Stacks,I64 d.Height]) ⟨Cv.lstM (f:=(LT 1 I64)) (g:=(E1)) Prod.fst (fun x=>⟨Cv.lst0 x,G⟩) d.Stacks,.same,G⟩) (Gv Hn O O O)) O (JLh (E1 k.1) (Gj.cv (Cv.lst0 k) (G2 O O)) O (JLm (OW 1006 2 G5.av (([]:List G5)++l)) O ?_))))
 obtain⟨b,b7,h⟩:=Gc h
 refine JLh (.tup [BL b.1,I64 b.2]) (Gr O (Gb5 (Gp.mk (d.Stacks.1.map Prod.fst) d.Height) k.1 (([]:List G5)++l) b b7) Hcf ⟨O,O,O,O,O,O,G⟩) O (JLm (.tup [BL b.1,I64 b.2]) O (JLh (BL b.1) (Gs O O O) O (JLh (I64 b.2) (Gs O O O) O (JLm (BL b.1) O (JLm (I64 b.2) O (G6 (b6 (Jr fun b8=>(JLh (OW 1005 2 G9.av ([]:List G9)) (Gd0 1005 64 2 O O O) O (G6 (b8 (Js fun b9=>Jr fun s=>(JLm (I64 0) O (G6 (s (Gf ?_))))))))))))))))
 obtain⟨c0,t,v,q,h⟩:=J0 h
 refine H7 (fun e (i:(List G9))=>each c0 t (List.drop e l) e i=some r) (fun e i=>[(1,E1 order),(2,E2 l),(3,.dptr [LS 1 (E1) y.Stacks,I64 y.Height]),(7,.dptr [LT 1 (LT 1 I64) d.Stacks,I64 d.Height]),(8,LT 1 I64 k),(9,OW 1006 2 G5.av (([]:List G5)++l)),(10,BL b.1),(11,I64 b.2),(12,OW 1005 2 G9.av i),(13,E7 e)]) (fun e i=>[(1006,.spare 39 2 (([]:List G5)++l).length (([]:List G5)++l).length),(1005,.spare 64 2 i.length i.length)]) (fun e=>l.length - e) 0 [] h ⟨(.sm O O),⟨⟨_,rfl,.same⟩,⟨_,rfl,.same⟩,G⟩,rfl⟩ ?_
 clear h
 intro e i o c3 c1
 refine Js fun w=>Jr fun z=>(JLm (E7 e) O (JLm (E2 l) O (JLl J8 O O O fun a0=>(JLh (BL (decide ((e:Int) < (l.length:Int)))) (Hu O O O) O (G6 (z (Gh O (fun hb=>?_) (fun hb=>?_))))))))
 ·
  have p:=Jn hb
  obtain⟨c,c2,a1,a2,h⟩:=Hp o p
  replace h:=Y1 v h
  refine Gi (w (Js fun a3=>Gf (G1 (JLm (OW 1005 2 G9.av i) O (JLm (E2 l) O (JLm (E7 e) O (JLh (.dptr [I64 c.From,I64 c.To]) (Gz (f:=G5.av) (xs:=l) (y:=c) O O O J8 a1 O) O (JLh (.agg [I64 c.From,I64 c.To]) (Gv G3d O O O) O (JLh (E4 [(G9.mk c.From c.To)]) (H9 (xs:=[.agg [I64 c.From,I64 c.To]]) O ⟨O,O,G⟩ Rc G73 O O O O) O ?_)))))))))
  obtain⟨a4,h⟩:=Hz h
  refine JLh (OW 1005 2 G9.av (i++[(G9.mk c.From c.To)])) (Rb (f:=G9.av) (xs:=i) (ys:=[(G9.mk c.From c.To)]) O O O O Rc H31 a4 (fun _=>O) (.inl O) O) O (JLm (OW 1005 2 G9.av (i++[(G9.mk c.From c.To)])) O (G6 (a3 (G1 (JLm (E7 e) O (JLh (I64 ((e+1:Nat):Int)) (Hv (Hh p a0) O O O) O (JLm (I64 ((e+1:Nat):Int)) O (G6 (c1 _ _ (e+1) (i++[(G9.mk c.From c.To)]) (app1 a2 h) (by omega) ⟨(.sm O O),⟨⟨_,rfl,.same⟩,⟨_,rfl,.same⟩,G⟩,rfl⟩)))))))))
 ·
  have h:=app1 q (Hq o (Ha hb))
  refine Hd (b9 (Jr fun a5=>(JLh (.agg [LS 1 (E1) y.Stacks,I64 y.Height]) (Gv Hn O O O) O (JLm (E1 order) O (JLm (OW 1005 2 G9.av i) O ?_)))))
  obtain⟨a,a6,h⟩:=Gc h
  refine JLh (.tup [BL a.1,I64 a.2]) (Gr O (Gc3 F (Gq.mk y.Stacks y.Height) order i a a6) Jad ⟨O,O,O,O,O,O,G⟩) O (JLm (.tup [BL a.1,I64 a.2]) O (JLh (BL a.1) (Gs O O O) O (JLh (I64 a.2) (Gs O O O) O (JLm (BL a.1) O (JLm (I64 a.2) O (G6 (a5 ?_)))))))
  refine Jr fun a7=>(JLm (BL b.1) O (JLm (BL a.1) O (JLh (BL (b.1==a.1)) (J83 J17 O O O) O (JLm (BL (b.1==a.1)) O (JLo (I64 b.2) [] O .sct G (fun hc=>G2 O O) O (JLo (I64 a.2) [] O .sct G (fun hc=>G2 O O) O (JLo (BL (decide (b.2=a.2))) [54,55] O .sct ⟨Ua,Ua,G⟩ (fun hc=>Rq O O O) O (JLh (BL ((b.1==a.1)&&(decide (b.2=a.2)))) (Y0 O O O O) O (JLm (BL ((b.1==a.1)&&(decide (b.2=a.2)))) O (JLo (OW 1006 2 G5.av (([]:List G5)++l)) [] O .sct G (fun hc=>G2 O O) O (JLo (E2 l) [] O .sct G (fun hc=>G2 O O) O ?_)))))))))))
  obtain⟨j,a8,h⟩:=Gc h
  refine JLo (BL j) [59,60] O .sct ⟨Ua,Ua,G⟩ (fun hc=>Gr (args:=[E2 (([]:List G5)++l),E2 l]) O (Qc (([]:List G5)++l) l j (H3 hc a8)) G60 ⟨O,O,O,O,G⟩) O (JLh (BL (((b.1==a.1)&&(decide (b.2=a.2)))&&j)) (Y0 O O O O) O (JLm (BL (((b.1==a.1)&&(decide (b.2=a.2)))&&j)) O (JLo (.agg [LT 1 (LT 1 I64) d.Stacks,I64 d.Height]) [] O .sct G (fun hc=>Gv Hn O O O) O (JLo (.agg [LS 1 (E1) y.Stacks,I64 y.Height]) [] O .sct G (fun hc=>Gv Hn O O O) O ?_))))
  obtain⟨m,a9,h⟩:=Gc h
  refine JLo (BL m) [64,65] O .sct ⟨Ua,Ua,G⟩ (fun hc=>Gr (args:=[.agg [LT 1 (LT 1 I64) d.Stacks,I64 d.Height],.agg [LS 1 (E1) y.Stacks,I64 y.Height]]) O (Zo d y m (H3 hc a9)) H38 ⟨O,O,O,O,G⟩) O (JLh (BL ((((b.1==a.1)&&(decide (b.2=a.2)))&&j)&&m)) (Y0 O O O O) O (JLm (BL ((((b.1==a.1)&&(decide (b.2=a.2)))&&j)&&m)) O (JLo (LT 1 I64 k) [] O .sct G (fun hc=>G2 O O) O (JLo (E1 order) [] O .sct G (fun hc=>G2 O O) O ?_))))
  obtain⟨n,b0,h⟩:=Gc h
  refine JLo (BL n) [69,70] O .sct ⟨Ua,Ua,G⟩ (fun hc=>Gr (args:=[LT 1 I64 k,E1 order]) O (Rh k order n (H3 hc b0)) Gd9 ⟨O,O,O,O,G⟩) O (JLh (BL (((((b.1==a.1)&&(decide (b.2=a.2)))&&j)&&m)&&n)) (Y0 O O O O) O (JLm (BL (((((b.1==a.1)&&(decide (b.2=a.2)))&&j)&&m)&&n)) O (G6 (a7 (H0 (fin1 BL h))))))

end
end Go.Proofs.Ytokjlondbjdlfaa
