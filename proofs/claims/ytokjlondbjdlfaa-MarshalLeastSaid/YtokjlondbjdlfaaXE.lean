/- Walks of functions. -/
import Derived.Test.YtokjlondbjdlfaaXEa
set_option maxRecDepth 100000
set_option maxHeartbeats 1000000
set_option linter.unusedVariables false
set_option linter.unusedSimpArgs false
namespace Go.Proofs.Ytokjlondbjdlfaa
open Go.RowKit
noncomputable section
open XAF
open XBF
open XCF
open XDF
open XEF

def R2 (k:Int) (i:Int):Option Int:=
 chk (k+7) fun a=>
 chk (1000003*a) fun b=>
 chk (b+i) fun c=>
 some c
theorem G1d (k:Int) (i:Int) (r:Int) (h:R2 k i=some r):Pure E8 64 [I64 k,I64 i] (·=I64 r):=by
 unfold R2 at h
 refine Hb [.tmp 4] Try.func64 O O (Jr fun a=>(JLm (I64 0) O (G6 (a (Jr fun b=>(JLm (I64 k) O ?_))))))
 obtain⟨g,c,h⟩:=J6 h
 refine JLh (I64 g) (Hy c O O O) O ?_
 obtain⟨j,d,h⟩:=J6 h
 refine JLh (I64 j) (Qba d O O O) O (JLm (I64 i) O ?_)
 obtain⟨e,f,h⟩:=J6 h
 refine JLh (I64 e) (Hy f O O O) O (JLm (I64 e) O (G6 (b (H0 (fin1 I64 h)))))

def Jj (out:Ln Int) (l:List Int):Option Bool:=
 bif decide ((out.1.length:Int)≠(l.length:Int)) then
 (some false)
 else
 (chk ((l.length:Int)+12) fun h=>
  bnd (Rn h (out.1++out.2).length) fun i=>
  each (fun b a (e:Unit) d=>
   bnd (bif decide ((a:Int) < (l.length:Int)) then Qn l (a:Int) some else some default) fun c=>
   bnd (bif ((!((decide ((a:Int) < (l.length:Int)))&&(!(decide (b=c)))))&&(decide ((l.length:Int)≤(a:Int)))) then chk ((a:Int) - (l.length:Int)) some else some 0) fun f=>
   bnd (bif ((!((decide ((a:Int) < (l.length:Int)))&&(!(decide (b=c)))))&&(decide ((l.length:Int)≤(a:Int)))) then R2 1 f else some default) fun g=>
   bif (((decide ((a:Int) < (l.length:Int)))&&(!(decide (b=c))))||((decide ((l.length:Int)≤(a:Int)))&&(!(decide (b=g))))) then
   (some false)
   else
   (d ()))
  (fun(e:Unit)=>
   some true) ((out.1++out.2).take i) 0 ())
theorem Y1 (out:Ln Int) (l:List Int) (r:Bool) (h:Jj out l=some r):Pure E8 35 [LT 1 I64 out,E1 l] (·=BL r):=by
 unfold Jj at h
 refine Hb [.tmp 4] Try.func35 O O (Jr fun a5=>(JLm (BL false) O (G6 (a5 (Js fun a6=>Jr fun a7=>(JLm (LT 1 I64 out) O (JLl G7 O O O fun c0=>(JLm (E1 l) O (JLl G7 O O O fun b6=>(JLh (BL (decide ((out.1.length:Int)≠(l.length:Int)))) (G16 O O O) O (G6 (a7 (JCc O h (fun h hb=>?_) (fun h hb=>?_))))))))))))))
 ·
  refine Jr fun a8=>(JLm (BL false) O (G6 (a8 (H0 (fin1 BL h)))))
 ·
  refine Gj (a6 (Jr fun a9=>(JLm (LT 1 I64 out) O (JLm (E1 l) O (JLl G7 O O O fun b7=>?_)))))
  obtain⟨v6,b0,h⟩:=J6 h
  refine JLh (I64 v6) (Hy b0 O O O) O ?_
  obtain⟨g,b1,h⟩:=Gc h
  refine JLh (E1 ((out.1++out.2).take g)) (Q40 (f:=I64) (e:=out) O O O G7 (Hc b1)) O (JLm (E1 ((out.1++out.2).take g)) O (G6 (a9 (Js fun b2=>Jr fun b3=>(JLm (I64 0) O (G6 (b3 (Gg ?_))))))))
  obtain⟨b4,q,s,p,h⟩:=J4 h
  refine H7 (fun a (j:Unit)=>each b4 q (List.drop a ((out.1++out.2).take g)) a j=some r) (fun a j=>[(1,E1 l),(5,E1 ((out.1++out.2).take g)),(6,E7 a)]) (fun a j=>[]) (fun a=>((out.1++out.2).take g).length - a) 0 () h ⟨(.sm O O),ø,O⟩ ?_
  clear h
  intro a j k c1 b5
  refine Js fun t=>Jr fun u=>(JLm (E7 a) O (JLm (E1 ((out.1++out.2).take g)) O (JLl G7 O O O fun v=>(JLh (BL (decide ((a:Int) < (((out.1++out.2).take g).length:Int)))) (Hx O O O) O (G6 (u (Gi O (fun hb=>?_) (fun hb=>?_))))))))
  ·
   have m:=Jo hb
   obtain⟨c,b9,n,w,h⟩:=Hq k m
   replace h:=Yn s h
   refine Gj (t (Js fun x=>Gg (Js fun z=>?_)))
   obtain⟨d,a0,h⟩:=Gc h
   obtain⟨o,a1,h⟩:=Gc h
   obtain⟨i,a2,h⟩:=Gc h
   refine JC_d0 Jg (by kernel_rfl) (Dq (E7 a) (G2 O O) O (Dq (E1 l) (G2 O O) O (Dq (E7 l.length) (Q7 (f:=I64) (xs:=l) G7 O O) O (Dq (BL (decide ((a:Int) < (l.length:Int)))) (Hx O O O) O (Dq (BL (decide ((a:Int) < (l.length:Int)))) (G2 O O) O (Do (E1 ((out.1++out.2).take g)) [] O .sct ø (fun hc=>G2 O O) O (Do (E7 a) [] O .sct ø (fun hc=>G2 O O) O (Do (.dptr [I64 c]) [28,29] O .sct ⟨Ua,Ua,ø⟩ (fun hc=>Gz (f:=I64) (xs:=((out.1++out.2).take g)) (y:=c) O O O G7 n O) O (Do (I64 c) [30] O .sct ⟨Ua,ø⟩ (fun hc=>Gm Gh O O O) O (Do (E1 l) [] O .sct ø (fun hc=>G2 O O) O (Do (E7 a) [] O .sct ø (fun hc=>G2 O O) O (Do (.dptr [I64 d]) [32,33] O .sct ⟨Ua,Ua,ø⟩ (fun hc=>(match G51 (H1 hc a0) with | ⟨_,hm_,hy_⟩=>Gz (f:=I64) (xs:=l) (y:=d) O O O G7 hy_ hm_)) O (Do (I64 d) [34] O .sct ⟨Ua,ø⟩ (fun hc=>Gm Gh O O O) O ?_)))))))))))))
   refine Do (BL (decide (c=d))) [31,35] O .sct ⟨Ua,Ua,ø⟩ (fun hc=>Ya O O O) O (Do (BL (!(decide (c=d)))) [36] O .sct ⟨Ua,ø⟩ (fun hc=>Ym (b:=decide (c=d)) O O) O (Dq (BL ((decide ((a:Int) < (l.length:Int)))&&(!(decide (c=d))))) (Y6 O O O O) O (Dq (BL ((decide ((a:Int) < (l.length:Int)))&&(!(decide (c=d))))) (G2 O O) O (Do (E7 a) [] O .scf ø (fun hc=>G2 O O) O (Do (E1 l) [] O .scf ø (fun hc=>G2 O O) O (Do (E7 l.length) [41] O .scf ⟨Ua,ø⟩ (fun hc=>Q7 (f:=I64) (xs:=l) G7 O O) O (Do (BL (decide ((l.length:Int)≤(a:Int)))) [40,42] O .scf ⟨Ua,Ua,ø⟩ (fun hc=>G56 O O O) O (Do (BL (decide ((l.length:Int)≤(a:Int)))) [43] O .scf ⟨Ua,ø⟩ (fun hc=>G2 O O) O (Do (E1 ((out.1++out.2).take g)) [] O .optt ø (fun hc=>G2 O O) O (Do (E7 a) [] O .optt ø (fun hc=>G2 O O) O (Do (.dptr [I64 c]) [45,46] O .optt ⟨Ua,Ua,ø⟩ (fun hc=>Gz (f:=I64) (xs:=((out.1++out.2).take g)) (y:=c) O O O G7 n O) O (Do (I64 c) [47] O .optt ⟨Ua,ø⟩ (fun hc=>Gm Gh O O O) O (Do (E7 a) [] O .optt ø (fun hc=>G2 O O) O ?_)))))))))))))
   refine Do (E1 l) [] O .optt ø (fun hc=>G2 O O) O (Do (E7 l.length) [50] O .optt ⟨Ua,ø⟩ (fun hc=>Q7 (f:=I64) (xs:=l) G7 O O) O (Do (I64 o) [49,51] O .optt ⟨Ua,Ua,ø⟩ (fun hc=>Yq (G89 (H1 hc a1)) O O O) O (Do (I64 i) [52] O .optt ⟨Ua,ø⟩ (fun hc=>Gt (args:=[I64 1,I64 o]) O (G1d 1 o i (H1 hc a2)) H4e ⟨O,O,O,O,ø⟩) O (Do (BL (decide (c=i))) [48,53] O .optt ⟨Ua,Ua,ø⟩ (fun hc=>Ya O O O) O (Do (BL (!(decide (c=i)))) [54] O .optt ⟨Ua,ø⟩ (fun hc=>Ym (b:=decide (c=i)) O O) O (Dg (.opt (!((decide ((a:Int) < (l.length:Int)))&&(!(decide (c=d))))) (BL ((decide ((l.length:Int)≤(a:Int)))&&(!(decide (c=i)))))) (H8 [(44,BL (decide ((l.length:Int)≤(a:Int)))),(55,_)] O O O .scf ⟨.all id,.part,ø⟩ (fun hc=>Y6 O O O O) O) O (Dq (BL (((decide ((a:Int) < (l.length:Int)))&&(!(decide (c=d))))||((decide ((l.length:Int)≤(a:Int)))&&(!(decide (c=i)))))) (Z6 O O O O) O (Dnil ?_))))))))
   refine z (JCc O h (fun h hb=>?_) (fun h hb=>?_))
   ·
    refine Jr fun a3=>(JLm (BL false) O (G6 (a3 (H0 (fin1 BL h)))))
   ·
    refine Gj (x (G1 (JLm (E7 a) O (JLh (I64 ((a+1:Nat):Int)) (Hy (Hk m v) O O O) O (JLm (I64 ((a+1:Nat):Int)) O (G6 (b5 _ _ (a+1) () (app1 w h) (by omega) ⟨(.sm O O),ø,rfl⟩)))))))
  ·
   have h:=app1 p (Hr k (Ha hb))
   refine Hd (b2 (Jr fun a4=>(JLm (BL true) O (G6 (a4 (H0 (fin1 BL h)))))))

def Qg (k:Int) (i:Int):Option (List Int):=
 bnd (R2 k i) fun a=>
 some [a]
theorem G2e (k:Int) (i:Int) (r:(List Int)) (h:Qg k i=some r):Pure E8 87 [I64 k,I64 i] (·=E1 r):=by
 unfold Qg at h
 refine Hb [.tmp 4] Try.func87 O O (Jr fun b=>(JLh (E1 ([]:List Int)) (Jk 1 O O) O (G6 (b (Jr fun c=>(JLm (I64 k) O (JLm (I64 i) O ?_)))))))
 obtain⟨a,d,h⟩:=Gc h
 refine JLh (I64 a) (Gt O (G1d k i a d) H4e ⟨O,O,O,O,ø⟩) O (JLh (E1 [a]) (H9 (xs:=[I64 a]) O ⟨O,O,ø⟩ G7 Je O O O O) O (JLm (E1 [a]) O (G6 (c (H0 (fin1 (fun r:(List Int)=>(E1 r:AV)) h))))))

def R1 (out:Ln (Ln Int)) (l:List (List Int)):Option Bool:=
 bif decide ((out.1.length:Int)≠(l.length:Int)) then
 (some false)
 else
 (chk ((l.length:Int)+12) fun j=>
  bnd (Rn j (out.1++out.2).length) fun k=>
  each (fun c a (e:Unit) d=>
   bnd (bif decide ((a:Int) < (l.length:Int)) then Qn l (a:Int) some else some default) fun f=>
   bnd (bif decide ((a:Int) < (l.length:Int)) then Jj c f else some default) fun b=>
   bnd (bif ((!((decide ((a:Int) < (l.length:Int)))&&(!b)))&&(decide ((l.length:Int)≤(a:Int)))) then chk ((a:Int) - (l.length:Int)) some else some 0) fun g=>
   bnd (bif ((!((decide ((a:Int) < (l.length:Int)))&&(!b)))&&(decide ((l.length:Int)≤(a:Int)))) then Qg 1 g else some default) fun h=>
   bnd (bif ((!((decide ((a:Int) < (l.length:Int)))&&(!b)))&&(decide ((l.length:Int)≤(a:Int)))) then Jw c.1 h else some default) fun i=>
   bif (((decide ((a:Int) < (l.length:Int)))&&(!b))||((decide ((l.length:Int)≤(a:Int)))&&(!i))) then
   (some false)
   else
   (d ()))
  (fun(e:Unit)=>
   some true) ((out.1++out.2).take k) 0 ())
theorem Ga0 (out:Ln (Ln Int)) (l:List (List Int)) (r:Bool) (h:R1 out l=some r):Pure E8 68 [LT 1 (LT 1 I64) out,LS 1 (E1) l] (·=BL r):=by
 unfold R1 at h
 refine Hb [.tmp 4] Try.func68 O O (Jr fun a9=>(JLm (BL false) O (G6 (a9 (Js fun b0=>Jr fun b1=>(JLm (LT 1 (LT 1 I64) out) O (JLl Gf O O O fun c4=>(JLm (LS 1 (E1) l) O (JLl Gf O O O fun c0=>(JLh (BL (decide ((out.1.length:Int)≠(l.length:Int)))) (G16 O O O) O (G6 (b1 (JCc O h (fun h hb=>?_) (fun h hb=>?_))))))))))))))
 ·
  refine Jr fun b2=>(JLm (BL false) O (G6 (b2 (H0 (fin1 BL h)))))
 ·
  refine Gj (b0 (Jr fun b3=>(JLm (LT 1 (LT 1 I64) out) O (JLm (LS 1 (E1) l) O (JLl Gf O O O fun c1=>?_)))))
  obtain⟨v6,b4,h⟩:=J6 h
  refine JLh (I64 v6) (Hy b4 O O O) O ?_
  obtain⟨g,b5,h⟩:=Gc h
  refine JLh (LS 1 (LT 1 I64) ((out.1++out.2).take g)) (Q40 (f:=(LT 1 I64)) (e:=out) O O O Gf (Hc b5)) O (JLm (LS 1 (LT 1 I64) ((out.1++out.2).take g)) O (G6 (b3 (Js fun b6=>Jr fun b7=>(JLm (I64 0) O (G6 (b7 (Gg ?_))))))))
  obtain⟨b8,t,u,s,h⟩:=J4 h
  refine H7 (fun a (k:Unit)=>each b8 t (List.drop a ((out.1++out.2).take g)) a k=some r) (fun a k=>[(1,LS 1 (E1) l),(5,LS 1 (LT 1 I64) ((out.1++out.2).take g)),(6,E7 a)]) (fun a k=>[]) (fun a=>((out.1++out.2).take g).length - a) 0 () h ⟨(.sm O O),ø,O⟩ ?_
  clear h
  intro a k n c5 b9
  refine Js fun v=>Jr fun w=>(JLm (E7 a) O (JLm (LS 1 (LT 1 I64) ((out.1++out.2).take g)) O (JLl Gf O O O fun x=>(JLh (BL (decide ((a:Int) < (((out.1++out.2).take g).length:Int)))) (Hx O O O) O (G6 (w (Gi O (fun hb=>?_) (fun hb=>?_))))))))
  ·
   have o:=Jo hb
   obtain⟨c,c3,p,z,h⟩:=Hq n o
   replace h:=Yn u h
   refine Gj (v (Js fun a0=>Gg (Js fun a1=>?_)))
   obtain⟨j,a2,h⟩:=Gc h
   obtain⟨d,a3,h⟩:=Gc h
   obtain⟨q,a4,h⟩:=Gc h
   obtain⟨m,a5,h⟩:=Gc h
   obtain⟨i,a6,h⟩:=Gc h
   refine JC_d0 Jg (by kernel_rfl) (Dq (E7 a) (G2 O O) O (Dq (LS 1 (E1) l) (G2 O O) O (Dq (E7 l.length) (Q7 (f:=(E1)) (xs:=l) Gf O O) O (Dq (BL (decide ((a:Int) < (l.length:Int)))) (Hx O O O) O (Dq (BL (decide ((a:Int) < (l.length:Int)))) (G2 O O) O (Do (LS 1 (LT 1 I64) ((out.1++out.2).take g)) [] O .sct ø (fun hc=>G2 O O) O (Do (E7 a) [] O .sct ø (fun hc=>G2 O O) O (Do (.dptr [LT 1 I64 c]) [28,29] O .sct ⟨Ua,Ua,ø⟩ (fun hc=>Gz (f:=(LT 1 I64)) (xs:=((out.1++out.2).take g)) (y:=c) O O O Gf p O) O (Do (LT 1 I64 c) [30] O .sct ⟨Ua,ø⟩ (fun hc=>Gm H4 O O O) O (Do (LS 1 (E1) l) [] O .sct ø (fun hc=>G2 O O) O (Do (E7 a) [] O .sct ø (fun hc=>G2 O O) O (Do (.dptr [E1 j]) [32,33] O .sct ⟨Ua,Ua,ø⟩ (fun hc=>(match G51 (H1 hc a2) with | ⟨_,hm_,hy_⟩=>Gz (f:=(E1)) (xs:=l) (y:=j) O O O Gf hy_ hm_)) O (Do (E1 j) [34] O .sct ⟨Ua,ø⟩ (fun hc=>Gm H4 O O O) O ?_)))))))))))))
   refine Do (BL d) [31,35] O .sct ⟨Ua,Ua,ø⟩ (fun hc=>Gt (args:=[LT 1 I64 c,E1 j]) O (Y1 c j d (H1 hc a3)) Ged ⟨O,O,O,O,ø⟩) O (Do (BL (!d)) [36] O .sct ⟨Ua,ø⟩ (fun hc=>Ym (b:=d) O O) O (Dq (BL ((decide ((a:Int) < (l.length:Int)))&&(!d))) (Y6 O O O O) O (Dq (BL ((decide ((a:Int) < (l.length:Int)))&&(!d))) (G2 O O) O (Do (E7 a) [] O .scf ø (fun hc=>G2 O O) O (Do (LS 1 (E1) l) [] O .scf ø (fun hc=>G2 O O) O (Do (E7 l.length) [41] O .scf ⟨Ua,ø⟩ (fun hc=>Q7 (f:=(E1)) (xs:=l) Gf O O) O (Do (BL (decide ((l.length:Int)≤(a:Int)))) [40,42] O .scf ⟨Ua,Ua,ø⟩ (fun hc=>G56 O O O) O (Do (BL (decide ((l.length:Int)≤(a:Int)))) [43] O .scf ⟨Ua,ø⟩ (fun hc=>G2 O O) O (Do (LS 1 (LT 1 I64) ((out.1++out.2).take g)) [] O .optt ø (fun hc=>G2 O O) O (Do (E7 a) [] O .optt ø (fun hc=>G2 O O) O (Do (.dptr [LT 1 I64 c]) [45,46] O .optt ⟨Ua,Ua,ø⟩ (fun hc=>Gz (f:=(LT 1 I64)) (xs:=((out.1++out.2).take g)) (y:=c) O O O Gf p O) O (Do (E1 c.1) [47] O .optt ⟨Ua,ø⟩ (fun hc=>Gk.cv (Cv.lst0 c) (Gm H4 O O O)) O (Do (E7 a) [] O .optt ø (fun hc=>G2 O O) O ?_)))))))))))))
   refine Do (LS 1 (E1) l) [] O .optt ø (fun hc=>G2 O O) O (Do (E7 l.length) [50] O .optt ⟨Ua,ø⟩ (fun hc=>Q7 (f:=(E1)) (xs:=l) Gf O O) O (Do (I64 q) [49,51] O .optt ⟨Ua,Ua,ø⟩ (fun hc=>Yq (G89 (H1 hc a4)) O O O) O (Do (E1 m) [52] O .optt ⟨Ua,ø⟩ (fun hc=>Gt (args:=[I64 1,I64 q]) O (G2e 1 q m (H1 hc a5)) He1 ⟨O,O,O,O,ø⟩) O (Do (BL i) [48,53] O .optt ⟨Ua,Ua,ø⟩ (fun hc=>Gt (args:=[E1 c.1,E1 m]) O (Zg c.1 m i (H1 hc a6)) H51 ⟨O,O,O,O,ø⟩) O (Do (BL (!i)) [54] O .optt ⟨Ua,ø⟩ (fun hc=>Ym (b:=i) O O) O (Dg (.opt (!((decide ((a:Int) < (l.length:Int)))&&(!d))) (BL ((decide ((l.length:Int)≤(a:Int)))&&(!i)))) (H8 [(44,BL (decide ((l.length:Int)≤(a:Int)))),(55,_)] O O O .scf ⟨.all id,.part,ø⟩ (fun hc=>Y6 O O O O) O) O (Dq (BL (((decide ((a:Int) < (l.length:Int)))&&(!d))||((decide ((l.length:Int)≤(a:Int)))&&(!i)))) (Z6 O O O O) O (Dnil ?_))))))))
   refine a1 (JCc O h (fun h hb=>?_) (fun h hb=>?_))
   ·
    refine Jr fun a7=>(JLm (BL false) O (G6 (a7 (H0 (fin1 BL h)))))
   ·
    refine Gj (a0 (G1 (JLm (E7 a) O (JLh (I64 ((a+1:Nat):Int)) (Hy (Hk o x) O O O) O (JLm (I64 ((a+1:Nat):Int)) O (G6 (b9 _ _ (a+1) () (app1 z h) (by omega) ⟨(.sm O O),ø,rfl⟩)))))))
  ·
   have h:=app1 s (Hr n (Ha hb))
   refine Hd (b6 (Jr fun a8=>(JLm (BL true) O (G6 (a8 (H0 (fin1 BL h)))))))

def Qj (own:Q4) (y:Gp):Option Bool:=
 bnd (bif decide (own.Height=y.Height) then R1 own.Stacks y.Stacks else some default) fun a=>
 some ((decide (own.Height=y.Height))&&a)
theorem G06 (own:Q4) (y:Gp) (r:Bool) (h:Qj own y=some r):Pure E8 34 [.agg [LT 1 (LT 1 I64) own.Stacks,I64 own.Height],.agg [LS 1 (E1) y.Stacks,I64 y.Height]] (·=BL r):=by
 unfold Qj at h
 refine Hb [.tmp 4] Try.func34 O O (Jr fun b=>(JLh (.ptr 1043 0) (Q5 (cs:=[LT 1 (LT 1 I64) own.Stacks,I64 own.Height]) 1043 O O O O O) O (JLh (.ptr 1044 0) (Q5 (cs:=[LS 1 (E1) y.Stacks,I64 y.Height]) 1044 O O O O O) O (JLm (BL false) O (G6 (b (H5 [(2,.dptr [LT 1 (LT 1 I64) own.Stacks,I64 own.Height]),(3,.ptr 1044 0)] [(1044,.box 24 [LS 1 (E1) y.Stacks,I64 y.Height])] 1043 rfl rfl rfl ⟨⟨_,rfl,.boxEq rfl rfl⟩,ø⟩ rfl (by exact⟨.ptr,.conv (.same rfl),ø⟩) (H5 [(2,.dptr [LT 1 (LT 1 I64) own.Stacks,I64 own.Height]),(3,.dptr [LS 1 (E1) y.Stacks,I64 y.Height])] [] 1044 rfl rfl rfl ø rfl (by exact⟨.conv (.same rfl),.ptr,ø⟩) ?_))))))))
 refine Jr fun c=>(JLh (.dptr [I64 own.Height]) (Gy Yc O O O) O (JLh (I64 own.Height) (Gm Gh O O O) O (JLh (.dptr [I64 y.Height]) (Gy Yc O O O) O (JLh (I64 y.Height) (Gm Gh O O O) O (JLh (BL (decide (own.Height=y.Height))) (Ya O O O) O (JLm (BL (decide (own.Height=y.Height))) O (JLo (.dptr [LT 1 (LT 1 I64) own.Stacks,I64 own.Height]) [] O .sct ø (fun hc=>Gy Hv O O O) O (JLo (LT 1 (LT 1 I64) own.Stacks) [11] O .sct ⟨Ua,ø⟩ (fun hc=>Gm Gr O O O) O (JLo (.dptr [LS 1 (E1) y.Stacks,I64 y.Height]) [] O .sct ø (fun hc=>Gy Hv O O O) O (JLo (LS 1 (E1) y.Stacks) [13] O .sct ⟨Ua,ø⟩ (fun hc=>Gm Gr O O O) O ?_))))))))))
 obtain⟨a,d,h⟩:=Gc h
 refine JLo (BL a) [12,14] O .sct ⟨Ua,Ua,ø⟩ (fun hc=>Gt (args:=[LT 1 (LT 1 I64) own.Stacks,LS 1 (E1) y.Stacks]) O (Ga0 own.Stacks y.Stacks a (H1 hc d)) Jce ⟨O,O,O,O,ø⟩) O (JLh (BL ((decide (own.Height=y.Height))&&a)) (Y6 O O O O) O (JLm (BL ((decide (own.Height=y.Height))&&a)) O (G6 (c (H0 (fin1 BL h))))))

def Qs (y:Gp):Option Bool:=
 each (fun b d (c:Unit) a=>
  bif decide (10 < (b.length:Int)) then
  (some false)
  else
  (a ()))
 (fun(c:Unit)=>
  some (decide ((y.Stacks.length:Int)≤32))) y.Stacks 0 ()
theorem G13 (y:Gp) (r:Bool) (h:Qs y=some r):Pure E8 10 [.agg [LS 1 (E1) y.Stacks,I64 y.Height]] (·=BL r):=by
 unfold Qs at h
 refine Hb [.tmp 2] Try.func10 O O (Jr fun t=>(JLh (.ptr 1004 0) (Q5 (cs:=[LS 1 (E1) y.Stacks,I64 y.Height]) 1004 O O O O O) O (JLm (BL false) O (G6 (t (H5 [(1,.dptr [LS 1 (E1) y.Stacks,I64 y.Height])] [] 1004 rfl rfl rfl ø rfl (by exact⟨.ptr,ø⟩) (Js fun u=>Jr fun v=>(JLm (I64 0) O (G6 (v (Gg ?_)))))))))))
 obtain⟨w,i,j,g,h⟩:=J4 h
 refine H7 (fun a (b:Unit)=>each w i (List.drop a y.Stacks) a b=some r) (fun a b=>[(1,.dptr [LS 1 (E1) y.Stacks,I64 y.Height]),(3,E7 a)]) (fun a b=>[]) (fun a=>y.Stacks.length - a) 0 () h ⟨(.sm O O),ø,O⟩ ?_
 clear h
 intro a b d a3 x
 refine Js fun k=>Jr fun l=>(JLm (E7 a) O (JLh (.dptr [LS 1 (E1) y.Stacks,I64 y.Height]) (Gy Hv O O O) O (JLh (LS 1 (E1) y.Stacks) (Gm Gr O O O) O (JLl Gf O O O fun z=>(JLh (BL (decide ((a:Int) < (y.Stacks.length:Int)))) (Hx O O O) O (G6 (l (Gi O (fun hb=>?_) (fun hb=>?_)))))))))
 ·
  have e:=Jo hb
  obtain⟨c,a0,m,n,h⟩:=Hq d e
  replace h:=Yn j h
  refine Gj (k (Js fun o=>Gg (Jr fun p=>(JLh (.dptr [LS 1 (E1) y.Stacks,I64 y.Height]) (Gy Hv O O O) O (JLh (LS 1 (E1) y.Stacks) (Gm Gr O O O) O (JLm (E7 a) O (JLh (.dptr [E1 c]) (Gz (f:=(E1)) (xs:=y.Stacks) (y:=c) O O O Gf m O) O (JLh (E1 c) (Gm H4 O O O) O (JLl G7 O O O fun a1=>(JLh (BL (decide (10 < (c.length:Int)))) (Y5 O O O) O (G6 (p (JCc O h (fun h hb=>?_) (fun h hb=>?_))))))))))))))
  ·
   refine Jr fun q=>(JLm (BL false) O (G6 (q (H0 (fin1 BL h)))))
  ·
   refine Gj (o (G1 (JLm (E7 a) O (JLh (I64 ((a+1:Nat):Int)) (Hy (Hk e z) O O O) O (JLm (I64 ((a+1:Nat):Int)) O (G6 (x _ _ (a+1) () (app1 n h) (by omega) ⟨(.sm O O),ø,rfl⟩)))))))
 ·
  have h:=app1 g (Hr d (Ha hb))
  refine Hd (u (Jr fun s=>(JLh (.dptr [LS 1 (E1) y.Stacks,I64 y.Height]) (Gy Hv O O O) O (JLh (LS 1 (E1) y.Stacks) (Gm Gr O O O) O (JLl Gf O O O fun a2=>(JLh (BL (decide ((y.Stacks.length:Int)≤32))) (Jb1 O O O) O (JLm (BL (decide ((y.Stacks.length:Int)≤32))) O (G6 (s (H0 (fin1 BL h)))))))))))

def Rq (y:Gp):Option Bool:=
 each (fun c e (a:Int) b=>
  chk (a+(c.length:Int)) fun d=>
  b d)
 (fun(a:Int)=>
  some ((((decide (a≤4))||(decide ((y.Stacks.length:Int)≤3)))||(decide (5 < a)))||(decide (4 < (y.Stacks.length:Int))))) y.Stacks 0 0
theorem Gd9 (y:Gp) (r:Bool) (h:Rq y=some r):Pure E8 13 [.agg [LS 1 (E1) y.Stacks,I64 y.Height]] (·=BL r):=by
 unfold Rq at h
 refine Hb [.tmp 2] Try.func13 O O (Jr fun t=>(JLh (.ptr 1012 0) (Q5 (cs:=[LS 1 (E1) y.Stacks,I64 y.Height]) 1012 O O O O O) O (JLm (BL false) O (G6 (t (H5 [(1,.dptr [LS 1 (E1) y.Stacks,I64 y.Height])] [] 1012 rfl rfl rfl ø rfl (by exact⟨.ptr,ø⟩) (Jr fun u=>(JLm (I64 0) O (G6 (u (Js fun v=>Jr fun w=>(JLm (I64 0) O (G6 (w (Gg ?_)))))))))))))))
 obtain⟨x,j,k,i,h⟩:=J4 h
 refine H7 (fun b (a:Int)=>each x j (List.drop b y.Stacks) b a=some r) (fun b a=>[(1,.dptr [LS 1 (E1) y.Stacks,I64 y.Height]),(3,I64 a),(4,E7 b)]) (fun b a=>[]) (fun b=>y.Stacks.length - b) 0 0 h ⟨(.sm O O),ø,O⟩ ?_
 clear h
 intro b a c a3 z
 refine Js fun l=>Jr fun m=>(JLm (E7 b) O (JLh (.dptr [LS 1 (E1) y.Stacks,I64 y.Height]) (Gy Hv O O O) O (JLh (LS 1 (E1) y.Stacks) (Gm Gr O O O) O (JLl Gf O O O fun a0=>(JLh (BL (decide ((b:Int) < (y.Stacks.length:Int)))) (Hx O O O) O (G6 (m (Gi O (fun hb=>?_) (fun hb=>?_)))))))))
 ·
  have d:=Jo hb
  obtain⟨e,a1,n,o,h⟩:=Hq c d
  replace h:=Yn k h
  refine Gj (l (Js fun p=>Gg (G1 (JLm (I64 a) O (JLh (.dptr [LS 1 (E1) y.Stacks,I64 y.Height]) (Gy Hv O O O) O (JLh (LS 1 (E1) y.Stacks) (Gm Gr O O O) O (JLm (E7 b) O (JLh (.dptr [E1 e]) (Gz (f:=(E1)) (xs:=y.Stacks) (y:=e) O O O Gf n O) O (JLh (E1 e) (Gm H4 O O O) O (JLl G7 O O O fun a2=>?_))))))))))
  obtain⟨g,q,h⟩:=J6 h
  refine JLh (I64 g) (Hy q O O O) O (JLm (I64 g) O (G6 (p (G1 (JLm (E7 b) O (JLh (I64 ((b+1:Nat):Int)) (Hy (Hk d a0) O O O) O (JLm (I64 ((b+1:Nat):Int)) O (G6 (z _ _ (b+1) g (app1 o h) (by omega) ⟨(.sm O O),ø,rfl⟩)))))))))
 ·
  have h:=app1 i (Hr c (Ha hb))
  refine Hd (v ?_)
  refine Jr fun s=>(JLm (I64 a) O (JLh (BL (decide (a≤4))) (Jb1 O O O) O (JLm (BL (decide (a≤4))) O (JLo (.dptr [LS 1 (E1) y.Stacks,I64 y.Height]) [] O .scf ø (fun hc=>Gy Hv O O O) O (JLo (LS 1 (E1) y.Stacks) [23] O .scf ⟨Ua,ø⟩ (fun hc=>Gm Gr O O O) O (JLo (E7 y.Stacks.length) [24] O .scf ⟨Ua,ø⟩ (fun hc=>Q7 (f:=(E1)) (xs:=y.Stacks) Gf O O) O (JLo (BL (decide ((y.Stacks.length:Int)≤3))) [25] O .scf ⟨Ua,ø⟩ (fun hc=>Jb1 O O O) O (JLh (BL ((decide (a≤4))||(decide ((y.Stacks.length:Int)≤3)))) (Z6 O O O O) O (JLm (BL ((decide (a≤4))||(decide ((y.Stacks.length:Int)≤3)))) O (JLo (I64 a) [] O .scf ø (fun hc=>G2 O O) O (JLo (BL (decide (5 < a))) [29] O .scf ⟨Ua,ø⟩ (fun hc=>Y5 O O O) O (JLh (BL (((decide (a≤4))||(decide ((y.Stacks.length:Int)≤3)))||(decide (5 < a)))) (Z6 O O O O) O (JLm (BL (((decide (a≤4))||(decide ((y.Stacks.length:Int)≤3)))||(decide (5 < a)))) O ?_)))))))))))))
  refine JLo (.dptr [LS 1 (E1) y.Stacks,I64 y.Height]) [] O .scf ø (fun hc=>Gy Hv O O O) O (JLo (LS 1 (E1) y.Stacks) [33] O .scf ⟨Ua,ø⟩ (fun hc=>Gm Gr O O O) O (JLo (E7 y.Stacks.length) [34] O .scf ⟨Ua,ø⟩ (fun hc=>Q7 (f:=(E1)) (xs:=y.Stacks) Gf O O) O (JLo (BL (decide (4 < (y.Stacks.length:Int)))) [35] O .scf ⟨Ua,ø⟩ (fun hc=>Y5 O O O) O (JLh (BL ((((decide (a≤4))||(decide ((y.Stacks.length:Int)≤3)))||(decide (5 < a)))||(decide (4 < (y.Stacks.length:Int))))) (Z6 O O O O) O (JLm (BL ((((decide (a≤4))||(decide ((y.Stacks.length:Int)≤3)))||(decide (5 < a)))||(decide (4 < (y.Stacks.length:Int))))) O (G6 (s (H0 (fin1 BL h)))))))))

def Ji (l:List Int):Option (Ln Int):=
 chk ((l.length:Int)+12) fun g=>
 bnd (Hc4 g) fun e=>
 need (decide (8*e≤281474976710656∧e≤maxLen)) <|
 need (decide ((([]:List Int).length+l.length)*8≤140737488355328∧([]:List Int).length+l.length≤maxLen)) <|
 need (decide (12≤9223372036854775807)) <|
 upto (fun f (a:(List Int)) d=>
  bnd (R2 1 (f:Int)) fun b=>
  need (decide ((a.length+[b].length)*8≤140737488355328∧a.length+[b].length≤maxLen)) <|
  d (a++[b]))
 (fun(a:(List Int))=>
  bnd (Rn (l.length:Int) a.length) fun c=>
  some (a.take c,a.drop c)) (12:Int).toNat 0 (([]:List Int)++l)
theorem Y0 (l:List Int) (r:(Ln Int)) (h:Ji l=some r):Pure E8 32 [E1 l] (·=LT 1 I64 r):=by
 unfold Ji at h
 refine Hb [.tmp 2] Try.func32 O O (Jr fun w=>(JLh (E1 ([]:List Int)) (Jk 1 O O) O (G6 (w (Jr fun x=>(JLm (E1 l) O (JLl G7 O O O fun b0=>?_)))))))
 obtain⟨v3,y,h⟩:=J6 h
 refine JLh (I64 v3) (Hy y O O O) O ?_
 obtain⟨m4,z,h⟩:=Gc h
 obtain⟨a0,h⟩:=J3 h
 refine JLh (OW 1040 1 I64 ([]:List Int)) (J55 1040 O O O O G7 Ra O (J40 z) a0) O (JLm (OW 1040 1 I64 ([]:List Int)) O (G6 (x (Jr fun a1=>(JLm (OW 1040 1 I64 ([]:List Int)) O (JLm (E1 l) O ?_))))))
 obtain⟨a2,h⟩:=J3 h
 refine JLh (OW 1040 1 I64 (([]:List Int)++l)) (G33 (f:=I64) (xs:=([]:List Int)) (ys:=l) O O O O G7 Ra a2 (fun _=>O) (.inl O)) O (JLm (OW 1040 1 I64 (([]:List Int)++l)) O (G6 (a1 (Js fun a3=>Jr fun a4=>(JLm (I64 0) O (G6 (a4 (Gg ?_))))))))
 obtain⟨j,h⟩:=J3 h
 obtain⟨a5,k,m,i,h⟩:=Gc0 h
 refine H7 (fun b (a:(List Int))=>upto a5 k ((12:Int).toNat - b) b a=some r) (fun b a=>[(0,E1 l),(3,OW 1040 1 I64 a),(4,E7 b)]) (fun b a=>[(1040,.spare 3 1 a.length a.length)]) (fun b=>(12:Int).toNat - b) 0 (([]:List Int)++l) h ⟨(.sm O O),⟨⟨_,O,.same⟩,ø⟩,O⟩ ?_
 clear h
 intro b a e b1 a6
 refine Js fun n=>Jr fun o=>(JLm (E7 b) O (JLh (BL (decide ((b:Int) < 12))) (Hx O O O) O (G6 (o (Gi O (fun hb=>?_) (fun hb=>?_))))))
 ·
  have g:=G87 hb
  obtain⟨a8,p,h⟩:=G81 e g
  replace h:=Ja2 m h
  refine Gj (n (Js fun q=>Gg (G1 (JLm (OW 1040 1 I64 a) O (JLm (E7 b) O ?_)))))
  obtain⟨c,s,h⟩:=Gc h
  refine JLh (I64 c) (Gt O (G1d 1 (b:Int) c s) H4e ⟨O,O,O,O,ø⟩) O (JLh (E1 [c]) (H9 (xs:=[I64 c]) O ⟨O,O,ø⟩ G7 Je O O O O) O ?_)
  obtain⟨t,h⟩:=J3 h
  refine JLh (OW 1040 1 I64 (a++[c])) (Rw (f:=I64) (xs:=a) (ys:=[c]) O O O O G7 Ra t (fun _=>O) (.inl O) O) O (JLm (OW 1040 1 I64 (a++[c])) O (G6 (q (G1 (JLm (E7 b) O (JLh (I64 ((b+1:Nat):Int)) (Hy (Hk g (G4a j)) O O O) O (JLm (I64 ((b+1:Nat):Int)) O (G6 (a6 _ _ (b+1) (a++[c]) (app1 p h) (by omega) ⟨(.sm O O),⟨⟨_,rfl,.same⟩,ø⟩,rfl⟩)))))))))
 ·
  have h:=app1 i (G82 e (Zk hb))
  refine Hd (a3 (Jr fun u=>(JLm (OW 1040 1 I64 a) O (JLm (E1 l) O (JLl G7 O O O fun a9=>?_)))))
  obtain⟨d,v,h⟩:=Gc h
  refine JLh (LT 1 I64 (a.take d,a.drop d)) (R10 (f:=I64) (xs:=a) O O O G7 (Hc v)) O (JLm (LT 1 I64 (a.take d,a.drop d)) O (G6 (u (H0 (fin1 (fun r:(Ln Int)=>(LT 1 I64 r:AV)) h)))))

def R0 (l:List (List Int)):Option (Ln (Ln Int)):=
 chk ((l.length:Int)+12) fun k=>
 bnd (Hc4 k) fun h=>
 need (decide (24*h≤281474976710656∧h≤maxLen)) <|
 each (fun i m (b:(List (Ln Int))) f=>
  bnd (Ji i) fun c=>
  need (decide ((b.length+[c].length)*24≤140737488355328∧b.length+[c].length≤maxLen)) <|
  f (b++[c]))
 (fun(b:(List (Ln Int)))=>
  need (decide (12≤9223372036854775807)) <|
  upto (fun j (a:(List (Ln Int))) g=>
   bnd (Qg 1 (j:Int)) fun d=>
   need (decide ((a.length+[(d,([]:List Int))].length)*24≤140737488355328∧a.length+[(d,([]:List Int))].length≤maxLen)) <|
   g (a++[(d,([]:List Int))]))
  (fun(a:(List (Ln Int)))=>
   bnd (Rn (l.length:Int) a.length) fun e=>
   some (a.take e,a.drop e)) (12:Int).toNat 0 b) l 0 []
theorem G9f (l:List (List Int)) (r:(Ln (Ln Int))) (h:R0 l=some r):Pure E8 63 [LS 1 (E1) l] (·=LT 1 (LT 1 I64) r):=by
 unfold R0 at h
 refine Hb [.tmp 2] Try.func63 O O (Jr fun b7=>(JLh (LS 1 (E1) ([]:List (List Int))) (Jk 1 O O) O (G6 (b7 (Jr fun b8=>(JLm (LS 1 (E1) l) O (JLl Gf O O O fun d2=>?_)))))))
 obtain⟨v3,b9,h⟩:=J6 h
 refine JLh (I64 v3) (Hy b9 O O O) O ?_
 obtain⟨m4,c0,h⟩:=Gc h
 obtain⟨c1,h⟩:=J3 h
 refine JLh (OW 1065 1 (LT 1 I64) ([]:List (Ln Int))) (J55 1065 O O O O Gf G45 O (J40 c0) c1) O (JLm (OW 1065 1 (LT 1 I64) ([]:List (Ln Int))) O (G6 (b8 (Js fun c2=>Jr fun c3=>(JLm (I64 0) O (G6 (c3 (Gg ?_))))))))
 obtain⟨c4,s,t,p,h⟩:=J4 h
 refine H7 (fun c (d:(List (Ln Int)))=>each c4 s (List.drop c l) c d=some r) (fun c d=>[(0,LS 1 (E1) l),(3,OW 1065 1 (LT 1 I64) d),(4,E7 c)]) (fun c d=>[(1065,.spare 25 1 d.length d.length)]) (fun c=>l.length - c) 0 [] h ⟨(.sm O O),⟨⟨_,O,.same⟩,ø⟩,O⟩ ?_
 clear h
 intro c d k d3 c5
 refine Js fun u=>Jr fun v=>(JLm (E7 c) O (JLm (LS 1 (E1) l) O (JLl Gf O O O fun w=>(JLh (BL (decide ((c:Int) < (l.length:Int)))) (Hx O O O) O (G6 (v (Gi O (fun hb=>?_) (fun hb=>?_))))))))
 ·
  have m:=Jo hb
  obtain⟨i,c9,x,z,h⟩:=Hq k m
  replace h:=Yn t h
  refine Gj (u (Js fun a0=>Gg (Jr fun a1=>(JLm (LS 1 (E1) l) O (JLm (E7 c) O (JLh (.dptr [E1 i]) (Gz (f:=(E1)) (xs:=l) (y:=i) O O O Gf x O) O (JLh (E1 i) (Gm H4 O O O) O ?_)))))))
  obtain⟨e,a2,h⟩:=Gc h
  refine JLh (LT 1 I64 e) (Gt O (Y0 i e a2) Gee ⟨O,O,ø⟩) O (JLm (LT 1 I64 e) O (G6 (a1 (G1 (JLm (OW 1065 1 (LT 1 I64) d) O (JLm (LT 1 I64 e) O (JLh (LS 1 (LT 1 I64) [e]) (H9 (xs:=[LT 1 I64 e]) O ⟨O,O,ø⟩ Gf Z7 O O O O) O ?_)))))))
  obtain⟨a3,h⟩:=J3 h
  refine JLh (OW 1065 1 (LT 1 I64) (d++[e])) (Rw (f:=(LT 1 I64)) (xs:=d) (ys:=[e]) O O O O Gf G45 a3 (fun _=>O) (.inl O) O) O (JLm (OW 1065 1 (LT 1 I64) (d++[e])) O (G6 (a0 (G1 (JLm (E7 c) O (JLh (I64 ((c+1:Nat):Int)) (Hy (Hk m w) O O O) O (JLm (I64 ((c+1:Nat):Int)) O (G6 (c5 _ _ (c+1) (d++[e]) (app1 z h) (by omega) ⟨(.sm O O),⟨⟨_,rfl,.same⟩,ø⟩,rfl⟩)))))))))
 ·
  have h:=app1 p (Hr k (Ha hb))
  refine Hd (c2 (Js fun a4=>Jr fun a5=>(JLm (I64 0) O (G6 (a5 (Gg ?_))))))
  obtain⟨a6,h⟩:=J3 h
  obtain⟨c6,a7,a8,q,h⟩:=Gc0 h
  refine H7 (fun b (a:(List (Ln Int)))=>upto c6 a7 ((12:Int).toNat - b) b a=some r) (fun b a=>[(0,LS 1 (E1) l),(3,OW 1065 1 (LT 1 I64) a),(6,E7 b)]) (fun b a=>[(1065,.spare 25 1 a.length a.length)]) (fun b=>(12:Int).toNat - b) 0 d h ⟨(.sm O O),⟨⟨_,O,.same⟩,ø⟩,O⟩ ?_
  clear h
  intro b a n d4 c7
  refine Js fun a9=>Jr fun b0=>(JLm (E7 b) O (JLh (BL (decide ((b:Int) < 12))) (Hx O O O) O (G6 (b0 (Gi O (fun hb=>?_) (fun hb=>?_))))))
  ·
   have o:=G87 hb
   obtain⟨d0,b1,h⟩:=G81 n o
   replace h:=Ja2 a8 h
   refine Gj (a9 (Js fun b2=>Gg (G1 (JLm (OW 1065 1 (LT 1 I64) a) O (JLm (E7 b) O ?_)))))
   obtain⟨g,b3,h⟩:=Gc h
   refine JLh (LT 1 I64 (g,([]:List Int))) (Gk.cv (Cv.of0 g) (Gt O (G2e 1 (b:Int) g b3) He1 ⟨O,O,O,O,ø⟩)) O (JLh (LS 1 (LT 1 I64) ([(g,([]:List Int))])) (H9 (xs:=[LT 1 I64 (g,([]:List Int))]) O ⟨O,O,ø⟩ Gf Z7 O O O O) O ?_)
   obtain⟨b4,h⟩:=J3 h
   refine JLh (OW 1065 1 (LT 1 I64) (a++[(g,([]:List Int))])) (Rw (f:=(LT 1 I64)) (xs:=a) (ys:=[(g,([]:List Int))]) O O O O Gf G45 b4 (fun _=>O) (.inl O) O) O (JLm (OW 1065 1 (LT 1 I64) (a++[(g,([]:List Int))])) O (G6 (b2 (G1 (JLm (E7 b) O (JLh (I64 ((b+1:Nat):Int)) (Hy (Hk o (G4a a6)) O O O) O (JLm (I64 ((b+1:Nat):Int)) O (G6 (c7 _ _ (b+1) (a++[(g,([]:List Int))]) (app1 b1 h) (by omega) ⟨(.sm O O),⟨⟨_,rfl,.same⟩,ø⟩,rfl⟩)))))))))
  ·
   have h:=app1 q (G82 n (Zk hb))
   refine Hd (a4 (Jr fun b5=>(JLm (OW 1065 1 (LT 1 I64) a) O (JLm (LS 1 (E1) l) O (JLl Gf O O O fun d1=>?_)))))
   obtain⟨j,b6,h⟩:=Gc h
   refine JLh (LT 1 (LT 1 I64) (a.take j,a.drop j)) (R10 (f:=(LT 1 I64)) (xs:=a) O O O Gf (Hc b6)) O (JLm (LT 1 (LT 1 I64) (a.take j,a.drop j)) O (G6 (b5 (H0 (fin1 (fun r:(Ln (Ln Int))=>(LT 1 (LT 1 I64) r:AV)) h)))))

def Qr (y:Gp):Option Q4:=
 bnd (R0 y.Stacks) fun a=>
 some (Q4.mk a y.Height)
theorem G12 (y:Gp) (r:Q4) (h:Qr y=some r):Pure E8 31 [.agg [LS 1 (E1) y.Stacks,I64 y.Height]] (·=.agg [LT 1 (LT 1 I64) r.Stacks,I64 r.Height]):=by
 unfold Qr at h
 refine Hb [.cell 2 24] Try.func31 O O (Jr fun b=>(JLh (.ptr 1038 0) (Q5 (cs:=[LS 1 (E1) y.Stacks,I64 y.Height]) 1038 O O O O O) O (JLh (.ptr 1039 0) (Gb7 1039 [LS 1 (E1) ([]:List (List Int)),I64 0] [.slice none 0 0,E0] Ga5 ⟨.inr ⟨_,O,O⟩,.inl O,ø⟩ O O) O (G6 (b (Jr fun c=>(JLh (.ptr 1038 0) (Hu Hv O O) O (JLh (LS 1 (E1) y.Stacks) (Ht Gr O O O O) O ?_))))))))
 obtain⟨a,d,h⟩:=Gc h
 refine JLh (LT 1 (LT 1 I64) a) (Gt O (G9f y.Stacks a d) Jd0 ⟨O,O,ø⟩) O (JLh (.ptr 1038 0) (Hu Hv O O) O (J9 (u:=.junk) (Hp (u:=LT 1 (LT 1 I64) a) (ds:=[LT 1 (LT 1 I64) a,I64 y.Height]) Ga6 O O O O O O O O) (G6 (c (H5 [(1,.dptr [LT 1 (LT 1 I64) a,I64 y.Height]),(2,.ptr 1039 0)] [(1039,.box 24 [LS 1 (E1) ([]:List (List Int)),I64 0])] 1038 rfl rfl rfl ⟨⟨_,rfl,.boxEq rfl rfl⟩,ø⟩ rfl (by exact⟨.ptr,.conv (.same rfl),ø⟩) (Jr fun e=>(JLh (.agg [LT 1 (LT 1 I64) a,I64 y.Height]) (Gu Hj O O O) O (J9 (u:=.junk) (Hp (u:=.agg [LT 1 (LT 1 I64) a,I64 y.Height]) (ds:=[LT 1 (LT 1 I64) a,I64 y.Height]) G0c O O O O O O O O) (G6 (e (H0 ?_)))))))))))
 exact⟨[.agg [LT 1 (LT 1 I64) a,I64 y.Height]],[],ø,O,⟨⟨_,⟨_,_,_,_,O,O,O,.inl ⟨Hj,O⟩⟩,.conv (.same O)⟩,ø⟩,O,congrArg (fun r:Q4=>(.agg [LT 1 (LT 1 I64) r.Stacks,I64 r.Height]:AV)) (Ey h)⟩

def R5 (l:List G8):Option (List G5):=
 each (fun a d (b:(List G5)) c=>
  need (decide ((b.length+[(G5.mk a.From a.To)].length)*16≤140737488355328∧b.length+[(G5.mk a.From a.To)].length≤maxLen)) <|
  c (b++[(G5.mk a.From a.To)]))
 (fun(b:(List G5))=>
  some b) l 0 []
theorem G54 (l:List G8) (r:(List G5)) (h:R5 l=some r):Pure E8 38 [E4 l] (·=E2 r):=by
 unfold R5 at h
 refine Hb [.tmp 2] Try.func38 O O (Jr fun t=>(JLh (E2 ([]:List G5)) (Jk 2 O O) O (G6 (t (Jr fun u=>(JLh (OW 1047 2 G5.av ([]:List G5)) (Ge4 1047 39 2 O O O) O (G6 (u (Js fun v=>Jr fun w=>(JLm (I64 0) O (G6 (w (Gg ?_)))))))))))))
 obtain⟨x,i,j,g,h⟩:=J4 h
 refine H7 (fun b (c:(List G5))=>each x i (List.drop b l) b c=some r) (fun b c=>[(0,E4 l),(3,OW 1047 2 G5.av c),(4,E7 b)]) (fun b c=>[(1047,.spare 39 2 c.length c.length)]) (fun b=>l.length - b) 0 [] h ⟨(.sm O O),⟨⟨_,O,.same⟩,ø⟩,O⟩ ?_
 clear h
 intro b c d a2 z
 refine Js fun k=>Jr fun m=>(JLm (E7 b) O (JLm (E4 l) O (JLl Rx O O O fun a0=>(JLh (BL (decide ((b:Int) < (l.length:Int)))) (Hx O O O) O (G6 (m (Gi O (fun hb=>?_) (fun hb=>?_))))))))
 ·
  have e:=Jo hb
  obtain⟨a,a1,n,o,h⟩:=Hq d e
  replace h:=Yn j h
  refine Gj (k (Js fun p=>Gg (G1 (JLm (OW 1047 2 G5.av c) O (JLm (E4 l) O (JLm (E7 b) O (JLh (.dptr [I64 a.From,I64 a.To]) (Gz (f:=G8.av) (xs:=l) (y:=a) O O O Rx n O) O (JLh (.agg [I64 a.From,I64 a.To]) (Gu G18 O O O) O (JLh (E2 [(G5.mk a.From a.To)]) (H9 (xs:=[.agg [I64 a.From,I64 a.To]]) O ⟨O,O,ø⟩ Ja G4b O O O O) O ?_)))))))))
  obtain⟨q,h⟩:=J3 h
  refine JLh (OW 1047 2 G5.av (c++[(G5.mk a.From a.To)])) (Rw (f:=G5.av) (xs:=c) (ys:=[(G5.mk a.From a.To)]) O O O O Ja Ge9 q (fun _=>O) (.inl O) O) O (JLm (OW 1047 2 G5.av (c++[(G5.mk a.From a.To)])) O (G6 (p (G1 (JLm (E7 b) O (JLh (I64 ((b+1:Nat):Int)) (Hy (Hk e a0) O O O) O (JLm (I64 ((b+1:Nat):Int)) O (G6 (z _ _ (b+1) (c++[(G5.mk a.From a.To)]) (app1 o h) (by omega) ⟨(.sm O O),⟨⟨_,rfl,.same⟩,ø⟩,rfl⟩)))))))))
 ·
  have h:=app1 g (Hr d (Ha hb))
  refine Hd (v (Jr fun s=>(JLm (OW 1047 2 G5.av c) O (JLm (OW 1047 2 G5.av c) O (G6 (s (H0 (fin1l (fun r:(List G5)=>(E2 r:AV)) h))))))))

def Rr (F:Nat) (y:Gp) (order:List Int):Option Bool:=
 bnd (Qr y) fun e=>
 bnd (Ji order) fun f=>
 bnd (Qe F (Gp.mk (e.Stacks.1.map Prod.fst) e.Height) f.1) fun a=>
 bnd (Qa F (Gs.mk y.Stacks y.Height) order) fun b=>
 bnd (bif decide (a.2=b.2) then R5 b.1 else some default) fun g=>
 bnd (bif decide (a.2=b.2) then Jn a.1 g else some default) fun c=>
 bnd (bif ((decide (a.2=b.2))&&c) then Qj e y else some default) fun d=>
 bnd (bif (((decide (a.2=b.2))&&c)&&d) then Jj f order else some default) fun h=>
 some ((((decide (a.2=b.2))&&c)&&d)&&h)
theorem Gda (F:Nat) (y:Gp) (order:List Int) (r:Bool) (h:Rr F y order=some r):Pure E8 14 [.agg [LS 1 (E1) y.Stacks,I64 y.Height],E1 order] (·=BL r):=by
 unfold Rr at h
 refine Hb [.tmp 4] Try.func14 O O (Jr fun p=>(JLh (.ptr 1013 0) (Q5 (cs:=[LS 1 (E1) y.Stacks,I64 y.Height]) 1013 O O O O O) O (JLm (BL false) O (G6 (p (H5 [(1,E1 order),(2,.dptr [LS 1 (E1) y.Stacks,I64 y.Height])] [] 1013 rfl rfl rfl ø rfl (by exact⟨.conv (.same rfl),.ptr,ø⟩) (Jr fun q=>(JLh (.agg [LS 1 (E1) y.Stacks,I64 y.Height]) (Gu Hj O O O) O ?_))))))))
 obtain⟨a,s,h⟩:=Gc h
 refine JLh (.agg [LT 1 (LT 1 I64) a.Stacks,I64 a.Height]) (Gt O (G12 y a s) H53 ⟨O,O,ø⟩) O (JLm (E1 order) O ?_)
 obtain⟨e,t,h⟩:=Gc h
 refine JLh (LT 1 I64 e) (Gt O (Y0 order e t) Gee ⟨O,O,ø⟩) O (JLh (.ptr 1014 0) (Jh 1014 2 G24 O O) O (J9 (u:=.junk) (Hp (u:=.agg [LT 1 (LT 1 I64) a.Stacks,I64 a.Height]) (ds:=[LT 1 (LT 1 I64) a.Stacks,I64 a.Height]) G0c O O O O O O O O) (JLm (LT 1 I64 e) O (G6 (q (fzQ [(1,E1 order),(2,.dptr [LS 1 (E1) y.Stacks,I64 y.Height]),(5,.dptr [LT 1 (LT 1 I64) a.Stacks,I64 a.Height]),(6,LT 1 I64 e)] [] 1014 rfl rfl rfl ø rfl ?_))))))
 refine Jr fun v=>(JLh (.agg [LS 1 (E1) (a.Stacks.1.map Prod.fst),I64 a.Height]) (Gk.cv (Cv.aggL (cs:=[LT 1 (LT 1 I64) a.Stacks,I64 a.Height]) ⟨Cv.lstM (f:=(LT 1 I64)) (g:=(E1)) Prod.fst (fun x=>⟨Cv.lst0 x,ø⟩) a.Stacks,.same,ø⟩) (Gu Hj O O O)) O (JLh (E1 e.1) (Gk.cv (Cv.lst0 e) (G2 O O)) O ?_))
 obtain⟨b,w,h⟩:=Gc h
 refine JLh (.tup [E2 b.1,I64 b.2]) (Gt O (G20 F (Gp.mk (a.Stacks.1.map Prod.fst) a.Height) e.1 b w) Gef ⟨O,O,O,O,ø⟩) O (JLm (.tup [E2 b.1,I64 b.2]) O (JLh (E2 b.1) (Gv O O O) O (JLh (I64 b.2) (Gv O O O) O (JLm (E2 b.1) O (JLm (I64 b.2) O (G6 (v (Jr fun z=>(JLh (.agg [LS 1 (E1) y.Stacks,I64 y.Height]) (Gu Hj O O O) O (JLm (E1 order) O ?_))))))))))
 obtain⟨c,a0,h⟩:=Gc h
 refine JLh (.tup [E4 c.1,I64 c.2]) (Gt O (Gd6 F (Gs.mk y.Stacks y.Height) order c a0) Jdc ⟨O,O,O,O,ø⟩) O (JLm (.tup [E4 c.1,I64 c.2]) O (JLh (E4 c.1) (Gv O O O) O (JLh (I64 c.2) (Gv O O O) O (JLm (E4 c.1) O (JLm (I64 c.2) O (G6 (z (Jr fun a1=>(JLm (I64 b.2) O (JLm (I64 c.2) O (JLh (BL (decide (b.2=c.2))) (Ya O O O) O (JLm (BL (decide (b.2=c.2))) O (JLo (E2 b.1) [] O .sct ø (fun hc=>G2 O O) O (JLo (E4 c.1) [] O .sct ø (fun hc=>G2 O O) O ?_))))))))))))))
 obtain⟨j,l,h⟩:=Gc h
 refine JLo (E2 j) [32] O .sct ⟨Ua,ø⟩ (fun hc=>Gt (args:=[E4 c.1]) O (G54 c.1 j (H1 hc l)) Heb ⟨O,O,ø⟩) O ?_
 obtain⟨d,m,h⟩:=Gc h
 refine JLo (BL d) [31,33] O .sct ⟨Ua,Ua,ø⟩ (fun hc=>Gt (args:=[E2 b.1,E2 j]) O (Qo b.1 j d (H1 hc m)) G6f ⟨O,O,O,O,ø⟩) O (JLh (BL ((decide (b.2=c.2))&&d)) (Y6 O O O O) O (JLm (BL ((decide (b.2=c.2))&&d)) O (JLo (.agg [LT 1 (LT 1 I64) a.Stacks,I64 a.Height]) [] O .sct ø (fun hc=>Gu Hj O O O) O (JLo (.agg [LS 1 (E1) y.Stacks,I64 y.Height]) [] O .sct ø (fun hc=>Gu Hj O O O) O ?_))))
 obtain⟨i,n,h⟩:=Gc h
 refine JLo (BL i) [37,38] O .sct ⟨Ua,Ua,ø⟩ (fun hc=>Gt (args:=[.agg [LT 1 (LT 1 I64) a.Stacks,I64 a.Height],.agg [LS 1 (E1) y.Stacks,I64 y.Height]]) O (G06 a y i (H1 hc n)) H52 ⟨O,O,O,O,ø⟩) O (JLh (BL (((decide (b.2=c.2))&&d)&&i)) (Y6 O O O O) O (JLm (BL (((decide (b.2=c.2))&&d)&&i)) O (JLo (LT 1 I64 e) [] O .sct ø (fun hc=>G2 O O) O (JLo (E1 order) [] O .sct ø (fun hc=>G2 O O) O ?_))))
 obtain⟨k,o,h⟩:=Gc h
 refine JLo (BL k) [42,43] O .sct ⟨Ua,Ua,ø⟩ (fun hc=>Gt (args:=[LT 1 I64 e,E1 order]) O (Y1 e order k (H1 hc o)) Ged ⟨O,O,O,O,ø⟩) O (JLh (BL ((((decide (b.2=c.2))&&d)&&i)&&k)) (Y6 O O O O) O (JLm (BL ((((decide (b.2=c.2))&&d)&&i)&&k)) O (G6 (a1 (H0 (fin1 BL h))))))

end
end Go.Proofs.Ytokjlondbjdlfaa
