/- Walks of functions. -/
import Derived.Test.YthkihfoleenlmaaGreatXCa
set_option maxRecDepth 100000
set_option maxHeartbeats 1000000
set_option linter.unusedVariables false
set_option linter.unusedSimpArgs false
namespace Go.Proofs.YthkihfoleenlmaaGreat
open Go.RowKit
noncomputable section
open XAF
open XLF
open XBF
open XCF

def Zo (bx:List Box) (calls:Int):Option Bool:=
 bif (((decide (calls < 1))||(decide (20 < calls)))||(decide (2000 < (bx.length:Int)))) then
 (some false)
 else
 (each (fun a b (d:Unit) c=>
   bnd (bif ((!((decide (a.ID < 1))||(decide (999999 < a.ID))))&&(decide (0 < (b:Int)))) then chk ((b:Int) - 1) some else some 0) fun e=>
   bnd (bif ((!((decide (a.ID < 1))||(decide (999999 < a.ID))))&&(decide (0 < (b:Int)))) then Jx bx e some else some default) fun f=>
   bif (((decide (a.ID < 1))||(decide (999999 < a.ID)))||((decide (0 < (b:Int)))&&(decide (a.ID≤f.ID)))) then
   (some false)
   else
   (bif (((decide (a.Size≠20))&&(decide (a.Size≠40)))||((decide (a.Size=20))&&a.High)) then
    (some false)
    else
    (bif (((decide (a.Load < 0))||(decide (a.Discharge≤a.Load)))||(decide (calls≤a.Discharge))) then
     (some false)
     else
     (c ()))))
  (fun(d:Unit)=>
   some true) bx 0 ())
abbrev Mh (calls:Int):Bool:=((decide (calls < 1))||(decide (20 < calls)))
theorem qH (bx:List Box) (calls:Int) (r:Bool) (h:Zo bx calls=some r):Pure Ej 14 [E3 bx,I64 calls] (·=BL r):=by
 unfold Zo at h
 refine Gy [.tmp 4] Tryz.func14 ø ø (Jr fun a6=>(JLm (BL false) ø (G7 (a6 (Js fun a7=>?_)))))
 refine Jr fun a8=>(JLm (I64 calls) ø (JLh (BL (decide (calls < 1))) (Ht ø ø ø) ø (JLm (BL (decide (calls < 1))) ø (JLo (I64 calls) [] ø .scf þ (fun hc=>G3 ø ø) ø (JLo (BL (decide (20 < calls))) [10] ø .scf ⟨Ua,þ⟩ (fun hc=>Ya ø ø ø) ø (JLh (BL (Mh calls)) (aJ ø ø ø ø) ø (JLm (BL (Mh calls)) ø (JLo (E3 bx) [] ø .scf þ (fun hc=>G3 ø ø) ø (JLo (Ei bx.length) [14] ø .scf ⟨Ua,þ⟩ (fun hc=>Q4 (f:=Box.av) (xs:=bx) Hz ø ø) ø (JLo (BL (decide (2000 < (bx.length:Int)))) [15] ø .scf ⟨Ua,þ⟩ (fun hc=>Ya ø ø ø) ø (JLh (BL ((Mh calls)||(decide (2000 < (bx.length:Int))))) (aJ ø ø ø ø) ø (G7 (a8 (JCc ø h (fun h hb=>?_) (fun h hb=>?_)))))))))))))))
 ·
  refine Jr fun a9=>(JLm (BL false) ø (G7 (a9 (Gt (fin1 BL h)))))
 ·
  refine Gn (a7 (Js fun b0=>Jr fun b1=>(JLm (I64 0) ø (G7 (b1 (Gi ?_))))))
  obtain⟨b2,j,k,i,h⟩:=Jg h
  refine H7 (fun b (d:Unit)=>each b2 j (List.drop b bx) b d=some r) (fun b d=>[(0,E3 bx),(1,I64 calls),(5,Ei b)]) (fun b d=>[]) (fun b=>bx.length - b) 0 () h ⟨(.sm ø ø),þ,ø⟩ ?_
  clear h
  intro b d e b6 b3
  refine Js fun l=>Jr fun m=>(JLm (Ei b) ø (JLm (E3 bx) ø (JLl Hz ø ø ø fun n=>(JLh (BL (decide ((b:Int) < (bx.length:Int)))) (Ht ø ø ø) ø (G7 (m (Gm ø (fun hb=>?_) (fun hb=>?_))))))))
  ·
   have g:=Q1 hb
   obtain⟨a,b5,o,p,h⟩:=J4 e g
   replace h:=Zt k h
   refine Gn (l (Js fun q=>Gi (Jr fun s=>(JLm (E3 bx) ø (JLm (Ei b) ø (JLh (Ef a) (Gs (f:=Box.av) (xs:=bx) (y:=a) ø ø ø Hz o ø) ø (JLh (.agg (Box.cs a)) (Gk iL ø ø ø) ø (JLh (.ptr 1007 0) (Q3 1007 9 fG ø ø) ø (J7 (u:=.junk) (Hw (u:=.agg (Box.cs a)) (ds:=(Box.cs a)) nF ø ø ø ø ø ø ø ø) (G7 (s (fzQ [(0,E3 bx),(1,I64 calls),(5,Ei b),(6,Ef a)] [] 1007 rfl rfl rfl þ rfl (Js fun t=>Js fun v=>?_)))))))))))))
   obtain⟨b4,w,h⟩:=Ge h
   obtain⟨c,x,h⟩:=Ge h
   refine JC_d0 J9 (by kernel_rfl) (Dq (Ef a) (Gb cR ø ø ø) ø (Dq (I64 a.ID) (Gj Ga ø ø ø) ø (Dq (BL (decide (a.ID < 1))) (Ht ø ø ø) ø (Dq (BL (decide (a.ID < 1))) (G3 ø ø) ø (Do (Ef a) [] ø .scf þ (fun hc=>Gb cR ø ø ø) ø (Do (I64 a.ID) [32] ø .scf ⟨Ua,þ⟩ (fun hc=>Gj Ga ø ø ø) ø (Do (BL (decide (999999 < a.ID))) [33] ø .scf ⟨Ua,þ⟩ (fun hc=>Ya ø ø ø) ø (Dq (BL ((decide (a.ID < 1))||(decide (999999 < a.ID)))) (aJ ø ø ø ø) ø (Dq (BL ((decide (a.ID < 1))||(decide (999999 < a.ID)))) (G3 ø ø) ø (Do (Ei b) [] ø .scf þ (fun hc=>G3 ø ø) ø (Do (BL (decide (0 < (b:Int)))) [37] ø .scf ⟨Ua,þ⟩ (fun hc=>Ya ø ø ø) ø (Do (BL (decide (0 < (b:Int)))) [38] ø .scf ⟨Ua,þ⟩ (fun hc=>G3 ø ø) ø (Do (E3 bx) [] ø .optt þ (fun hc=>G3 ø ø) ø ?_)))))))))))))
   refine Do (Ei b) [] ø .optt þ (fun hc=>G3 ø ø) ø (Do (I64 b4) [41] ø .optt ⟨Ua,þ⟩ (fun hc=>cB (bS (Gw hc w)) ø ø ø) ø (Do (Ef c) [40,42] ø .optt ⟨Ua,Ua,þ⟩ (fun hc=>(match Qk (Gw hc x) with | ⟨_,hm_,hy_⟩=>Gs (f:=Box.av) (xs:=bx) (y:=c) ø ø ø Hz hy_ hm_)) ø (Do (Ef c) [43] ø .optt ⟨Ua,þ⟩ (fun hc=>Gb cR ø ø ø) ø (Do (I64 c.ID) [44] ø .optt ⟨Ua,þ⟩ (fun hc=>Gj Ga ø ø ø) ø (Do (Ef a) [] ø .optt þ (fun hc=>Gb cR ø ø ø) ø (Do (I64 a.ID) [46] ø .optt ⟨Ua,þ⟩ (fun hc=>Gj Ga ø ø ø) ø (Do (BL (decide (a.ID≤c.ID))) [45,47] ø .optt ⟨Ua,Ua,þ⟩ (fun hc=>dF ø ø ø) ø (Dg (.opt (!((decide (a.ID < 1))||(decide (999999 < a.ID)))) (BL ((decide (0 < (b:Int)))&&(decide (a.ID≤c.ID))))) (Gh [(39,BL (decide (0 < (b:Int)))),(48,_)] ø ø ø .scf ⟨.all id,.part,þ⟩ (fun hc=>Jf ø ø ø ø) ø) ø (Dq (BL (((decide (a.ID < 1))||(decide (999999 < a.ID)))||((decide (0 < (b:Int)))&&(decide (a.ID≤c.ID))))) (aJ ø ø ø ø) ø (Dnil ?_))))))))))
   refine v (JCc ø h (fun h hb=>?_) (fun h hb=>?_))
   ·
    refine Jr fun z=>(JLm (BL false) ø (G7 (z (Gt (fin1 BL h)))))
   ·
    refine Gn (t (Js fun a0=>?_))
    refine Jr fun a1=>(JLh (.dptr ((Box.cs a).drop 2)) (Gb bM ø ø ø) ø (JLh (U8 a.Size) (Gj dY ø ø ø) ø (JLh (BL (decide (a.Size≠20))) (dX ø ø ø) ø (JLm (BL (decide (a.Size≠20))) ø (JLo (.dptr ((Box.cs a).drop 2)) [] ø .sct þ (fun hc=>Gb bM ø ø ø) ø (JLo (U8 a.Size) [55] ø .sct ⟨Ua,þ⟩ (fun hc=>Gj dY ø ø ø) ø (JLo (BL (decide (a.Size≠40))) [56] ø .sct ⟨Ua,þ⟩ (fun hc=>dX ø ø ø) ø (JLh (BL ((decide (a.Size≠20))&&(decide (a.Size≠40)))) (Jf ø ø ø ø) ø (JLm (BL ((decide (a.Size≠20))&&(decide (a.Size≠40)))) ø (JLo (.dptr ((Box.cs a).drop 2)) [] ø .scf þ (fun hc=>Gb bM ø ø ø) ø (JLo (U8 a.Size) [60] ø .scf ⟨Ua,þ⟩ (fun hc=>Gj dY ø ø ø) ø (JLo (BL (decide (a.Size=20))) [61] ø .scf ⟨Ua,þ⟩ (fun hc=>Rk ø ø ø) ø (JLo (BL (decide (a.Size=20))) [62] ø .scf ⟨Ua,þ⟩ (fun hc=>G3 ø ø) ø ?_)))))))))))))
    refine JLo (.dptr ((Box.cs a).drop 3)) [] ø .optt þ (fun hc=>Gb vP ø ø ø) ø (JLo (BL a.High) [64] ø .optt ⟨Ua,þ⟩ (fun hc=>Gj fJ ø ø ø) ø (Gd (u:=BL ((decide (a.Size=20))&&a.High)) [(63,BL (decide (a.Size=20))),(65,_)] ø ø ø .scf ⟨.all id,.part,þ⟩ (fun hc=>Jf ø ø ø ø) ?_))
    refine JLh (BL (((decide (a.Size≠20))&&(decide (a.Size≠40)))||((decide (a.Size=20))&&a.High))) (aJ ø ø ø ø) ø (G7 (a1 (JCc ø h (fun h hb=>?_) (fun h hb=>?_))))
    ·
     refine Jr fun a2=>(JLm (BL false) ø (G7 (a2 (Gt (fin1 BL h)))))
    ·
     refine Gn (a0 ?_)
     refine Jr fun a3=>(JLh (.dptr ((Box.cs a).drop 5)) (Gb aD ø ø ø) ø (JLh (I64 a.Load) (Gj Ga ø ø ø) ø (JLh (BL (decide (a.Load < 0))) (Ht ø ø ø) ø (JLm (BL (decide (a.Load < 0))) ø (JLo (.dptr ((Box.cs a).drop 6)) [] ø .scf þ (fun hc=>Gb aC ø ø ø) ø (JLo (I64 a.Discharge) [72] ø .scf ⟨Ua,þ⟩ (fun hc=>Gj Ga ø ø ø) ø (JLo (.dptr ((Box.cs a).drop 5)) [] ø .scf þ (fun hc=>Gb aD ø ø ø) ø (JLo (I64 a.Load) [74] ø .scf ⟨Ua,þ⟩ (fun hc=>Gj Ga ø ø ø) ø (JLo (BL (decide (a.Discharge≤a.Load))) [73,75] ø .scf ⟨Ua,Ua,þ⟩ (fun hc=>oO ø ø ø) ø (JLh (BL ((decide (a.Load < 0))||(decide (a.Discharge≤a.Load)))) (aJ ø ø ø ø) ø (JLm (BL ((decide (a.Load < 0))||(decide (a.Discharge≤a.Load)))) ø (JLo (.dptr ((Box.cs a).drop 6)) [] ø .scf þ (fun hc=>Gb aC ø ø ø) ø (JLo (I64 a.Discharge) [79] ø .scf ⟨Ua,þ⟩ (fun hc=>Gj Ga ø ø ø) ø ?_)))))))))))))
     refine JLo (I64 calls) [] ø .scf þ (fun hc=>G3 ø ø) ø (JLo (BL (decide (calls≤a.Discharge))) [80,81] ø .scf ⟨Ua,Ua,þ⟩ (fun hc=>dF ø ø ø) ø (JLh (BL (((decide (a.Load < 0))||(decide (a.Discharge≤a.Load)))||(decide (calls≤a.Discharge)))) (aJ ø ø ø ø) ø (G7 (a3 (JCc ø h (fun h hb=>?_) (fun h hb=>?_))))))
     ·
      refine Jr fun a4=>(JLm (BL false) ø (G7 (a4 (Gt (fin1 BL h)))))
     ·
      refine Gn (q (G2 (JLm (Ei b) ø (JLh (I64 ((b+1:Nat):Int)) (Hf (Hq g n) ø ø ø) ø (JLm (I64 ((b+1:Nat):Int)) ø (G7 (b3 _ _ (b+1) () (app1 p h) (by omega) ⟨(.sm ø ø),þ,rfl⟩)))))))
  ·
   have h:=app1 i (J5 e (Hg hb))
   refine H5 (b0 (Jr fun a5=>(JLm (BL true) ø (G7 (a5 (Gt (fin1 BL h)))))))

def Yf (F:Nat) (s:H2) (bx:List Box):Option Bool:=
 bnd (Zp F s) fun a=>
 bnd (bif a then Zo bx 20 else some default) fun b=>
 some (a&&b)
theorem qD (F:Nat) (s:H2) (bx:List Box) (r:Bool) (h:Yf F s bx=some r):Pure Ej 82 [.agg (H2.cs s),E3 bx] (·=BL r):=by
 unfold Yf at h
 refine Gy [.tmp 4] Tryz.func82 ø ø (Jr fun c=>(JLh (.ptr 1079 0) (Qr (cs:=(H2.cs s)) 1079 ø ø ø ø ø) ø (JLm (BL false) ø (G7 (c (H1 [(1,E3 bx),(2,Ec s)] [] 1079 rfl rfl rfl þ rfl (by exact⟨.conv (.same rfl),.ptr,þ⟩) (Jr fun d=>(JLh (.agg (H2.cs s)) (Gk Qa ø ø ø) ø ?_))))))))
 obtain⟨a,e,h⟩:=Ge h
 refine JLh (BL a) (Gq ø (qI F s a e) H09 ⟨ø,ø,þ⟩) ø (JLm (BL a) ø (JLo (E3 bx) [] ø .sct þ (fun hc=>G3 ø ø) ø ?_))
 obtain⟨b,f,h⟩:=Ge h
 refine JLo (BL b) [8] ø .sct ⟨Ua,þ⟩ (fun hc=>Gq (args:=[E3 bx,I64 20]) ø (qH bx 20 b (Gw hc f)) H15 ⟨ø,ø,ø,ø,þ⟩) ø (JLh (BL (a&&b)) (Jf ø ø ø ø) ø (JLm (BL (a&&b)) ø (G7 (d (Gt (fin1 BL h))))))

def Q6 (bx:List Box) (g:G5) (size:Int):Option Int:=
 each (fun b h (a:Int) d=>
  jp (fun c=>
   bif (((decide (b.Load=g.Load))&&(decide (b.Discharge=g.Discharge)))&&(decide (b.Size=size))) then
   (chk (a+1) fun e=>
    c e)
   else
   (c a)) fun(f:Int)=>
  d f)
 (fun(a:Int)=>
  some a) bx 0 0
abbrev Mi (g:G5):List AV:=[I64 g.Load,I64 g.Discharge]
theorem Qf (bx:List Box) (g:G5) (size:Int) (r:Int) (h:Q6 bx g size=some r):Pure Ej 177 [E3 bx,.agg [I64 g.Load,I64 g.Discharge],U8 size] (·=I64 r):=by
 unfold Q6 at h
 refine Gy [.tmp 6] Tryz.func177 ø ø (Jr fun z=>(JLh (.ptr 1131 0) (Qr (cs:=(Mi g)) 1131 ø ø ø ø ø) ø (JLm (I64 0) ø (G7 (z (H1 [(0,E3 bx),(2,U8 size),(4,.dptr (Mi g))] [] 1131 rfl rfl rfl þ rfl (by exact⟨.conv (.same rfl),.conv (.same rfl),.ptr,þ⟩) (Jr fun a0=>(JLm (I64 0) ø (G7 (a0 (Js fun a1=>Jr fun a2=>(JLm (I64 0) ø (G7 (a2 (Gi ?_)))))))))))))))
 obtain⟨a3,n,o,l,h⟩:=Jg h
 refine H7 (fun b (c:Int)=>each a3 n (List.drop b bx) b c=some r) (fun b c=>[(0,E3 bx),(2,U8 size),(4,.dptr (Mi g)),(7,I64 c),(8,Ei b)]) (fun b c=>[]) (fun b=>bx.length - b) 0 0 h ⟨(.sm ø ø),þ,rfl⟩ ?_
 clear h
 intro b c i a6 a4
 refine Js fun p=>Jr fun q=>(JLm (Ei b) ø (JLm (E3 bx) ø (JLl Hz ø ø ø fun s=>(JLh (BL (decide ((b:Int) < (bx.length:Int)))) (Ht ø ø ø) ø (G7 (q (Gm ø (fun hb=>?_) (fun hb=>?_))))))))
 ·
  have j:=Q1 hb
  obtain⟨a,a5,e,t,h⟩:=J4 i j
  replace h:=Zt o h
  refine Gn (p ?_)
  obtain⟨u,m,h⟩:=bE h
  refine Rh (fun d:Int=>u d=some r) (fun d=>[(0,E3 bx),(2,U8 size),(4,.dptr (Mi g)),(7,I64 d),(8,Ei b)]) (fun d=>[]) (fun Kj25 ej25=>?_) ?_
  ·
   refine Gi (Js fun v=>?_)
   refine JC_d0 J9 (by kernel_rfl) (Dq (E3 bx) (G3 ø ø) ø (Dq (Ei b) (G3 ø ø) ø (Dq (Ef a) (Gs (f:=Box.av) (xs:=bx) (y:=a) ø ø ø Hz e ø) ø (Dq (.dptr ((Box.cs a).drop 5)) (Gb aD ø ø ø) ø (Dq (I64 a.Load) (Gj Ga ø ø ø) ø (Dq (.dptr (Mi g)) (Gb Jm ø ø ø) ø (Dq (I64 g.Load) (Gj Ga ø ø ø) ø (Dq (BL (decide (a.Load=g.Load))) (Rk ø ø ø) ø (Dq (BL (decide (a.Load=g.Load))) (G3 ø ø) ø (Do (E3 bx) [] ø .sct þ (fun hc=>G3 ø ø) ø (Do (Ei b) [] ø .sct þ (fun hc=>G3 ø ø) ø (Do (Ef a) [24,25] ø .sct ⟨Ua,Ua,þ⟩ (fun hc=>Gs (f:=Box.av) (xs:=bx) (y:=a) ø ø ø Hz e ø) ø (Do (.dptr ((Box.cs a).drop 6)) [26] ø .sct ⟨Ua,þ⟩ (fun hc=>Gb aC ø ø ø) ø ?_)))))))))))))
   refine Do (I64 a.Discharge) [27] ø .sct ⟨Ua,þ⟩ (fun hc=>Gj Ga ø ø ø) ø (Do (.dptr [I64 g.Discharge]) [] ø .sct þ (fun hc=>Gb Jv ø ø ø) ø (Do (I64 g.Discharge) [29] ø .sct ⟨Ua,þ⟩ (fun hc=>Gj Ga ø ø ø) ø (Do (BL (decide (a.Discharge=g.Discharge))) [28,30] ø .sct ⟨Ua,Ua,þ⟩ (fun hc=>Rk ø ø ø) ø (Dq (BL ((decide (a.Load=g.Load))&&(decide (a.Discharge=g.Discharge)))) (Jf ø ø ø ø) ø (Dq (BL ((decide (a.Load=g.Load))&&(decide (a.Discharge=g.Discharge)))) (G3 ø ø) ø (Do (E3 bx) [] ø .sct þ (fun hc=>G3 ø ø) ø (Do (Ei b) [] ø .sct þ (fun hc=>G3 ø ø) ø (Do (Ef a) [34,35] ø .sct ⟨Ua,Ua,þ⟩ (fun hc=>Gs (f:=Box.av) (xs:=bx) (y:=a) ø ø ø Hz e ø) ø (Do (.dptr ((Box.cs a).drop 2)) [36] ø .sct ⟨Ua,þ⟩ (fun hc=>Gb bM ø ø ø) ø (Do (U8 a.Size) [37] ø .sct ⟨Ua,þ⟩ (fun hc=>Gj dY ø ø ø) ø (Do (U8 size) [] ø .sct þ (fun hc=>G3 ø ø) ø (Do (BL (decide (a.Size=size))) [38,39] ø .sct ⟨Ua,Ua,þ⟩ (fun hc=>Rk ø ø ø) ø (Dq (BL (((decide (a.Load=g.Load))&&(decide (a.Discharge=g.Discharge)))&&(decide (a.Size=size)))) (Jf ø ø ø ø) ø (Dnil ?_))))))))))))))
   refine v (JCc ø h (fun h hb=>?_) (fun h hb=>?_))
   ·
    refine G2 (JLm (I64 c) ø ?_)
    obtain⟨k,w,h⟩:=Hd h
    refine JLh (I64 k) (Hf w ø ø ø) ø (JLm (I64 k) ø (G7 (ej25 _ _ k h ⟨(.sm ø ø),þ,rfl⟩)))
   ·
    refine Gn (ej25 _ _ c h ⟨(.sm ø ø),þ,rfl⟩)
  ·intro d h
   replace h:=app1 m h
   refine G2 (JLm (Ei b) ø (JLh (I64 ((b+1:Nat):Int)) (Hf (Hq j s) ø ø ø) ø (JLm (I64 ((b+1:Nat):Int)) ø (G7 (a4 _ _ (b+1) d (app1 t h) (by omega) ⟨(.sm ø ø),þ,rfl⟩)))))
 ·
  have h:=app1 l (J5 i (Hg hb))
  refine H5 (a1 (Jr fun x=>(JLm (I64 c) ø (JLm (I64 c) ø (G7 (x (Gt (fin1 I64 h))))))))

def R6 (a:G5) (b:G5):Option Bool:=
 some ((decide (a.Load < b.Load))||((decide (a.Load=b.Load))&&(decide (a.Discharge < b.Discharge))))
abbrev Mj (a:G5) (b:G5):Bool:=((decide (a.Load=b.Load))&&(decide (a.Discharge < b.Discharge)))
theorem iQ (a:G5) (b:G5) (r:Bool) (h:R6 a b=some r):Pure Ej 178 [.agg [I64 a.Load,I64 a.Discharge],.agg [I64 b.Load,I64 b.Discharge]] (·=BL r):=by
 unfold R6 at h
 refine Gy [.tmp 4] Tryz.func178 ø ø (Jr fun c=>(JLh (.ptr 1132 0) (Qr (cs:=(Mi a)) 1132 ø ø ø ø ø) ø (JLh (.ptr 1133 0) (Qr (cs:=(Mi b)) 1133 ø ø ø ø ø) ø (JLm (BL false) ø (G7 (c (H1 [(2,.dptr (Mi a)),(3,.ptr 1133 0)] [(1133,.box 139 (Mi b))] 1132 rfl rfl rfl ⟨⟨_,rfl,.boxEq rfl rfl⟩,þ⟩ rfl (by exact⟨.ptr,.conv (.same rfl),þ⟩) (H1 [(2,.dptr (Mi a)),(3,.dptr (Mi b))] [] 1133 rfl rfl rfl þ rfl (by exact⟨.conv (.same rfl),.ptr,þ⟩) ?_))))))))
 refine Jr fun d=>(JLh (.dptr (Mi a)) (Gb Jm ø ø ø) ø (JLh (I64 a.Load) (Gj Ga ø ø ø) ø (JLh (.dptr (Mi b)) (Gb Jm ø ø ø) ø (JLh (I64 b.Load) (Gj Ga ø ø ø) ø (JLh (BL (decide (a.Load < b.Load))) (Ht ø ø ø) ø (JLm (BL (decide (a.Load < b.Load))) ø (JLo (.dptr (Mi a)) [] ø .scf þ (fun hc=>Gb Jm ø ø ø) ø (JLo (I64 a.Load) [11] ø .scf ⟨Ua,þ⟩ (fun hc=>Gj Ga ø ø ø) ø (JLo (.dptr (Mi b)) [] ø .scf þ (fun hc=>Gb Jm ø ø ø) ø (JLo (I64 b.Load) [13] ø .scf ⟨Ua,þ⟩ (fun hc=>Gj Ga ø ø ø) ø (JLo (BL (decide (a.Load=b.Load))) [12,14] ø .scf ⟨Ua,Ua,þ⟩ (fun hc=>Rk ø ø ø) ø (JLo (BL (decide (a.Load=b.Load))) [15] ø .scf ⟨Ua,þ⟩ (fun hc=>G3 ø ø) ø (JLo (.dptr [I64 a.Discharge]) [] ø .optt þ (fun hc=>Gb Jv ø ø ø) ø ?_)))))))))))))
 refine JLo (I64 a.Discharge) [17] ø .optt ⟨Ua,þ⟩ (fun hc=>Gj Ga ø ø ø) ø (JLo (.dptr [I64 b.Discharge]) [] ø .optt þ (fun hc=>Gb Jv ø ø ø) ø (JLo (I64 b.Discharge) [19] ø .optt ⟨Ua,þ⟩ (fun hc=>Gj Ga ø ø ø) ø (JLo (BL (decide (a.Discharge < b.Discharge))) [18,20] ø .optt ⟨Ua,Ua,þ⟩ (fun hc=>Ht ø ø ø) ø (Gd (u:=BL (Mj a b)) [(16,BL (decide (a.Load=b.Load))),(21,_)] ø ø ø .scf ⟨.all id,.part,þ⟩ (fun hc=>Jf ø ø ø ø) ?_))))
 refine JLh (BL ((decide (a.Load < b.Load))||(Mj a b))) (aJ ø ø ø ø) ø (JLm (BL ((decide (a.Load < b.Load))||(Mj a b))) ø (G7 (d (Gt (fin1 BL h)))))

def Y7 (F:Nat) (bx:List Box):Option (List G8):=
 loop (fun n (c:(List G8))=>
  each (fun b o (a:Bool×Int×Int×Int×Int) j=>
   jp (fun f=>
    bnd (Q6 bx (G5.mk b.Load b.Discharge) 40) fun g=>
    bnd (Q6 bx (G5.mk b.Load b.Discharge) 20) fun h=>
    chk (g+h) fun d=>
    bnd (bif ((!(decide (d=0)))&&(decide (0 < (c.length:Int)))) then chk ((c.length:Int) - 1) some else some 0) fun k=>
    bnd (bif ((!(decide (d=0)))&&(decide (0 < (c.length:Int)))) then Jx c k some else some default) fun l=>
    bnd (bif ((!(decide (d=0)))&&(decide (0 < (c.length:Int)))) then R6 l.G5 (G5.mk b.Load b.Discharge) else some default) fun i=>
    bnd (bif ((!((decide (d=0))||((decide (0 < (c.length:Int)))&&(!i))))&&a.1) then R6 (G5.mk b.Load b.Discharge) (G5.mk a.2.1 a.2.2.1) else some default) fun m=>
    bif (((decide (d=0))||((decide (0 < (c.length:Int)))&&(!i)))||(a.1&&(!m))) then
    (f (a.1,a.2.1,a.2.2.1,a.2.2.2.1,a.2.2.2.2))
    else
    (f (true,b.Load,b.Discharge,g,h))) fun(e:Bool×Int×Int×Int×Int)=>
   j (e.1,e.2.1,e.2.2.1,e.2.2.2.1,e.2.2.2.2))
  (fun(a:Bool×Int×Int×Int×Int)=>
   bif (!a.1) then
   (some c)
   else
   (need (decide ((c.length+[(G8.mk (G5.mk a.2.1 a.2.2.1) a.2.2.2.1 a.2.2.2.2)].length)*32≤140737488355328∧c.length+[(G8.mk (G5.mk a.2.1 a.2.2.1) a.2.2.2.1 a.2.2.2.2)].length≤maxLen)) <|
    n (c++[(G8.mk (G5.mk a.2.1 a.2.2.1) a.2.2.2.1 a.2.2.2.2)]))) bx 0 (false,0,0,0,0)) F []
abbrev Mk (b:(List G8)) (a:Bool×Int×Int×Int×Int):Loc:=[(1080,.spare 161 4 b.length b.length),(1081,.box 161 [I64 a.2.1,I64 a.2.2.1,I64 a.2.2.2.1,I64 a.2.2.2.2])]
abbrev Mm (a:Bool×Int×Int×Int×Int):List G8:=[(G8.mk (G5.mk a.2.1 a.2.2.1) a.2.2.2.1 a.2.2.2.2)]
abbrev Mn (a:Bool×Int×Int×Int×Int):List AV:=[I64 a.2.1,I64 a.2.2.1,I64 a.2.2.2.1,I64 a.2.2.2.2]
abbrev Mo:Nat×Jn:=(1083,.box 161 [.junk,.junk,.junk,.junk])
theorem oS (F:Nat) (bx:List Box) (r:(List G8)) (h:Y7 F bx=some r):Pure Ej 83 [E3 bx] (·=Eb r):=by
 unfold Y7 at h
 refine Gy [.tmp 2] Tryz.func83 ø ø (Jr fun c3=>(JLh (Eb ([]:List G8)) (Qu 4 ø ø) ø (G7 (c3 (Jr fun c4=>(JLh (OW 1080 4 G8.av ([]:List G8)) (eP 1080 161 4 ø ø ø) ø (G7 (c4 (Gi ?_)))))))))
 obtain⟨b3,c5,h⟩:=aF h
 refine H7 (fun v (d:(List G8))=>loop b3 v d=some r) (fun v d=>[(0,E3 bx),(3,OW 1080 4 G8.av d)]) (fun v d=>[(1080,.spare 161 4 d.length d.length)]) (fun v=>v) F [] h ⟨(.sm ø ø),⟨⟨_,ø,.same⟩,þ⟩,ø⟩ ?_
 clear h
 intro v d c6 K3 e3
 obtain⟨m3,d7,hm_3,c7,h⟩:=Yu c6
 replace h:=qA c5 h
 refine Gi (Jr fun c8=>(JLh (.ptr 1081 0) (Y4 1081 [I64 0,I64 0,I64 0,I64 0] [E0,E0,E0,E0] iI (zzQ ø) ø ø) ø (G7 (c8 (Jr fun c9=>(JLm (BL false) ø (G7 (c9 (Js fun d0=>Jr fun d1=>(JLm (I64 0) ø (G7 (d1 (Gi ?_)))))))))))))
 obtain⟨b9,z,a0,w,h⟩:=Jg h
 refine H7 (fun e (c:Bool×Int×Int×Int×Int)=>each b9 z (List.drop e bx) e c=some r) (fun e c=>[(0,E3 bx),(3,OW 1080 4 G8.av d),(4,.ptr 1081 0),(5,BL c.1),(6,Ei e)]) (fun e c=>(Mk d c)) (fun e=>bx.length - e) 0 (false,0,0,0,0) h ⟨(.sm ø ø),⟨⟨_,rfl,.same⟩,fbQ ø (.sm ø ø),þ⟩,rfl⟩ ?_
 clear h
 intro e c p d6 c0
 refine Js fun a1=>Jr fun a2=>(JLm (Ei e) ø (JLm (E3 bx) ø (JLl Hz ø ø ø fun c1=>(JLh (BL (decide ((e:Int) < (bx.length:Int)))) (Ht ø ø ø) ø (G7 (a2 (Gm ø (fun hb=>?_) (fun hb=>?_))))))))
 ·
  have q:=Q1 hb
  obtain⟨a,d2,o,a3,h⟩:=J4 p q
  replace h:=Zt a0 h
  refine Gn (a1 ?_)
  obtain⟨a4,x,h⟩:=bE h
  refine Rh (fun j:Bool×Int×Int×Int×Int=>a4 j=some r) (fun j=>[(0,E3 bx),(3,OW 1080 4 G8.av d),(4,.ptr 1081 0),(5,BL j.1),(6,Ei e)]) (fun j=>(Mk d j)) (fun Kj105 ej105=>?_) ?_
  ·
   refine Gi (Js fun a5=>Zh (l':=[(0,E3 bx),(3,OW 1080 4 G8.av d),(4,.ptr 1081 0),(5,BL c.1),(6,Ei e)]) (L':=(Mk d c)) ⟨(.sm ø ø),⟨⟨_,rfl,.same⟩,fbQ ø (.sm ø ø),þ⟩,rfl⟩ ?_)
   refine Jo [11,12] (.replicate 13 0) [1,1,1,1,1,1,1,1,1,1,1,0,0] [(Mk d c),((1082,.box 139 [.junk,.junk])::(Mk d c)),((1082,.box 139 [I64 a.Load,I64 a.Discharge])::((1082,.box 139 [.junk,.junk])::(Mk d c)))] J9 (by kernel_rfl) rfl rfl ?_
   refine G9 (u:=E3 bx) ø ø ⟨Gg (G3 ø ø) ø,Gg (G3 ø ø) ø,þ⟩ (G9 (u:=Ei e) ø ø ⟨Gg (G3 ø ø) ø,Gg (G3 ø ø) ø,þ⟩ (G9 (u:=Ef a) ø ø ⟨Gg (Gs (f:=Box.av) (xs:=bx) (y:=a) ø ø ø Hz o ø) ø,Gg (Gs (f:=Box.av) (xs:=bx) (y:=a) ø ø ø Hz o ø) ø,þ⟩ (G9 (u:=.dptr ((Box.cs a).drop 5)) ø ø ⟨Gg (Gb aD ø ø ø) ø,Gg (Gb aD ø ø ø) ø,þ⟩ (G9 (u:=I64 a.Load) ø ø ⟨Gg (Gj Ga ø ø ø) ø,Gg (Gj Ga ø ø ø) ø,þ⟩ (G9 (u:=E3 bx) ø ø ⟨Gg (G3 ø ø) ø,Gg (G3 ø ø) ø,þ⟩ (G9 (u:=Ei e) ø ø ⟨Gg (G3 ø ø) ø,Gg (G3 ø ø) ø,þ⟩ (G9 (u:=Ef a) ø ø ⟨Gg (Gs (f:=Box.av) (xs:=bx) (y:=a) ø ø ø Hz o ø) ø,Gg (Gs (f:=Box.av) (xs:=bx) (y:=a) ø ø ø Hz o ø) ø,þ⟩ (G9 (u:=.dptr ((Box.cs a).drop 6)) ø ø ⟨Gg (Gb aC ø ø ø) ø,Gg (Gb aC ø ø ø) ø,þ⟩ (G9 (u:=I64 a.Discharge) ø ø ⟨Gg (Gj Ga ø ø ø) ø,Gg (Gj Ga ø ø ø) ø,þ⟩ (G9 (u:=.agg [I64 a.Load,I64 a.Discharge]) ø ø ⟨Gg (Jj (cs:=[I64 a.Load,I64 a.Discharge]) [(0,1),(1,1)] [I64 0,I64 0] [E0,E0] bL cK (zzQ ø) ø ø) ø,Gg (Jj (cs:=[I64 a.Load,I64 a.Discharge]) [(0,1),(1,1)] [I64 0,I64 0] [E0,E0] bL cK (zzQ ø) ø ø) ø,þ⟩ (D_w (u:=.ptr 1082 0) ø ø ø ø (Gg (Q3 1082 2 Z1 ø ø) ø) (G70 (u:=.junk) ø ø ø ø (Gg (Hw (u:=.agg [I64 a.Load,I64 a.Discharge]) (ds:=[I64 a.Load,I64 a.Discharge]) cL ø ø ø ø ø ø ø ø) ø) (Ri ?_)))))))))))))
   refine a5 (fzQ [(0,E3 bx),(3,OW 1080 4 G8.av d),(4,.ptr 1081 0),(5,BL c.1),(6,Ei e),(7,.dptr [I64 a.Load,I64 a.Discharge])] (Mk d c) 1082 rfl rfl rfl ⟨⟨_,rfl,.same⟩,⟨_,rfl,.boxEq rfl rfl⟩,þ⟩ rfl (Js fun a6=>?_))
   refine Zh (l':=[(0,E3 bx),(3,OW 1080 4 G8.av d),(4,.ptr 1081 0),(5,BL c.1),(6,Ei e),(7,.dptr [I64 a.Load,I64 a.Discharge])]) (L':=(Mk d c)) ⟨(.sm ø ø),⟨⟨_,rfl,.same⟩,fbQ ø (.sm ø ø),þ⟩,rfl⟩ ?_
   obtain⟨i,s,h⟩:=Ge h
   obtain⟨g,t,h⟩:=Ge h
   refine Jo [8,9] [0,0,0,0,0,0,0,0,0,0] [1,1,1,1,1,1,1,1,0,0] [(Mk d c),(Mo::(Mk d c)),((1083,.box 161 [I64 a.Load,I64 a.Discharge,I64 i,I64 g])::(Mo::(Mk d c)))] J9 (by kernel_rfl) rfl rfl ?_
   refine G9 (u:=.agg [I64 a.Load,I64 a.Discharge]) ø ø ⟨Gg (Gk Hm ø ø ø) ø,Gg (Gk Hm ø ø ø) ø,þ⟩ (G9 (u:=E3 bx) ø ø ⟨Gg (G3 ø ø) ø,Gg (G3 ø ø) ø,þ⟩ (G9 (u:=.agg [I64 a.Load,I64 a.Discharge]) ø ø ⟨Gg (Gk Hm ø ø ø) ø,Gg (Gk Hm ø ø ø) ø,þ⟩ (G9 (u:=I64 i) ø ø ⟨Gg (Gq ø (Qf bx (G5.mk a.Load a.Discharge) 40 i s) eC ⟨ø,ø,ø,ø,ø,ø,þ⟩) ø,Gg (Gq ø (Qf bx (G5.mk a.Load a.Discharge) 40 i s) eC ⟨ø,ø,ø,ø,ø,ø,þ⟩) ø,þ⟩ (G9 (u:=E3 bx) ø ø ⟨Gg (G3 ø ø) ø,Gg (G3 ø ø) ø,þ⟩ (G9 (u:=.agg [I64 a.Load,I64 a.Discharge]) ø ø ⟨Gg (Gk Hm ø ø ø) ø,Gg (Gk Hm ø ø ø) ø,þ⟩ (G9 (u:=I64 g) ø ø ⟨Gg (Gq ø (Qf bx (G5.mk a.Load a.Discharge) 20 g t) eC ⟨ø,ø,ø,ø,ø,ø,þ⟩) ø,Gg (Gq ø (Qf bx (G5.mk a.Load a.Discharge) 20 g t) eC ⟨ø,ø,ø,ø,ø,ø,þ⟩) ø,þ⟩ (G9 (u:=.agg [I64 a.Load,I64 a.Discharge,I64 i,I64 g]) ø ø ⟨Gg (Jj (cs:=[I64 a.Load,I64 a.Discharge,I64 i,I64 g]) [(0,2),(2,1),(3,1)] [I64 0,I64 0,I64 0,I64 0] [E0,E0,E0,E0] kM iI (zzQ ø) ø ø) ø,Gg (Jj (cs:=[I64 a.Load,I64 a.Discharge,I64 i,I64 g]) [(0,2),(2,1),(3,1)] [I64 0,I64 0,I64 0,I64 0] [E0,E0,E0,E0] kM iI (zzQ ø) ø ø) ø,þ⟩ (D_w (u:=.ptr 1083 0) ø ø ø ø (Gg (Q3 1083 4 eE ø ø) ø) (G70 (u:=.junk) ø ø ø ø (Gg (Hw (u:=.agg [I64 a.Load,I64 a.Discharge,I64 i,I64 g]) (ds:=[I64 a.Load,I64 a.Discharge,I64 i,I64 g]) kV ø ø ø ø ø ø ø ø) ø) (Ri ?_))))))))))
   refine a6 (fzQ [(0,E3 bx),(3,OW 1080 4 G8.av d),(4,.ptr 1081 0),(5,BL c.1),(6,Ei e),(7,.dptr [I64 a.Load,I64 a.Discharge]),(8,.dptr [I64 a.Load,I64 a.Discharge,I64 i,I64 g])] (Mk d c) 1083 rfl rfl rfl ⟨⟨_,rfl,.same⟩,⟨_,rfl,.boxEq rfl rfl⟩,þ⟩ rfl (Js fun a7=>Js fun a8=>?_))
   refine Zh (l':=[(0,E3 bx),(3,OW 1080 4 G8.av d),(4,.ptr 1081 0),(5,BL c.1),(6,Ei e),(7,.dptr [I64 a.Load,I64 a.Discharge]),(8,.dptr [I64 a.Load,I64 a.Discharge,I64 i,I64 g])]) (L':=(Mk d c)) ⟨(.sm ø ø),⟨⟨_,rfl,.same⟩,fbQ ø (.sm ø ø),þ⟩,rfl⟩ ?_
   obtain⟨l,a9,h⟩:=Hd h
   obtain⟨c2,b0,h⟩:=Ge h
   obtain⟨m,b1,h⟩:=Ge h
   obtain⟨k,b2,h⟩:=Ge h
   obtain⟨n,b4,h⟩:=Ge h
   refine JC_d0 J9 (by kernel_rfl) (Dq (.dptr [I64 i,I64 g]) (Gb dL ø ø ø) ø (Dq (I64 i) (Gj Ga ø ø ø) ø (Dq (.dptr [I64 g]) (Gb dK ø ø ø) ø (Dq (I64 g) (Gj Ga ø ø ø) ø (Dq (I64 l) (Hf a9 ø ø ø) ø (Dq (BL (decide (l=0))) (Rk ø ø ø) ø (Dq (BL (decide (l=0))) (G3 ø ø) ø (Do (OW 1080 4 G8.av d) [] ø .scf þ (fun hc=>G3 ø ø) ø (Do (Ei d.length) [41] ø .scf ⟨Ua,þ⟩ (fun hc=>Q4 (f:=G8.av) (xs:=d) Jk ø ø) ø (Do (BL (decide (0 < (d.length:Int)))) [42] ø .scf ⟨Ua,þ⟩ (fun hc=>Ya ø ø ø) ø (Do (BL (decide (0 < (d.length:Int)))) [43] ø .scf ⟨Ua,þ⟩ (fun hc=>G3 ø ø) ø (Do (OW 1080 4 G8.av d) [] ø .optt þ (fun hc=>G3 ø ø) ø (Do (OW 1080 4 G8.av d) [] ø .optt þ (fun hc=>G3 ø ø) ø ?_)))))))))))))
   refine Do (Ei d.length) [46] ø .optt ⟨Ua,þ⟩ (fun hc=>Q4 (f:=G8.av) (xs:=d) Jk ø ø) ø (Do (I64 c2) [47] ø .optt ⟨Ua,þ⟩ (fun hc=>cB (bS (Gw hc b0)) ø ø ø) ø (Do (Eg m) [45,48] ø .optt ⟨Ua,Ua,þ⟩ (fun hc=>(match Qk (Gw hc b1) with | ⟨_,hm_,hy_⟩=>Gs (f:=G8.av) (xs:=d) (y:=m) ø ø ø Jk hy_ hm_)) ø (Do (Eg m) [49] ø .optt ⟨Ua,þ⟩ (fun hc=>Gb dM ø ø ø) ø (Do (.agg [I64 m.G5.Load,I64 m.G5.Discharge]) [50] ø .optt ⟨Ua,þ⟩ (fun hc=>Gk Hm ø ø ø) ø (Do (.agg [I64 a.Load,I64 a.Discharge]) [] ø .optt þ (fun hc=>Gk Hm ø ø ø) ø (Do (BL k) [51,52] ø .optt ⟨Ua,Ua,þ⟩ (fun hc=>Gq (args:=[.agg [I64 m.G5.Load,I64 m.G5.Discharge],.agg [I64 a.Load,I64 a.Discharge]]) ø (iQ m.G5 (G5.mk a.Load a.Discharge) k (Gw hc b2)) HJ ⟨ø,ø,ø,ø,þ⟩) ø (Do (BL (!k)) [53] ø .optt ⟨Ua,þ⟩ (fun hc=>Ym (b:=k) ø ø) ø (Dg (.opt (!(decide (l=0))) (BL ((decide (0 < (d.length:Int)))&&(!k)))) (Gh [(44,BL (decide (0 < (d.length:Int)))),(54,_)] ø ø ø .scf ⟨.all id,.part,þ⟩ (fun hc=>Jf ø ø ø ø) ø) ø (Dq (BL ((decide (l=0))||((decide (0 < (d.length:Int)))&&(!k)))) (aJ ø ø ø ø) ø (Dq (BL ((decide (l=0))||((decide (0 < (d.length:Int)))&&(!k)))) (G3 ø ø) ø (Do (BL c.1) [] ø .scf þ (fun hc=>G3 ø ø) ø (Do (BL c.1) [58] ø .scf ⟨Ua,þ⟩ (fun hc=>G3 ø ø) ø (Do (.agg [I64 a.Load,I64 a.Discharge]) [] ø .optt þ (fun hc=>Gk Hm ø ø ø) ø ?_)))))))))))))
   refine Do (.ptr 1081 0) [] ø .optt þ (fun hc=>Qn dM ø ø) ø (Do (.agg [I64 c.2.1,I64 c.2.2.1]) [61] ø .optt ⟨Ua,þ⟩ (fun hc=>sV Hm ø ø ø ø) ø (Do (BL n) [60,62] ø .optt ⟨Ua,Ua,þ⟩ (fun hc=>Gq (args:=[.agg [I64 a.Load,I64 a.Discharge],.agg [I64 c.2.1,I64 c.2.2.1]]) ø (iQ (G5.mk a.Load a.Discharge) (G5.mk c.2.1 c.2.2.1) n (Gw hc b4)) HJ ⟨ø,ø,ø,ø,þ⟩) ø (Do (BL (!n)) [63] ø .optt ⟨Ua,þ⟩ (fun hc=>Ym (b:=n) ø ø) ø (Dg (.opt (!((decide (l=0))||((decide (0 < (d.length:Int)))&&(!k)))) (BL (c.1&&(!n)))) (Gh [(59,BL c.1),(64,_)] ø ø ø .scf ⟨.all id,.part,þ⟩ (fun hc=>Jf ø ø ø ø) ø) ø (Dq (BL (((decide (l=0))||((decide (0 < (d.length:Int)))&&(!k)))||(c.1&&(!n)))) (aJ ø ø ø ø) ø (Dnil ?_))))))
   refine a8 (JCc ø h (fun h hb=>?_) (fun h hb=>?_))
   ·
    refine H5 (ej105 _ _ (c.1,c.2.1,c.2.2.1,c.2.2.2.1,c.2.2.2.2) h ⟨(.sm ø ø),⟨⟨_,rfl,.same⟩,fbQ ø (.sm ø ø),þ⟩,rfl⟩)
   ·
    refine Gn (a7 (G2 (JLh (.agg [I64 a.Load,I64 a.Discharge,I64 i,I64 g]) (Gk iC ø ø ø) ø (J7 (u:=.junk) (Hw (u:=.agg [I64 a.Load,I64 a.Discharge,I64 i,I64 g]) (ds:=[I64 a.Load,I64 a.Discharge,I64 i,I64 g]) kV ø ø ø ø ø ø ø ø) (JLm (BL true) ø (G7 (ej105 _ _ (true,a.Load,a.Discharge,i,g) h ⟨(.sm ø ø),⟨⟨_,rfl,.same⟩,fbQ ø (.sm ø ø),þ⟩,rfl⟩)))))))
  ·intro j h
   replace h:=app1 x h
   refine G2 (JLm (Ei e) ø (JLh (I64 ((e+1:Nat):Int)) (Hf (Hq q c1) ø ø ø) ø (JLm (I64 ((e+1:Nat):Int)) ø (G7 (c0 _ _ (e+1) (j.1,j.2.1,j.2.2.1,j.2.2.2.1,j.2.2.2.2) (app1 a3 h) (by omega) ⟨(.sm ø ø),⟨⟨_,rfl,.same⟩,fbQ ø (.sm ø ø),þ⟩,rfl⟩)))))
 ·
  have h:=app1 w (J5 p (Hg hb))
  refine H5 (d0 (Js fun b5=>Jr fun b6=>(JLm (BL c.1) ø (JLh (BL (!c.1)) (Ym (b:=c.1) ø ø) ø (G7 (b6 (fzQ [(0,E3 bx),(3,OW 1080 4 G8.av d),(4,.dptr (Mn c)),(69,BL (!c.1))] [(1080,.spare 161 4 d.length d.length)] 1081 rfl rfl rfl ⟨⟨_,rfl,.same⟩,þ⟩ rfl (JCc ø h (fun h hb=>?_) (fun h hb=>?_)))))))))
  ·
   refine Jr fun b7=>(JLm (OW 1080 4 G8.av d) ø (JLm (OW 1080 4 G8.av d) ø (G7 (b7 (Gt (fin1l (fun r:(List G8)=>(Eb r:AV)) h))))))
  ·
   refine Gn (b5 (G2 (JLm (OW 1080 4 G8.av d) ø (JLh (.agg (Mn c)) (Gk iC ø ø ø) ø (JLh (Eb (Mm c)) (Hn (xs:=[.agg (Mn c)]) ø ⟨ø,ø,þ⟩ Jk eE ø ø ø ø) ø ?_)))))
   obtain⟨b8,h⟩:=J2 h
   refine JLh (OW 1080 4 G8.av (d++(Mm c))) (R3 (f:=G8.av) (xs:=d) (ys:=(Mm c)) ø ø ø ø Jk pJ b8 (fun _=>ø) (.inl ø) ø) ø (JLm (OW 1080 4 G8.av (d++(Mm c))) ø (G7 (e3 _ _ m3 (d++(Mm c)) (app1 c7 h) (by omega) ⟨(.sm ø ø),⟨⟨_,rfl,.same⟩,þ⟩,rfl⟩)))

def aX (self_:(List G8)→Int→G5→Bool→Option ((List G5)×Int)) (F:Nat) (on:List G8) (from_:Int) (last:G5) (some_:Bool):Option ((List G5)×Int):=
 loop (fun g (a:(List G5)×Int×Int)=>
  bif decide (a.2.2 < (on.length:Int)) then
  (jp (fun c=>
    Jx on a.2.2 fun b=>
    bif (some_&&((decide (b.G5.Load≤last.Load))||(decide (b.G5.Discharge≤last.Discharge)))) then
    (c (a.1,a.2.1))
    else
    (chk (a.2.2+1) fun h=>
     bnd (self_ on h b.G5 true) fun d=>
     Jx on a.2.2 fun i=>
     chk (2*i.Whole) fun j=>
     chk (d.2+j) fun k=>
     Jx on a.2.2 fun l=>
     chk (k+l.Half) fun e=>
     bif decide (a.2.1 < e) then
     (need (decide (([b.G5].length+d.1.length)*16≤140737488355328∧[b.G5].length+d.1.length≤maxLen)) <|
      c (([b.G5]++d.1),e))
     else
     (c (a.1,a.2.1)))) fun(f:(List G5)×Int)=>
   chk (a.2.2+1) fun m=>
   g (f.1,f.2,m))
  else
  (some (a.1,a.2.1))) F ([],0,from_)
def Y6:Nat→(List G8)→Int→G5→Bool→Option ((List G5)×Int)
 | 0,_,_,_,_=>none
 | F+1,on,from_,last,some_=>aX (Y6 F) F on from_ last some_
theorem pG (self_:(List G8)→Int→G5→Bool→Option ((List G5)×Int)) (self_w:∀ (on:List G8) (from_:Int) (last:G5) (some_:Bool) (r:(List G5)×Int),self_ on from_ last some_=some r→Pure Ej 84 [Eb on,I64 from_,.agg [I64 last.Load,I64 last.Discharge],BL some_] (·=.tup [E2 r.1,I64 r.2])) (F:Nat) (on:List G8) (from_:Int) (last:G5) (some_:Bool) (r:(List G5)×Int) (h:aX self_ F on from_ last some_=some r):Pure Ej 84 [Eb on,I64 from_,.agg [I64 last.Load,I64 last.Discharge],BL some_] (·=.tup [E2 r.1,I64 r.2]):=by
 unfold aX at h
 refine Gy [.tmp 8,.tmp 9] Tryz.func84 ø ø (Jr fun b6=>(JLh (.ptr 1084 0) (Qr (cs:=[I64 last.Load,I64 last.Discharge]) 1084 ø ø ø ø ø) ø (JLh (E2 ([]:List G5)) (Qu 2 ø ø) ø (JLm (I64 0) ø (G7 (b6 (fzQ [(0,Eb on),(1,I64 from_),(3,BL some_),(6,.dptr [I64 last.Load,I64 last.Discharge])] [] 1084 rfl rfl rfl þ rfl (Jr fun b7=>(JLh (E2 ([]:List G5)) (Qu 2 ø ø) ø (G7 (b7 (Jr fun b8=>(JLm (I64 0) ø (G7 (b8 (Js fun b9=>Jr fun c0=>(JLm (I64 from_) ø (JLm (I64 from_) ø (G7 (c0 (Gi ?_)))))))))))))))))))))
 obtain⟨c1,n,h⟩:=aF h
 refine H7 (fun g (b:(List G5)×Int×Int)=>loop c1 g b=some r) (fun g b=>[(0,Eb on),(3,BL some_),(6,.dptr [I64 last.Load,I64 last.Discharge]),(10,E2 b.1),(11,I64 b.2.1),(12,I64 b.2.2)]) (fun g b=>[]) (fun g=>g) F ([],0,from_) h ⟨(.sm ø ø),þ,rfl⟩ ?_
 clear h
 intro g b o c8 c2
 obtain⟨c3,c6,hm_49,p,h⟩:=Yu o
 replace h:=qA n h
 refine Js fun q=>Jr fun s=>(JLm (I64 b.2.2) ø (JLm (Eb on) ø (JLl Jk ø ø ø fun c7=>(JLh (BL (decide (b.2.2 < (on.length:Int)))) (Ht ø ø ø) ø (G7 (s (JCc ø h (fun h hb=>?_) (fun h hb=>?_))))))))
 ·
  refine Gn (q ?_)
  obtain⟨t,l,h⟩:=bE h
  refine Rh (fun d:(List G5)×Int=>t d=some r) (fun d=>[(0,Eb on),(3,BL some_),(6,.dptr [I64 last.Load,I64 last.Discharge]),(10,E2 d.1),(11,I64 d.2),(12,I64 b.2.2)]) (fun d=>[]) (fun Kj52 ej52=>?_) ?_
  ·
   refine Gi (Jr fun v=>(JLm (Eb on) ø (JLm (I64 b.2.2) ø ?_)))
   obtain⟨c9,a,w,x,h⟩:=Q8 h
   refine JLh (Eg a) (Gs (f:=G8.av) (xs:=on) (y:=a) ø ø ø Jk x w) ø (JLh (Eg a) (Gb dM ø ø ø) ø (JLh (.agg [I64 a.G5.Load,I64 a.G5.Discharge]) (Gk Hm ø ø ø) ø (JLh (.ptr 1085 0) (Q3 1085 2 Z1 ø ø) ø (J7 (u:=.junk) (Hw (u:=.agg [I64 a.G5.Load,I64 a.G5.Discharge]) (ds:=[I64 a.G5.Load,I64 a.G5.Discharge]) cL ø ø ø ø ø ø ø ø) (G7 (v (fzQ [(0,Eb on),(3,BL some_),(6,.dptr [I64 last.Load,I64 last.Discharge]),(10,E2 b.1),(11,I64 b.2.1),(12,I64 b.2.2),(13,.dptr [I64 a.G5.Load,I64 a.G5.Discharge])] [] 1085 rfl rfl rfl þ rfl (Js fun z=>?_))))))))
   refine Jr fun a0=>(JLm (BL some_) ø (JLm (BL some_) ø (JLo (.dptr [I64 a.G5.Load,I64 a.G5.Discharge]) [] ø .sct þ (fun hc=>Gb Jm ø ø ø) ø (JLo (I64 a.G5.Load) [30] ø .sct ⟨Ua,þ⟩ (fun hc=>Gj Ga ø ø ø) ø (JLo (.dptr [I64 last.Load,I64 last.Discharge]) [] ø .sct þ (fun hc=>Gb Jm ø ø ø) ø (JLo (I64 last.Load) [32] ø .sct ⟨Ua,þ⟩ (fun hc=>Gj Ga ø ø ø) ø (JLo (BL (decide (a.G5.Load≤last.Load))) [31,33] ø .sct ⟨Ua,Ua,þ⟩ (fun hc=>oO ø ø ø) ø (JLo (BL (decide (a.G5.Load≤last.Load))) [34] ø .sct ⟨Ua,þ⟩ (fun hc=>G3 ø ø) ø (JLo (.dptr [I64 a.G5.Discharge]) [] ø .optf þ (fun hc=>Gb Jv ø ø ø) ø (JLo (I64 a.G5.Discharge) [36] ø .optf ⟨Ua,þ⟩ (fun hc=>Gj Ga ø ø ø) ø (JLo (.dptr [I64 last.Discharge]) [] ø .optf þ (fun hc=>Gb Jv ø ø ø) ø (JLo (I64 last.Discharge) [38] ø .optf ⟨Ua,þ⟩ (fun hc=>Gj Ga ø ø ø) ø (JLo (BL (decide (a.G5.Discharge≤last.Discharge))) [37,39] ø .optf ⟨Ua,Ua,þ⟩ (fun hc=>oO ø ø ø) ø ?_)))))))))))))
   refine Gd (u:=BL ((decide (a.G5.Load≤last.Load))||(decide (a.G5.Discharge≤last.Discharge)))) [(35,BL (decide (a.G5.Load≤last.Load))),(40,_)] ø ø ø .sct ⟨.all id,.part,þ⟩ (fun hc=>aJ ø ø ø ø) ?_
   refine JLh (BL (some_&&((decide (a.G5.Load≤last.Load))||(decide (a.G5.Discharge≤last.Discharge))))) (Jf ø ø ø ø) ø (G7 (a0 (JCc ø h (fun h hb=>?_) (fun h hb=>?_))))
   ·
    refine H5 (ej52 _ _ (b.1,b.2.1) h ⟨(.sm ø ø),þ,rfl⟩)
   ·
    refine Gn (z (Jr fun a1=>(JLm (Eb on) ø (JLm (I64 b.2.2) ø ?_))))
    obtain⟨m,a2,h⟩:=Hd h
    refine JLh (I64 m) (Hf a2 ø ø ø) ø (JLh (.agg [I64 a.G5.Load,I64 a.G5.Discharge]) (Gk Hm ø ø ø) ø ?_)
    obtain⟨c,a3,h⟩:=Ge h
    refine JLh (.tup [E2 c.1,I64 c.2]) (Gq ø (self_w on m a.G5 true c a3) RI ⟨ø,ø,ø,ø,ø,ø,ø,ø,þ⟩) ø (JLm (.tup [E2 c.1,I64 c.2]) ø (JLh (E2 c.1) (Hu ø ø ø) ø (JLh (I64 c.2) (Hu ø ø ø) ø (JLm (E2 c.1) ø (JLm (I64 c.2) ø (G7 (a1 (Js fun a4=>?_))))))))
    obtain⟨d0,i,a5,a6,h⟩:=Q8 h
    obtain⟨c4,a7,h⟩:=Hd h
    obtain⟨c5,a8,h⟩:=Hd h
    obtain⟨d1,j,a9,b0,h⟩:=Q8 h
    obtain⟨e,b1,h⟩:=Hd h
    refine JC_d0 J9 (by kernel_rfl) (Dq (I64 c.2) (G3 ø ø) ø (Dq (Eb on) (G3 ø ø) ø (Dq (I64 b.2.2) (G3 ø ø) ø (Dq (Eg i) (Gs (f:=G8.av) (xs:=on) (y:=i) ø ø ø Jk a6 a5) ø (Dq (.dptr [I64 i.Whole,I64 i.Half]) (Gb dL ø ø ø) ø (Dq (I64 i.Whole) (Gj Ga ø ø ø) ø (Dq (I64 c4) (fF a7 ø ø ø) ø (Dq (I64 c5) (Hf a8 ø ø ø) ø (Dq (Eb on) (G3 ø ø) ø (Dq (I64 b.2.2) (G3 ø ø) ø (Dq (Eg j) (Gs (f:=G8.av) (xs:=on) (y:=j) ø ø ø Jk b0 a9) ø (Dq (.dptr [I64 j.Half]) (Gb dK ø ø ø) ø (Dq (I64 j.Half) (Gj Ga ø ø ø) ø (Dq (I64 e) (Hf b1 ø ø ø) ø (Dq (I64 e) (G6 ø ø) ø (Dnil (a4 ?_)))))))))))))))))
    refine Jr fun b2=>(JLm (I64 e) ø (JLm (I64 b.2.1) ø (JLh (BL (decide (b.2.1 < e))) (Ya ø ø ø) ø (G7 (b2 (JCc ø h (fun h hb=>?_) (fun h hb=>?_)))))))
    ·
     refine G2 (JLh (.agg [I64 a.G5.Load,I64 a.G5.Discharge]) (Gk Hm ø ø ø) ø (JLh (OW 850000069 2 G5.av [a.G5]) (H49 850000069 (f:=G5.av) [a.G5] ø ⟨ø,ø,þ⟩ Hx Z1 ø ø ø ø ø) ø (JLm (E2 c.1) ø ?_)))
     obtain⟨b3,h⟩:=J2 h
     refine JLh (OW 850000069 2 G5.av ([a.G5]++c.1)) (nC (f:=G5.av) (xs:=[a.G5]) (ys:=c.1) ø ø ø ø Hx HC b3 (fun _=>ø) (.inl ø)) ø (JLm (I64 e) ø (JLm (OW 850000069 2 G5.av ([a.G5]++c.1)) ø (JLm (I64 e) ø (G7 (ej52 _ _ (([a.G5]++c.1),e) h ⟨⟨.same ø,.same ø,.same ø,.list ø,.same ø,.same ø,þ⟩,þ,ø⟩)))))
    ·
     refine Gn (ej52 _ _ (b.1,b.2.1) h ⟨(.sm ø ø),þ,rfl⟩)
  ·intro d h
   replace h:=app1 l h
   refine G2 (JLm (I64 b.2.2) ø ?_)
   obtain⟨k,b4,h⟩:=Hd h
   refine JLh (I64 k) (Hf b4 ø ø ø) ø (JLm (I64 k) ø (G7 (c2 _ _ c3 (d.1,d.2,k) (app1 p h) (by omega) ⟨(.sm ø ø),þ,rfl⟩)))
 ·
  refine H5 (b9 (Jr fun b5=>(JLm (E2 b.1) ø (JLm (I64 b.2.1) ø (JLm (E2 b.1) ø (JLm (I64 b.2.1) ø (G7 (b5 (Gt (⟨[E2 b.1,I64 b.2.1],[],þ,ø,⟨⟨_,ø,.conv (.same ø)⟩,⟨_,ø,.conv (.same ø)⟩,þ⟩,ø,congrArg (fun r:(List G5)×Int=>(.tup [E2 r.1,I64 r.2]:AV)) (Nv h)⟩))))))))))
theorem oR:∀ (F:Nat) (on:List G8) (from_:Int) (last:G5) (some_:Bool) (r:(List G5)×Int) (h:Y6 F on from_ last some_=some r),Pure Ej 84 [Eb on,I64 from_,.agg [I64 last.Load,I64 last.Discharge],BL some_] (·=.tup [E2 r.1,I64 r.2]):=by
 intro F
 induction F with
 | zero=>intro on from_ last some_ r h; cases h
 | succ F ih=>intro on from_ last some_ r h; exact pG (Y6 F) ih F on from_ last some_ r h

def Zn (bx:List Box) (g:G5):Option (G8×Bool):=
 bnd (Q6 bx g 40) fun a=>
 bnd (Q6 bx g 20) fun b=>
 chk (a+b) fun c=>
 some ((G8.mk g a b),decide (0 < c))
abbrev Mp:Loc:=[(1135,.box 161 [I64 0,I64 0,I64 0,I64 0])]
abbrev Mq (g:G5) (a:Int) (b:Int):List AV:=[I64 g.Load,I64 g.Discharge,I64 a,I64 b]
abbrev Mr:Nat×Jn:=(1136,.box 161 [.junk,.junk,.junk,.junk])
theorem qF (bx:List Box) (g:G5) (r:G8×Bool) (h:Zn bx g=some r):Pure Ej 179 [E3 bx,.agg [I64 g.Load,I64 g.Discharge]] (·=.tup [.agg (G8.cs r.1),BL r.2]):=by
 unfold Zn at h
 refine Gy [.cell 4 161,.tmp 5] Tryz.func179 ø ø (Jr fun i=>(JLh (.ptr 1134 0) (Qr (cs:=(Mi g)) 1134 ø ø ø ø ø) ø (JLh (.ptr 1135 0) (Y4 1135 [I64 0,I64 0,I64 0,I64 0] [E0,E0,E0,E0] iI (zzQ ø) ø ø) ø (JLm (BL false) ø (G7 (i (H1 [(0,E3 bx),(3,.dptr (Mi g)),(4,.ptr 1135 0)] Mp 1134 rfl rfl rfl ⟨⟨_,rfl,.boxEq rfl rfl⟩,þ⟩ rfl (by exact⟨.conv (.same rfl),.ptr,.conv (.same rfl),þ⟩) (Js fun j=>?_))))))))
 refine Zh (l':=[(0,E3 bx),(3,.dptr (Mi g)),(4,.ptr 1135 0)]) (L':=Mp) ⟨(.sm ø ø),⟨fbQ ø (.sm ø ø),þ⟩,rfl⟩ ?_
 obtain⟨b,d,h⟩:=Ge h
 obtain⟨a,e,h⟩:=Ge h
 refine Jo [8,9] [0,0,0,0,0,0,0,0,0,0] [1,1,1,1,1,1,1,1,0,0] [Mp,(Mr::Mp),((1136,.box 161 (Mq g b a))::(Mr::Mp))] J9 (by kernel_rfl) rfl rfl ?_
 refine G9 (u:=.agg (Mi g)) ø ø ⟨Gg (Gk Hm ø ø ø) ø,Gg (Gk Hm ø ø ø) ø,þ⟩ (G9 (u:=E3 bx) ø ø ⟨Gg (G3 ø ø) ø,Gg (G3 ø ø) ø,þ⟩ (G9 (u:=.agg (Mi g)) ø ø ⟨Gg (Gk Hm ø ø ø) ø,Gg (Gk Hm ø ø ø) ø,þ⟩ (G9 (u:=I64 b) ø ø ⟨Gg (Gq ø (Qf bx g 40 b d) eC ⟨ø,ø,ø,ø,ø,ø,þ⟩) ø,Gg (Gq ø (Qf bx g 40 b d) eC ⟨ø,ø,ø,ø,ø,ø,þ⟩) ø,þ⟩ (G9 (u:=E3 bx) ø ø ⟨Gg (G3 ø ø) ø,Gg (G3 ø ø) ø,þ⟩ (G9 (u:=.agg (Mi g)) ø ø ⟨Gg (Gk Hm ø ø ø) ø,Gg (Gk Hm ø ø ø) ø,þ⟩ (G9 (u:=I64 a) ø ø ⟨Gg (Gq ø (Qf bx g 20 a e) eC ⟨ø,ø,ø,ø,ø,ø,þ⟩) ø,Gg (Gq ø (Qf bx g 20 a e) eC ⟨ø,ø,ø,ø,ø,ø,þ⟩) ø,þ⟩ (G9 (u:=.agg (Mq g b a)) ø ø ⟨Gg (Jj (cs:=(Mq g b a)) [(0,2),(2,1),(3,1)] [I64 0,I64 0,I64 0,I64 0] [E0,E0,E0,E0] kM iI (zzQ ø) ø ø) ø,Gg (Jj (cs:=(Mq g b a)) [(0,2),(2,1),(3,1)] [I64 0,I64 0,I64 0,I64 0] [E0,E0,E0,E0] kM iI (zzQ ø) ø ø) ø,þ⟩ (D_w (u:=.ptr 1136 0) ø ø ø ø (Gg (Q3 1136 4 eE ø ø) ø) (G70 (u:=.junk) ø ø ø ø (Gg (Hw (u:=.agg (Mq g b a)) (ds:=(Mq g b a)) kV ø ø ø ø ø ø ø ø) ø) (Ri ?_))))))))))
 refine j (H1 [(4,.ptr 1135 0),(6,.dptr (Mq g b a))] Mp 1136 rfl rfl rfl ⟨⟨_,rfl,.boxEq rfl rfl⟩,þ⟩ rfl (by exact⟨.conv (.same rfl),.ptr,þ⟩) (Js fun k=>Zh (l':=[(4,.ptr 1135 0),(6,.dptr (Mq g b a))]) (L':=Mp) ⟨(.sm ø ø),⟨fbQ ø (.sm ø ø),þ⟩,rfl⟩ ?_))
 obtain⟨c,f,h⟩:=Hd h
 refine Jo [7] [0,0,0,0,0,0,0,0,1] [0,1,1,1,1,1,1,0,1] [Mp,((1135,.box 161 (Mq g b a))::Mp)] J9 (by kernel_rfl) rfl rfl ?_
 refine G9 (u:=.agg (Mq g b a)) ø ø ⟨Gg (Gk iC ø ø ø) ø,þ⟩ (G9 (u:=.dptr [I64 b,I64 a]) ø ø ⟨Gg (Gb dL ø ø ø) ø,Gg (Gb dL ø ø ø) ø,þ⟩ (G9 (u:=I64 b) ø ø ⟨Gg (Gj Ga ø ø ø) ø,Gg (Gj Ga ø ø ø) ø,þ⟩ (G9 (u:=.dptr [I64 a]) ø ø ⟨Gg (Gb dK ø ø ø) ø,Gg (Gb dK ø ø ø) ø,þ⟩ (G9 (u:=I64 a) ø ø ⟨Gg (Gj Ga ø ø ø) ø,Gg (Gj Ga ø ø ø) ø,þ⟩ (G9 (u:=I64 c) ø ø ⟨Gg (Hf f ø ø ø) ø,Gg (Hf f ø ø ø) ø,þ⟩ (G9 (u:=BL (decide (0 < c))) ø ø ⟨Gg (Ya ø ø ø) ø,Gg (Ya ø ø ø) ø,þ⟩ (G70 (u:=.junk) ø ø ø ø (Gg (Hw (u:=.agg (Mq g b a)) (ds:=(Mq g b a)) kV ø ø ø ø ø ø ø ø) ø) (G9 (u:=BL (decide (0 < c))) ø ø ⟨Gg (G6 ø ø) ø,þ⟩ (Ri ?_)))))))))
 refine k (Gt (⟨[.agg (Mq g b a),BL (decide (0 < c))],[],þ,ø,⟨⟨_,⟨_,_,_,_,ø,ø,ø,.inl ⟨iC,ø⟩⟩,.conv (.same ø)⟩,⟨_,ø,.conv (.same ø)⟩,þ⟩,ø,congrArg (fun r:G8×Bool=>(.tup [.agg (G8.cs r.1),BL r.2]:AV)) (Nv h)⟩))

def bG (a:G5) (b:G5):Option Bool:=
 some (((decide (a.Load < b.Load))&&(decide (b.Load < a.Discharge)))&&(decide (a.Discharge < b.Discharge)))
abbrev Ms (a:G5) (b:G5):Bool:=((decide (a.Load < b.Load))&&(decide (b.Load < a.Discharge)))
theorem qG (a:G5) (b:G5) (r:Bool) (h:bG a b=some r):Pure Ej 180 [.agg [I64 a.Load,I64 a.Discharge],.agg [I64 b.Load,I64 b.Discharge]] (·=BL r):=by
 unfold bG at h
 refine Gy [.tmp 4] Tryz.func180 ø ø (Jr fun c=>(JLh (.ptr 1137 0) (Qr (cs:=(Mi a)) 1137 ø ø ø ø ø) ø (JLh (.ptr 1138 0) (Qr (cs:=(Mi b)) 1138 ø ø ø ø ø) ø (JLm (BL false) ø (G7 (c (H1 [(2,.dptr (Mi a)),(3,.ptr 1138 0)] [(1138,.box 139 (Mi b))] 1137 rfl rfl rfl ⟨⟨_,rfl,.boxEq rfl rfl⟩,þ⟩ rfl (by exact⟨.ptr,.conv (.same rfl),þ⟩) (H1 [(2,.dptr (Mi a)),(3,.dptr (Mi b))] [] 1138 rfl rfl rfl þ rfl (by exact⟨.conv (.same rfl),.ptr,þ⟩) ?_))))))))
 refine Jr fun d=>(JLh (.dptr (Mi a)) (Gb Jm ø ø ø) ø (JLh (I64 a.Load) (Gj Ga ø ø ø) ø (JLh (.dptr (Mi b)) (Gb Jm ø ø ø) ø (JLh (I64 b.Load) (Gj Ga ø ø ø) ø (JLh (BL (decide (a.Load < b.Load))) (Ht ø ø ø) ø (JLm (BL (decide (a.Load < b.Load))) ø (JLo (.dptr (Mi b)) [] ø .sct þ (fun hc=>Gb Jm ø ø ø) ø (JLo (I64 b.Load) [11] ø .sct ⟨Ua,þ⟩ (fun hc=>Gj Ga ø ø ø) ø (JLo (.dptr [I64 a.Discharge]) [] ø .sct þ (fun hc=>Gb Jv ø ø ø) ø (JLo (I64 a.Discharge) [13] ø .sct ⟨Ua,þ⟩ (fun hc=>Gj Ga ø ø ø) ø (JLo (BL (decide (b.Load < a.Discharge))) [12,14] ø .sct ⟨Ua,Ua,þ⟩ (fun hc=>Ht ø ø ø) ø (JLh (BL (Ms a b)) (Jf ø ø ø ø) ø (JLm (BL (Ms a b)) ø ?_)))))))))))))
 refine JLo (.dptr [I64 a.Discharge]) [] ø .sct þ (fun hc=>Gb Jv ø ø ø) ø (JLo (I64 a.Discharge) [18] ø .sct ⟨Ua,þ⟩ (fun hc=>Gj Ga ø ø ø) ø (JLo (.dptr [I64 b.Discharge]) [] ø .sct þ (fun hc=>Gb Jv ø ø ø) ø (JLo (I64 b.Discharge) [20] ø .sct ⟨Ua,þ⟩ (fun hc=>Gj Ga ø ø ø) ø (JLo (BL (decide (a.Discharge < b.Discharge))) [19,21] ø .sct ⟨Ua,Ua,þ⟩ (fun hc=>Ht ø ø ø) ø (JLh (BL ((Ms a b)&&(decide (a.Discharge < b.Discharge)))) (Jf ø ø ø ø) ø (JLm (BL ((Ms a b)&&(decide (a.Discharge < b.Discharge)))) ø (G7 (d (Gt (fin1 BL h))))))))))

def aG (s:H2):Option Int:=
 each (fun c e (a:Int) d=>
  jp (fun b=>
   bif ((decide ((e:Int)=0))||(decide (a < c.Tiers))) then
   (b c.Tiers)
   else
   (b a)) fun(f:Int)=>
  d f)
 (fun(a:Int)=>
  some a) s.Columns 0 0
theorem oD (s:H2) (r:Int) (h:aG s=some r):Pure Ej 182 [.agg (H2.cs s)] (·=I64 r):=by
 unfold aG at h
 refine Gy [.tmp 2] Tryz.func182 ø ø (Jr fun v=>(JLh (.ptr 1139 0) (Qr (cs:=(H2.cs s)) 1139 ø ø ø ø ø) ø (JLm (I64 0) ø (G7 (v (H1 [(1,Ec s)] [] 1139 rfl rfl rfl þ rfl (by exact⟨.ptr,þ⟩) (Jr fun w=>(JLm (I64 0) ø (G7 (w (Js fun x=>Jr fun z=>(JLm (I64 0) ø (G7 (z (Gi ?_)))))))))))))))
 obtain⟨a0,l,m,j,h⟩:=Jg h
 refine H7 (fun a (c:Int)=>each a0 l (List.drop a s.Columns) a c=some r) (fun a c=>[(1,Ec s),(3,I64 c),(4,Ei a)]) (fun a c=>[]) (fun a=>s.Columns.length - a) 0 0 h ⟨(.sm ø ø),þ,ø⟩ ?_
 clear h
 intro a c e a4 a1
 refine Js fun n=>Jr fun o=>(JLm (Ei a) ø (JLh (Ec s) (Gb J1 ø ø ø) ø (JLh (E5 s.Columns) (Gj Jd ø ø ø) ø (JLl Ha ø ø ø fun a2=>(JLh (BL (decide ((a:Int) < (s.Columns.length:Int)))) (Ht ø ø ø) ø (G7 (o (Gm ø (fun hb=>?_) (fun hb=>?_)))))))))
 ·
  have g:=Q1 hb
  obtain⟨b,a3,i,p,h⟩:=J4 e g
  replace h:=Zt m h
  refine Gn (n ?_)
  obtain⟨q,k,h⟩:=bE h
  refine Rh (fun d:Int=>q d=some r) (fun d=>[(1,Ec s),(3,I64 d),(4,Ei a)]) (fun d=>[]) (fun Kj21 ej21=>?_) ?_
  ·
   refine Gi ?_
   refine Jr fun t=>(JLm (Ei a) ø (JLh (BL (decide ((a:Int)=0))) (Rk ø ø ø) ø (JLm (BL (decide ((a:Int)=0))) ø (JLo (Ec s) [] ø .scf þ (fun hc=>Gb J1 ø ø ø) ø (JLo (E5 s.Columns) [15] ø .scf ⟨Ua,þ⟩ (fun hc=>Gj Jd ø ø ø) ø (JLo (Ei a) [] ø .scf þ (fun hc=>G3 ø ø) ø (JLo (Ee b) [16,17] ø .scf ⟨Ua,Ua,þ⟩ (fun hc=>Gs (f:=Gc.av) (xs:=s.Columns) (y:=b) ø ø ø Ha i ø) ø (JLo (.dptr ((Gc.cs b).drop 3)) [18] ø .scf ⟨Ua,þ⟩ (fun hc=>Gb Zj ø ø ø) ø (JLo (I64 b.Tiers) [19] ø .scf ⟨Ua,þ⟩ (fun hc=>Gj Ga ø ø ø) ø (JLo (I64 c) [] ø .scf þ (fun hc=>G3 ø ø) ø (JLo (BL (decide (c < b.Tiers))) [20,21] ø .scf ⟨Ua,Ua,þ⟩ (fun hc=>Ya ø ø ø) ø (JLh (BL ((decide ((a:Int)=0))||(decide (c < b.Tiers)))) (aJ ø ø ø ø) ø (G7 (t ?_))))))))))))))
   refine JCc ø h ?_ ?_<;>intro h hb
   ·
    refine G2 (JLh (Ec s) (Gb J1 ø ø ø) ø (JLh (E5 s.Columns) (Gj Jd ø ø ø) ø (JLm (Ei a) ø (JLh (Ee b) (Gs (f:=Gc.av) (xs:=s.Columns) (y:=b) ø ø ø Ha i ø) ø (JLh (.dptr ((Gc.cs b).drop 3)) (Gb Zj ø ø ø) ø (JLh (I64 b.Tiers) (Gj Ga ø ø ø) ø (JLm (I64 b.Tiers) ø (G7 (ej21 _ _ b.Tiers h ⟨(.sm ø ø),þ,ø⟩)))))))))
   ·
    refine Gn (ej21 _ _ c h ⟨(.sm ø ø),þ,ø⟩)
  ·intro d h
   replace h:=app1 k h
   refine G2 (JLm (Ei a) ø (JLh (I64 ((a+1:Nat):Int)) (Hf (Hq g a2) ø ø ø) ø (JLm (I64 ((a+1:Nat):Int)) ø (G7 (a1 _ _ (a+1) d (app1 p h) (by omega) ⟨(.sm ø ø),þ,rfl⟩)))))
 ·
  have h:=app1 j (J5 e (Hg hb))
  refine H5 (x (Jr fun u=>(JLm (I64 c) ø (JLm (I64 c) ø (G7 (u (Gt (fin1 I64 h))))))))

def Zw (F:Nat) (tiers:Int) (whole:Int) (half:Int):Option Int:=
 loop (fun c (a:Int)=>
  bnd (RW a 2) fun e=>
  chk (e*tiers) fun f=>
  bif decide (f < whole) then
  (chk (a+2) fun g=>
   c g)
  else
  (loop (fun d (b:Int)=>
    chk (b*tiers) fun h=>
    chk (2*whole) fun i=>
    chk (i+half) fun j=>
    bif decide (h < j) then
    (chk (b+1) fun k=>
     d k)
    else
    (bif decide (b < a) then
     (some a)
     else
     (some b))) F 0)) F 0
theorem qT (F:Nat) (tiers:Int) (whole:Int) (half:Int) (r:Int) (h:Zw F tiers whole half=some r):Pure Ej 221 [I64 tiers,I64 whole,I64 half] (·=I64 r):=by
 unfold Zw at h
 refine Gy [.tmp 6] Tryz.func221 ø ø (Jr fun a8=>(JLm (I64 0) ø (G7 (a8 (Jr fun a9=>(JLm (I64 0) ø (G7 (a9 (Js fun b0=>Gi ?_)))))))))
 obtain⟨b1,l,h⟩:=aF h
 refine H7 (fun c (a:Int)=>loop b1 c a=some r) (fun c a=>[(0,I64 tiers),(1,I64 whole),(2,I64 half),(7,I64 a)]) (fun c a=>[]) (fun c=>c) F 0 h ⟨(.sm ø ø),þ,rfl⟩ ?_
 clear h
 intro c a m c1 b2
 obtain⟨b3,b9,hm_12,n,h⟩:=Yu m
 replace h:=qA l h
 refine Js fun o=>Jr fun p=>(JLm (I64 a) ø ?_)
 obtain⟨b4,e,h⟩:=Ge h
 refine JLh (I64 b4) (He1 (mY e).1 (mY e).2 ø ø ø) ø (JLm (I64 tiers) ø ?_)
 obtain⟨i,q,h⟩:=Hd h
 refine JLh (I64 i) (fF q ø ø ø) ø (JLm (I64 whole) ø (JLh (BL (decide (i < whole))) (Ht ø ø ø) ø (G7 (p (JCc ø h (fun h hb=>?_) (fun h hb=>?_))))))
 ·
  refine Gn (o (Gi (G2 (JLm (I64 a) ø ?_))))
  obtain⟨f,s,h⟩:=Hd h
  refine JLh (I64 f) (Hf s ø ø ø) ø (JLm (I64 f) ø (G7 (b2 _ _ b3 f (app1 n h) (by omega) ⟨(.sm ø ø),þ,rfl⟩)))
 ·
  refine H5 (b0 (Jr fun t=>(JLm (I64 0) ø (G7 (t (Js fun u=>Gi ?_))))))
  obtain⟨b5,v,h⟩:=aF h
  refine H7 (fun d (b:Int)=>loop b5 d b=some r) (fun d b=>[(0,I64 tiers),(1,I64 whole),(2,I64 half),(7,I64 a),(8,I64 b)]) (fun d b=>[]) (fun d=>d) F 0 h ⟨(.sm ø ø),þ,rfl⟩ ?_
  clear h
  intro d b w c2 b6
  obtain⟨b7,c0,hm_30,x,h⟩:=Yu w
  replace h:=qA v h
  refine Js fun y=>Jr fun z=>(JLm (I64 b) ø (JLm (I64 tiers) ø ?_))
  obtain⟨j,a0,h⟩:=Hd h
  refine JLh (I64 j) (fF a0 ø ø ø) ø (JLm (I64 whole) ø ?_)
  obtain⟨b8,a1,h⟩:=Hd h
  refine JLh (I64 b8) (fF a1 ø ø ø) ø (JLm (I64 half) ø ?_)
  obtain⟨k,a2,h⟩:=Hd h
  refine JLh (I64 k) (Hf a2 ø ø ø) ø (JLh (BL (decide (j < k))) (Ht ø ø ø) ø (G7 (z (JCc ø h (fun h hb=>?_) (fun h hb=>?_)))))
  ·
   refine Gn (y (Gi (G2 (JLm (I64 b) ø ?_))))
   obtain⟨g,a3,h⟩:=Hd h
   refine JLh (I64 g) (Hf a3 ø ø ø) ø (JLm (I64 g) ø (G7 (b6 _ _ b7 g (app1 x h) (by omega) ⟨(.sm ø ø),þ,rfl⟩)))
  ·
   refine H5 (u (Js fun a4=>Jr fun a5=>(JLm (I64 a) ø (JLm (I64 b) ø (JLh (BL (decide (b < a))) (Ya ø ø ø) ø (G7 (a5 (JCc ø h (fun h hb=>?_) (fun h hb=>?_)))))))))
   ·
    refine Jr fun a6=>(JLm (I64 a) ø (JLm (I64 a) ø (G7 (a6 (Gt (fin1 I64 h))))))
   ·
    refine Gn (a4 (Jr fun a7=>(JLm (I64 b) ø (JLm (I64 b) ø (G7 (a7 (Gt (fin1 I64 h))))))))

def Zr (self_:(List G8)→Int→Int→Int→Option Int) (F:Nat) (l:List G8) (at_:Int) (tiers:Int) (halves:Int):Option Int:=
 bif decide (at_=(l.length:Int)) then
 (some 0)
 else
 (loop (fun g (b:Int×Int)=>
   Jx l at_ fun h=>
   bif decide (b.2≤h.Whole) then
   (loop (fun f (a:Int×Int)=>
     Jx l at_ fun i=>
     bif decide (a.2≤i.Half) then
     (jp (fun c=>
       Jx l at_ fun j=>
       chk (j.Whole - b.2) fun k=>
       Jx l at_ fun m=>
       chk (m.Half - a.2) fun n=>
       bnd (Zw F tiers k n) fun d=>
       bnd (bif ((!(decide (halves < d)))&&(decide (0≤a.1))) then chk (b.2+a.2) some else some 0) fun o=>
       bif ((decide (halves < d))||((decide (0≤a.1))&&(decide (a.1≤o)))) then
       (c a.1)
       else
       (chk (b.2+a.2) fun p=>
        chk (at_+1) fun q=>
        chk (halves - d) fun r=>
        bnd (self_ l q tiers r) fun s=>
        chk (p+s) fun e=>
        bif ((decide (a.1 < 0))||(decide (e < a.1))) then
        (c e)
        else
        (c a.1))) fun(t:Int)=>
      chk (a.2+1) fun u=>
      f (t,u))
     else
     (chk (b.2+1) fun v=>
      g (a.1,v))) F (b.1,0))
   else
   (some b.1)) F ((-1),0))
def Qh:Nat→(List G8)→Int→Int→Int→Option Int
 | 0,_,_,_,_=>none
 | F+1,l,at_,tiers,halves=>Zr (Qh F) F l at_ tiers halves
theorem qL (self_:(List G8)→Int→Int→Int→Option Int) (self_w:∀ (l:List G8) (at_:Int) (tiers:Int) (halves:Int) (r:Int),self_ l at_ tiers halves=some r→Pure Ej 181 [Eb l,I64 at_,I64 tiers,I64 halves] (·=I64 r)) (F:Nat) (l:List G8) (at_:Int) (tiers:Int) (halves:Int) (r:Int) (h:Zr self_ F l at_ tiers halves=some r):Pure Ej 181 [Eb l,I64 at_,I64 tiers,I64 halves] (·=I64 r):=by
 unfold Zr at h
 refine Gy [.tmp 8] Tryz.func181 ø ø (Jr fun d5=>(JLm (I64 0) ø (G7 (d5 (Js fun d6=>Jr fun d7=>(JLm (I64 at_) ø (JLm (Eb l) ø (JLl Jk ø ø ø fun f1=>(JLh (BL (decide (at_=(l.length:Int)))) (Rk ø ø ø) ø (G7 (d7 (JCc ø h (fun h hb=>?_) (fun h hb=>?_)))))))))))))
 ·
  refine Jr fun d8=>(JLm (I64 0) ø (G7 (d8 (Gt (fin1 I64 h)))))
 ·
  refine Gn (d6 (Jr fun d9=>(JLm (I64 (-1)) ø (G7 (d9 (Js fun e0=>Jr fun e1=>(JLm (I64 0) ø (G7 (e1 (Gi ?_))))))))))
  obtain⟨b8,e2,h⟩:=aF h
  refine H7 (fun o (b:Int×Int)=>loop b8 o b=some r) (fun o b=>[(0,Eb l),(1,I64 at_),(2,I64 tiers),(3,I64 halves),(9,I64 b.1),(10,I64 b.2)]) (fun o b=>[]) (fun o=>o) F ((-1),0) h ⟨(.sm ø ø),þ,rfl⟩ ?_
  clear h
  intro o b e3 K8 e8
  obtain⟨m8,f6,hm_8,e4,h⟩:=Yu e3
  replace h:=qA e2 h
  refine Js fun e5=>Jr fun a0=>(JLm (I64 b.2) ø (JLm (Eb l) ø (JLm (I64 at_) ø ?_)))
  obtain⟨f7,e,a1,a2,h⟩:=Q8 h
  refine JLh (Eg e) (Gs (f:=G8.av) (xs:=l) (y:=e) ø ø ø Jk a2 a1) ø (JLh (.dptr [I64 e.Whole,I64 e.Half]) (Gb dL ø ø ø) ø (JLh (I64 e.Whole) (Gj Ga ø ø ø) ø (JLh (BL (decide (b.2≤e.Whole))) (oO ø ø ø) ø (G7 (a0 (JCc ø h (fun h hb=>?_) (fun h hb=>?_)))))))
  ·
   refine Gn (e5 (Js fun a3=>Gi (Jr fun a4=>(JLm (I64 0) ø (G7 (a4 (Gi ?_)))))))
   obtain⟨e6,a5,h⟩:=aF h
   refine H7 (fun g (a:Int×Int)=>loop e6 g a=some r) (fun g a=>[(0,Eb l),(1,I64 at_),(2,I64 tiers),(3,I64 halves),(9,I64 a.1),(10,I64 b.2),(11,I64 a.2)]) (fun g a=>[]) (fun g=>g) F (b.1,0) h ⟨(.sm ø ø),þ,rfl⟩ ?_
   clear h
   intro g a a6 f8 e7
   obtain⟨e9,f5,hm_64,a7,h⟩:=Yu a6
   replace h:=qA a5 h
   refine Js fun a8=>Jr fun a9=>(JLm (I64 a.2) ø (JLm (Eb l) ø (JLm (I64 at_) ø ?_)))
   obtain⟨f9,j,b0,b1,h⟩:=Q8 h
   refine JLh (Eg j) (Gs (f:=G8.av) (xs:=l) (y:=j) ø ø ø Jk b1 b0) ø (JLh (.dptr [I64 j.Half]) (Gb dK ø ø ø) ø (JLh (I64 j.Half) (Gj Ga ø ø ø) ø (JLh (BL (decide (a.2≤j.Half))) (oO ø ø ø) ø (G7 (a9 (JCc ø h (fun h hb=>?_) (fun h hb=>?_)))))))
   ·
    refine Gn (a8 ?_)
    obtain⟨b2,v,h⟩:=bE h
    refine Rh (fun i:Int=>b2 i=some r) (fun i=>[(0,Eb l),(1,I64 at_),(2,I64 tiers),(3,I64 halves),(9,I64 i),(10,I64 b.2),(11,I64 a.2)]) (fun i=>[]) (fun Kj69 ej69=>?_) ?_
    ·
     refine Gi (Js fun b3=>?_)
     obtain⟨g0,k,b4,b5,h⟩:=Q8 h
     obtain⟨p,b6,h⟩:=Hd h
     obtain⟨g1,m,b7,b9,h⟩:=Q8 h
     obtain⟨q,c0,h⟩:=Hd h
     obtain⟨c,c1,h⟩:=Ge h
     refine JC_d0 J9 (by kernel_rfl) (Dq (I64 tiers) (G3 ø ø) ø (Dq (Eb l) (G3 ø ø) ø (Dq (I64 at_) (G3 ø ø) ø (Dq (Eg k) (Gs (f:=G8.av) (xs:=l) (y:=k) ø ø ø Jk b5 b4) ø (Dq (.dptr [I64 k.Whole,I64 k.Half]) (Gb dL ø ø ø) ø (Dq (I64 k.Whole) (Gj Ga ø ø ø) ø (Dq (I64 b.2) (G3 ø ø) ø (Dq (I64 p) (cB b6 ø ø ø) ø (Dq (Eb l) (G3 ø ø) ø (Dq (I64 at_) (G3 ø ø) ø (Dq (Eg m) (Gs (f:=G8.av) (xs:=l) (y:=m) ø ø ø Jk b9 b7) ø (Dq (.dptr [I64 m.Half]) (Gb dK ø ø ø) ø (Dq (I64 m.Half) (Gj Ga ø ø ø) ø ?_)))))))))))))
     refine Dq (I64 a.2) (G3 ø ø) ø (Dq (I64 q) (cB c0 ø ø ø) ø (Dq (I64 c) (Gq (args:=[I64 tiers,I64 p,I64 q]) ø (qT F tiers p q c c1) G88 ⟨ø,ø,ø,ø,ø,ø,þ⟩) ø (Dq (I64 c) (G6 ø ø) ø (Dnil (b3 (Js fun c2=>Jr fun c3=>(JLm (I64 c) ø (JLm (I64 halves) ø (JLh (BL (decide (halves < c))) (Ya ø ø ø) ø (JLm (BL (decide (halves < c))) ø (JLo (I64 a.1) [] ø .scf þ (fun hc=>G3 ø ø) ø (JLo (BL (decide (0≤a.1))) [56] ø .scf ⟨Ua,þ⟩ (fun hc=>dF ø ø ø) ø (JLo (BL (decide (0≤a.1))) [57] ø .scf ⟨Ua,þ⟩ (fun hc=>G3 ø ø) ø (JLo (I64 b.2) [] ø .optt þ (fun hc=>G3 ø ø) ø (JLo (I64 a.2) [] ø .optt þ (fun hc=>G3 ø ø) ø ?_)))))))))))))))
     obtain⟨n,c4,h⟩:=Ge h
     refine JLo (I64 n) [59,60] ø .optt ⟨Ua,Ua,þ⟩ (fun hc=>Hf (bS (Gw hc c4)) ø ø ø) ø (JLo (I64 a.1) [] ø .optt þ (fun hc=>G3 ø ø) ø (JLo (BL (decide (a.1≤n))) [61,62] ø .optt ⟨Ua,Ua,þ⟩ (fun hc=>dF ø ø ø) ø (Gd (u:=BL ((decide (0≤a.1))&&(decide (a.1≤n)))) [(58,BL (decide (0≤a.1))),(63,_)] ø ø ø .scf ⟨.all id,.part,þ⟩ (fun hc=>Jf ø ø ø ø) ?_)))
     refine JLh (BL ((decide (halves < c))||((decide (0≤a.1))&&(decide (a.1≤n))))) (aJ ø ø ø ø) ø (G7 (c3 (JCc ø h (fun h hb=>?_) (fun h hb=>?_))))
     ·
      refine H5 (ej69 _ _ a.1 h ⟨(.sm ø ø),þ,rfl⟩)
     ·
      refine Gn (c2 (Jr fun c5=>(JLm (I64 b.2) ø (JLm (I64 a.2) ø ?_))))
      obtain⟨f0,c6,h⟩:=Hd h
      refine JLh (I64 f0) (Hf c6 ø ø ø) ø (JLm (Eb l) ø (JLm (I64 at_) ø ?_))
      obtain⟨w,c7,h⟩:=Hd h
      refine JLh (I64 w) (Hf c7 ø ø ø) ø (JLm (I64 tiers) ø (JLm (I64 halves) ø (JLm (I64 c) ø ?_)))
      obtain⟨x,c8,h⟩:=Hd h
      refine JLh (I64 x) (cB c8 ø ø ø) ø ?_
      obtain⟨z,c9,h⟩:=Ge h
      refine JLh (I64 z) (Gq ø (self_w l w tiers x z c9) HI ⟨ø,ø,ø,ø,ø,ø,ø,ø,þ⟩) ø ?_
      obtain⟨d,d0,h⟩:=Hd h
      refine JLh (I64 d) (Hf d0 ø ø ø) ø (JLm (I64 d) ø (G7 (c5 (Jr fun d1=>(JLm (I64 a.1) ø (JLh (BL (decide (a.1 < 0))) (Ht ø ø ø) ø (JLm (BL (decide (a.1 < 0))) ø (JLo (I64 d) [] ø .scf þ (fun hc=>G3 ø ø) ø (JLo (I64 a.1) [] ø .scf þ (fun hc=>G3 ø ø) ø (JLo (BL (decide (d < a.1))) [81,82] ø .scf ⟨Ua,Ua,þ⟩ (fun hc=>Ht ø ø ø) ø (JLh (BL ((decide (a.1 < 0))||(decide (d < a.1)))) (aJ ø ø ø ø) ø (G7 (d1 (JCc ø h (fun h hb=>?_) (fun h hb=>?_)))))))))))))))
      ·
       refine G2 (JLm (I64 d) ø (JLm (I64 d) ø (G7 (ej69 _ _ d h ⟨(.sm ø ø),þ,rfl⟩))))
      ·
       refine Gn (ej69 _ _ a.1 h ⟨(.sm ø ø),þ,rfl⟩)
    ·intro i h
     replace h:=app1 v h
     refine G2 (JLm (I64 a.2) ø ?_)
     obtain⟨s,d2,h⟩:=Hd h
     refine JLh (I64 s) (Hf d2 ø ø ø) ø (JLm (I64 s) ø (G7 (e7 _ _ e9 (i,s) (app1 a7 h) (by omega) ⟨(.sm ø ø),þ,rfl⟩)))
   ·
    refine H5 (a3 (G2 (JLm (I64 b.2) ø ?_)))
    obtain⟨t,d3,h⟩:=Hd h
    refine JLh (I64 t) (Hf d3 ø ø ø) ø (JLm (I64 t) ø (G7 (e8 _ _ m8 (a.1,t) (app1 e4 h) (by omega) ⟨(.sm ø ø),þ,rfl⟩)))
  ·
   refine H5 (e0 (Jr fun d4=>(JLm (I64 b.1) ø (JLm (I64 b.1) ø (G7 (d4 (Gt (fin1 I64 h))))))))
theorem qE:∀ (F:Nat) (l:List G8) (at_:Int) (tiers:Int) (halves:Int) (r:Int) (h:Qh F l at_ tiers halves=some r),Pure Ej 181 [Eb l,I64 at_,I64 tiers,I64 halves] (·=I64 r):=by
 intro F
 induction F with
 | zero=>intro l at_ tiers halves r h; cases h
 | succ F ih=>intro l at_ tiers halves r h; exact qL (Qh F) ih F l at_ tiers halves r h

def Y5 (F:Nat) (s:H2) (bx:List Box) (l:List G5):Option (Int×Int):=
 each (fun e n (b:(List G8)) f=>
  bnd (Zn bx e) fun a=>
  bif (!a.2) then
  (some (0,270))
  else
  (need (decide ((b.length+[a.1].length)*32≤140737488355328∧b.length+[a.1].length≤maxLen)) <|
   loop (fun d (c:Int)=>
    bif decide (c < (l.length:Int)) then
    (Jx l c fun g=>
     bnd (bG e g) fun h=>
     bif (!h) then
     (some (0,270))
     else
     (chk (c+1) fun i=>
      d i))
    else
    (f (b++[a.1]))) F ((n+1:Nat):Int)))
 (fun(b:(List G8))=>
  bnd (aG s) fun j=>
  chk (2*(s.Columns.length:Int)) fun k=>
  bnd (Qh F b 0 j k) fun m=>
  some (m,0)) l 0 []
abbrev Mt (a:(List G8)):Loc:=[(1087,.spare 161 4 a.length a.length)]
theorem oQ (F:Nat) (s:H2) (bx:List Box) (l:List G5) (r:Int×Int) (h:Y5 F s bx l=some r):Pure Ej 85 [.agg (H2.cs s),E3 bx,E2 l] (·=.tup [I64 r.1,I64 r.2]):=by
 unfold Y5 at h
 refine Gy [.tmp 6,.tmp 7] Tryz.func85 ø ø (Jr fun c3=>(JLh (.ptr 1086 0) (Qr (cs:=(H2.cs s)) 1086 ø ø ø ø ø) ø (JLm (I64 0) ø (JLm (I64 0) ø (G7 (c3 (H1 [(1,E3 bx),(2,E2 l),(3,Ec s)] [] 1086 rfl rfl rfl þ rfl (by exact⟨.conv (.same rfl),.conv (.same rfl),.ptr,þ⟩) (Jr fun c4=>(JLh (OW 1087 4 G8.av ([]:List G8)) (eP 1087 161 4 ø ø ø) ø (G7 (c4 (Js fun c5=>Jr fun c6=>(JLm (I64 0) ø (G7 (c6 (Gi ?_))))))))))))))))
 obtain⟨b5,c7,c8,x,h⟩:=Jg h
 refine H7 (fun d (c:(List G8))=>each b5 c7 (List.drop d l) d c=some r) (fun d c=>[(1,E3 bx),(2,E2 l),(3,Ec s),(8,OW 1087 4 G8.av c),(9,Ei d)]) (fun d c=>(Mt c)) (fun d=>l.length - d) 0 [] h ⟨(.sm ø ø),⟨⟨_,rfl,.same⟩,þ⟩,rfl⟩ ?_
 clear h
 intro d c v K5 e5
 refine Js fun c9=>Jr fun d0=>(JLm (Ei d) ø (JLm (E2 l) ø (JLl Hx ø ø ø fun z=>(JLh (BL (decide ((d:Int) < (l.length:Int)))) (Ht ø ø ø) ø (G7 (d0 (Gm ø (fun hb=>?_) (fun hb=>?_))))))))
 ·
  have p:=Q1 hb
  obtain⟨g,e0,w,d1,h⟩:=J4 v p
  replace h:=Zt c8 h
  refine Gn (c9 (Js fun d2=>Gi (Jr fun d3=>(JLm (E3 bx) ø (JLm (E2 l) ø (JLm (Ei d) ø (JLh (.dptr [I64 g.Load,I64 g.Discharge]) (Gs (f:=G5.av) (xs:=l) (y:=g) ø ø ø Hx w ø) ø (JLh (.agg [I64 g.Load,I64 g.Discharge]) (Gk Hm ø ø ø) ø ?_))))))))
  obtain⟨a,a0,h⟩:=Ge h
  refine JLh (.tup [.agg (G8.cs a.1),BL a.2]) (Gq ø (qF bx g a a0) G91 ⟨ø,ø,ø,ø,þ⟩) ø (JLm (.tup [.agg (G8.cs a.1),BL a.2]) ø (JLh (.agg (G8.cs a.1)) (Hu ø ø ø) ø (JLh (BL a.2) (Hu ø ø ø) ø (JLh (.ptr 1088 0) (Q3 1088 4 eE ø ø) ø (J7 (u:=.junk) (Hw (u:=.agg (G8.cs a.1)) (ds:=[I64 a.1.G5.Load,I64 a.1.G5.Discharge,I64 a.1.Whole,I64 a.1.Half]) kV ø ø ø ø ø ø ø ø) (JLm (BL a.2) ø (G7 (d3 ?_))))))))
  refine fzQ [(1,E3 bx),(2,E2 l),(3,Ec s),(8,OW 1087 4 G8.av c),(9,Ei d),(10,Eg a.1),(11,BL a.2)] (Mt c) 1088 rfl rfl rfl ⟨⟨_,rfl,.same⟩,þ⟩ rfl (Js fun a1=>Jr fun a2=>(JLm (BL a.2) ø (JLh (BL (!a.2)) (Ym (b:=a.2) ø ø) ø (G7 (a2 (JCc ø h (fun h hb=>?_) (fun h hb=>?_)))))))
  ·
   refine Jr fun a3=>(JLm (I64 0) ø (JLm (I64 270) ø (G7 (a3 (Gt (⟨[I64 0,I64 270],[],þ,ø,⟨⟨_,ø,.conv (.same ø)⟩,⟨_,ø,.conv (.same ø)⟩,þ⟩,ø,congrArg (fun r:Int×Int=>(.tup [I64 r.1,I64 r.2]:AV)) (Nv h)⟩))))))
  ·
   refine Gn (a1 (Jr fun a4=>(JLm (OW 1087 4 G8.av c) ø (JLh (.agg (G8.cs a.1)) (Gk iC ø ø ø) ø (JLh (Eb [a.1]) (Hn (xs:=[.agg (G8.cs a.1)]) ø ⟨ø,ø,þ⟩ Jk eE ø ø ø ø) ø ?_)))))
   obtain⟨a5,h⟩:=J2 h
   refine JLh (OW 1087 4 G8.av (c++[a.1])) (R3 (f:=G8.av) (xs:=c) (ys:=[a.1]) ø ø ø ø Jk pJ a5 (fun _=>ø) (.inl ø) ø) ø (JLm (OW 1087 4 G8.av (c++[a.1])) ø (G7 (a4 (Jr fun a6=>(JLm (Ei d) ø (JLh (I64 ((d+1:Nat):Int)) (Hf (Hq p z) ø ø ø) ø (JLm (I64 ((d+1:Nat):Int)) ø (G7 (a6 (Gi ?_))))))))))
   obtain⟨d4,a7,h⟩:=aF h
   refine H7 (fun j (e:Int)=>loop d4 j e=some r) (fun j e=>[(1,E3 bx),(2,E2 l),(3,Ec s),(8,OW 1087 4 G8.av (c++[a.1])),(9,Ei d),(12,I64 e)]) (fun j e=>[(1087,.spare 161 4 (c++[a.1]).length (c++[a.1]).length)]) (fun j=>j) F ((d+1:Nat):Int) h ⟨(.sm ø ø),⟨⟨_,rfl,.same⟩,þ⟩,rfl⟩ ?_
   clear h
   intro j e a8 e1 d5
   obtain⟨d6,d9,hm_32,a9,h⟩:=Yu a8
   replace h:=qA a7 h
   refine Js fun b0=>Jr fun b1=>(JLm (I64 e) ø (JLm (E2 l) ø (JLl Hx ø ø ø fun k=>(JLh (BL (decide (e < (l.length:Int)))) (Ht ø ø ø) ø (G7 (b1 (JCc ø h (fun h hb=>?_) (fun h hb=>?_))))))))
   ·
    refine Gn (b0 (Js fun b2=>Gi (Js fun b3=>Zh (l':=[(1,E3 bx),(2,E2 l),(3,Ec s),(8,OW 1087 4 G8.av (c++[a.1])),(9,Ei d),(12,I64 e)]) (L':=[(1087,.spare 161 4 (c++[a.1]).length (c++[a.1]).length)]) ⟨(.sm ø ø),⟨⟨_,rfl,.same⟩,þ⟩,rfl⟩ ?_)))
    obtain⟨e2,i,k,b4,h⟩:=Q8 h
    obtain⟨m,b6,h⟩:=Ge h
    refine JC_d0 J9 (by kernel_rfl) (Dq (E2 l) (G3 ø ø) ø (Dq (Ei d) (G3 ø ø) ø (Dq (.dptr [I64 g.Load,I64 g.Discharge]) (Gs (f:=G5.av) (xs:=l) (y:=g) ø ø ø Hx w ø) ø (Dq (.agg [I64 g.Load,I64 g.Discharge]) (Gk Hm ø ø ø) ø (Dq (E2 l) (G3 ø ø) ø (Dq (I64 e) (G3 ø ø) ø (Dq (.dptr [I64 i.Load,I64 i.Discharge]) (Gs (f:=G5.av) (xs:=l) (y:=i) ø ø ø Hx b4 k) ø (Dq (.agg [I64 i.Load,I64 i.Discharge]) (Gk Hm ø ø ø) ø (Dq (BL m) (Gq (args:=[.agg [I64 g.Load,I64 g.Discharge],.agg [I64 i.Load,I64 i.Discharge]]) ø (qG g i m b6) G90 ⟨ø,ø,ø,ø,þ⟩) ø (Dq (BL (!m)) (Ym (b:=m) ø ø) ø (Dnil (b3 (JCc ø h (fun h hb=>?_) (fun h hb=>?_))))))))))))))
    ·
     refine Jr fun b7=>(JLm (I64 0) ø (JLm (I64 270) ø (G7 (b7 (Gt (⟨[I64 0,I64 270],[],þ,ø,⟨⟨_,ø,.conv (.same ø)⟩,⟨_,ø,.conv (.same ø)⟩,þ⟩,ø,congrArg (fun r:Int×Int=>(.tup [I64 r.1,I64 r.2]:AV)) (Nv h)⟩))))))
    ·
     refine Gn (b2 (G2 (JLm (I64 e) ø ?_)))
     obtain⟨q,b8,h⟩:=Hd h
     refine JLh (I64 q) (Hf b8 ø ø ø) ø (JLm (I64 q) ø (G7 (d5 _ _ d6 q (app1 a9 h) (by omega) ⟨(.sm ø ø),⟨⟨_,rfl,.same⟩,þ⟩,rfl⟩)))
   ·
    refine H5 (d2 (G2 (JLm (Ei d) ø (JLh (I64 ((d+1:Nat):Int)) (Hf (Hq p k) ø ø ø) ø (JLm (I64 ((d+1:Nat):Int)) ø (G7 (e5 _ _ (d+1) (c++[a.1]) (app1 d1 h) (by omega) ⟨(.sm ø ø),⟨⟨_,rfl,.same⟩,þ⟩,rfl⟩)))))))
 ·
  have h:=app1 x (J5 v (Hg hb))
  refine H5 (c5 (Js fun b9=>Zh (l':=[(3,Ec s),(8,OW 1087 4 G8.av c)]) (L':=(Mt c)) ⟨(.sm ø ø),⟨⟨_,ø,.same⟩,þ⟩,ø⟩ ?_))
  obtain⟨n,c0,h⟩:=Ge h
  obtain⟨t,c1,h⟩:=Hd h
  obtain⟨o,c2,h⟩:=Ge h
  refine JC_d0 J9 (by kernel_rfl) (Dq (OW 1087 4 G8.av c) (G3 ø ø) ø (Dq (.agg (H2.cs s)) (Gk Qa ø ø ø) ø (Dq (I64 n) (Gq (args:=[.agg (H2.cs s)]) ø (oD s n c0) G8f ⟨ø,ø,þ⟩) ø (Dq (Ec s) (Gb J1 ø ø ø) ø (Dq (E5 s.Columns) (Gj Jd ø ø ø) ø (Dq (Ei s.Columns.length) (Q4 (f:=Gc.av) (xs:=s.Columns) Ha ø ø) ø (Dq (I64 t) (fF c1 ø ø ø) ø (Dq (I64 o) (Gq (args:=[Eb c,I64 0,I64 n,I64 t]) ø (qE F c 0 n t o c2) HI ⟨ø,ø,ø,ø,ø,ø,ø,ø,þ⟩) ø (Dq (I64 o) (G6 ø ø) ø (Dq (I64 0) (G6 ø ø) ø (Dnil (b9 (Gt ?_)))))))))))))
  exact⟨[I64 o,I64 0],[],þ,ø,⟨⟨_,ø,.conv (.same ø)⟩,⟨_,ø,.conv (.same ø)⟩,þ⟩,ø,congrArg (fun r:Int×Int=>(.tup [I64 r.1,I64 r.2]:AV)) (Nv h)⟩

def Y1 (F:Nat) (s:H2) (bx:List Box):Option ((List (List G5))×Int×Int):=
 bnd (Yf F s bx) fun y=>
 bif (!y) then
 (some ([],0,2))
 else
 (bnd (Y7 F bx) fun z=>
  loop (fun o (b:(List (List G5))×Int×(List G8))=>
   need (decide (20≤9223372036854775807)) <|
   upto (fun k (a:(List G5)×Int) p=>
    jp (fun g=>
     each (fun e a0 (c:(List G8)) q=>
      jp (fun h=>
       bif ((decide (e.G5.Load≤(k:Int)))&&(decide ((k:Int) < e.G5.Discharge))) then
       (need (decide ((c.length+[e].length)*32≤140737488355328∧c.length+[e].length≤maxLen)) <|
        h (c++[e]))
       else
       (h c)) fun(u:(List G8))=>
      q u)
     (fun(c:(List G8))=>
      bnd (Y6 F c 0 (G5.mk 0 0) false) fun l=>
      bnd (Y5 F s bx l.1) fun m=>
      bif decide (a.2 < m.1) then
      (g (l.1,m.1))
      else
      (g (a.1,a.2))) b.2.2 0 []) fun(n:(List G5)×Int)=>
    p (n.1,n.2))
   (fun(a:(List G5)×Int)=>
    bif decide (a.2=0) then
    (some (b.1,b.2.1,0))
    else
    (need (decide ((b.1.length+[a.1].length)*24≤140737488355328∧b.1.length+[a.1].length≤maxLen)) <|
     chk (b.2.1+a.2) fun v=>
     each (fun f a1 (d:(List G8)) r=>
      jp (fun i=>
       each (fun w a2 (j:Bool) t=>
        t (j||(decide (w=f.G5))))
       (fun(j:Bool)=>
        bif (!j) then
        (need (decide ((d.length+[f].length)*32≤140737488355328∧d.length+[f].length≤maxLen)) <|
         i (d++[f]))
        else
        (i d)) a.1 0 false) fun(x:(List G8))=>
      r x)
     (fun(d:(List G8))=>
      o ((b.1++[a.1]),v,d)) b.2.2 0 [])) (20:Int).toNat 0 ([],0)) F ([],0,z))
abbrev Mu (a:(List (List G5))×Int×(List G8)) (b:(List G5)×Int) (c:(List G8)):Loc:=[(1020,.spare 137 1 (a.1++[b.1]).length (a.1++[b.1]).length),(1022,.spare 161 4 c.length c.length)]
abbrev Mv (a:(List (List G5))×Int×(List G8)):Nat×Jn:=(1020,.spare 137 1 a.1.length a.1.length)
theorem qU (F:Nat) (s:H2) (bx:List Box) (r:(List (List G5))×Int×Int) (h:Y1 F s bx=some r):Pure Ej 29 [.agg (H2.cs s),E3 bx] (·=.tup [LS 1 (E2) r.1,I64 r.2.1,I64 r.2.2]):=by
 unfold Y1 at h
 refine Gy [.tmp 4,.tmp 5,.tmp 6] Tryz.func29 ø ø (Jr fun h9=>(JLh (.ptr 1019 0) (Qr (cs:=(H2.cs s)) 1019 ø ø ø ø ø) ø (JLh (LS 1 (E2) ([]:List (List G5))) (Qu 1 ø ø) ø (JLm (I64 0) ø (JLm (I64 0) ø (G7 (h9 (H1 [(1,E3 bx),(2,Ec s)] [] 1019 rfl rfl rfl þ rfl (by exact⟨.conv (.same rfl),.ptr,þ⟩) (Js fun i0=>Jr fun i1=>(JLh (.agg (H2.cs s)) (Gk Qa ø ø ø) ø (JLm (E3 bx) ø ?_)))))))))))
 obtain⟨r4,i2,h⟩:=Ge h
 refine JLh (BL r4) (Gq ø (qD F s bx r4 i2) Gfa ⟨ø,ø,ø,ø,þ⟩) ø (JLh (BL (!r4)) (Ym (b:=r4) ø ø) ø (G7 (i1 (JCc ø h (fun h hb=>?_) (fun h hb=>?_)))))
 ·
  refine Jr fun i3=>(JLh (LS 1 (E2) ([]:List (List G5))) (Qu 1 ø ø) ø (JLm (I64 0) ø (JLm (I64 2) ø (G7 (i3 (Gt (⟨[LS 1 (E2) ([]:List (List G5)),I64 0,I64 2],[],þ,ø,⟨⟨_,ø,.conv (.same ø)⟩,⟨_,ø,.conv (.same ø)⟩,⟨_,ø,.conv (.same ø)⟩,þ⟩,ø,congrArg (fun r:(List (List G5))×Int×Int=>(.tup [LS 1 (E2) r.1,I64 r.2.1,I64 r.2.2]:AV)) (Nv h)⟩)))))))
 ·
  refine Gn (i0 (Jr fun i4=>(JLh (OW 1020 1 (E2) ([]:List (List G5))) (eP 1020 137 1 ø ø ø) ø (G7 (i4 (Jr fun i5=>(JLm (I64 0) ø (G7 (i5 (Jr fun i6=>(JLm (E3 bx) ø ?_)))))))))))
  obtain⟨r9,i7,h⟩:=Ge h
  refine JLh (Eb r9) (Gq ø (oS F bx r9 i7) Gf9 ⟨ø,ø,þ⟩) ø (JLm (Eb r9) ø (G7 (i6 (Gi ?_))))
  obtain⟨i8,b9,h⟩:=aF h
  refine H7 (fun x (a:(List (List G5))×Int×(List G8))=>loop i8 x a=some r) (fun x a=>[(1,E3 bx),(2,Ec s),(7,OW 1020 1 (E2) a.1),(8,I64 a.2.1),(9,Eb a.2.2)]) (fun x a=>[(Mv a)]) (fun x=>x) F ([],0,r9) h ⟨(.sm ø ø),⟨⟨_,rfl,.same⟩,þ⟩,rfl⟩ ?_
  clear h
  intro x a c0 k4 i9
  obtain⟨j0,j9,hm_10,c1,h⟩:=Yu c0
  replace h:=qA b9 h
  refine Gi (Jr fun c2=>(JLh (E2 ([]:List G5)) (Qu 2 ø ø) ø (G7 (c2 (Jr fun c3=>(JLm (I64 0) ø (G7 (c3 (Js fun c4=>Jr fun c5=>(JLm (I64 0) ø (G7 (c5 (Gi ?_)))))))))))))
  obtain⟨c6,h⟩:=J2 h
  obtain⟨j1,c7,c8,b1,h⟩:=gT h
  refine H7 (fun d (c:(List G5)×Int)=>upto j1 c7 ((20:Int).toNat - d) d c=some r) (fun d c=>[(1,E3 bx),(2,Ec s),(7,OW 1020 1 (E2) a.1),(8,I64 a.2.1),(9,Eb a.2.2),(10,E2 c.1),(11,I64 c.2),(12,Ei d)]) (fun d c=>[(Mv a)]) (fun d=>(20:Int).toNat - d) 0 ([],0) h ⟨(.sm ø ø),⟨⟨_,rfl,.same⟩,þ⟩,rfl⟩ ?_
  clear h
  intro d c a0 k5 j2
  refine Js fun c9=>Jr fun d0=>(JLm (Ei d) ø (JLh (BL (decide ((d:Int) < 20))) (Ht ø ø ø) ø (G7 (d0 (Gm ø (fun hb=>?_) (fun hb=>?_))))))
  ·
   have a1:=eJ hb
   obtain⟨k0,d1,h⟩:=eH a0 a1
   replace h:=vM c8 h
   refine Gn (c9 ?_)
   obtain⟨d2,b2,h⟩:=bE h
   refine Rh (fun t:(List G5)×Int=>d2 t=some r) (fun t=>[(1,E3 bx),(2,Ec s),(7,OW 1020 1 (E2) a.1),(8,I64 a.2.1),(9,Eb a.2.2),(10,E2 t.1),(11,I64 t.2),(12,Ei d)]) (fun t=>[(Mv a)]) (fun Kj18 ej18=>?_) ?_
   ·
    refine Gi (Jr fun d3=>(JLh (OW 1021 4 G8.av ([]:List G8)) (eP 1021 161 4 ø ø ø) ø (G7 (d3 (Js fun d4=>Jr fun d5=>(JLm (I64 0) ø (G7 (d5 (Gi ?_)))))))))
    obtain⟨j3,d6,d7,b3,h⟩:=Jg h
    refine H7 (fun k (m:(List G8))=>each j3 d6 (List.drop k a.2.2) k m=some r) (fun k m=>[(1,E3 bx),(2,Ec s),(7,OW 1020 1 (E2) a.1),(8,I64 a.2.1),(9,Eb a.2.2),(10,E2 c.1),(11,I64 c.2),(12,Ei d),(13,OW 1021 4 G8.av m),(14,Ei k)]) (fun k m=>[(Mv a),(1021,.spare 161 4 m.length m.length)]) (fun k=>a.2.2.length - k) 0 [] h ⟨(.sm ø ø),⟨⟨_,rfl,.same⟩,⟨_,rfl,.same⟩,þ⟩,rfl⟩ ?_
    clear h
    intro k m a2 k6 j4
    refine Js fun d8=>Jr fun d9=>(JLm (Ei k) ø (JLm (Eb a.2.2) ø (JLl Jk ø ø ø fun e0=>(JLh (BL (decide ((k:Int) < (a.2.2.length:Int)))) (Ht ø ø ø) ø (G7 (d9 (Gm ø (fun hb=>?_) (fun hb=>?_))))))))
    ·
     have a3:=Q1 hb
     obtain⟨e,k1,z,e1,h⟩:=J4 a2 a3
     replace h:=Zt d7 h
     refine Gn (d8 ?_)
     obtain⟨e2,b4,h⟩:=bE h
     refine Rh (fun u:(List G8)=>e2 u=some r) (fun u=>[(1,E3 bx),(2,Ec s),(7,OW 1020 1 (E2) a.1),(8,I64 a.2.1),(9,Eb a.2.2),(10,E2 c.1),(11,I64 c.2),(12,Ei d),(13,OW 1021 4 G8.av u),(14,Ei k)]) (fun u=>[(Mv a),(1021,.spare 161 4 u.length u.length)]) (fun Kj44 ej44=>?_) ?_
     ·
      refine Gi ?_
      refine Jr fun e3=>(JLm (Eb a.2.2) ø (JLm (Ei k) ø (JLh (Eg e) (Gs (f:=G8.av) (xs:=a.2.2) (y:=e) ø ø ø Jk z ø) ø (JLh (Eg e) (Gb dM ø ø ø) ø (JLh (Eg e) (Gb Jm ø ø ø) ø (JLh (I64 e.G5.Load) (Gj Ga ø ø ø) ø (JLm (Ei d) ø (JLh (BL (decide (e.G5.Load≤(d:Int)))) (oO ø ø ø) ø (JLm (BL (decide (e.G5.Load≤(d:Int)))) ø (JLo (Eb a.2.2) [] ø .sct þ (fun hc=>G3 ø ø) ø (JLo (Ei k) [] ø .sct þ (fun hc=>G3 ø ø) ø (JLo (Eg e) [48,49] ø .sct ⟨Ua,Ua,þ⟩ (fun hc=>Gs (f:=G8.av) (xs:=a.2.2) (y:=e) ø ø ø Jk z ø) ø (JLo (Eg e) [50] ø .sct ⟨Ua,þ⟩ (fun hc=>Gb dM ø ø ø) ø ?_)))))))))))))
      refine JLo (.dptr ((G8.cs e).drop 1)) [51] ø .sct ⟨Ua,þ⟩ (fun hc=>Gb Jv ø ø ø) ø (JLo (I64 e.G5.Discharge) [52] ø .sct ⟨Ua,þ⟩ (fun hc=>Gj Ga ø ø ø) ø (JLo (Ei d) [] ø .sct þ (fun hc=>G3 ø ø) ø (JLo (BL (decide ((d:Int) < e.G5.Discharge))) [53,54] ø .sct ⟨Ua,Ua,þ⟩ (fun hc=>Ya ø ø ø) ø (JLh (BL ((decide (e.G5.Load≤(d:Int)))&&(decide ((d:Int) < e.G5.Discharge)))) (Jf ø ø ø ø) ø (G7 (e3 (JCc ø h (fun h hb=>?_) (fun h hb=>?_))))))))
      ·
       refine G2 (JLm (OW 1021 4 G8.av m) ø (JLm (Eb a.2.2) ø (JLm (Ei k) ø (JLh (Eg e) (Gs (f:=G8.av) (xs:=a.2.2) (y:=e) ø ø ø Jk z ø) ø (JLh (.agg (G8.cs e)) (Gk iC ø ø ø) ø (JLh (Eb [e]) (Hn (xs:=[.agg (G8.cs e)]) ø ⟨ø,ø,þ⟩ Jk eE ø ø ø ø) ø ?_))))))
       obtain⟨e4,h⟩:=J2 h
       refine JLh (OW 1021 4 G8.av (m++[e])) (R3 (f:=G8.av) (xs:=m) (ys:=[e]) ø ø ø ø Jk pJ e4 (fun _=>ø) (.inl ø) ø) ø (JLm (OW 1021 4 G8.av (m++[e])) ø (G7 (ej44 _ _ (m++[e]) h ⟨(.sm ø ø),⟨⟨_,rfl,.same⟩,⟨_,rfl,.same⟩,þ⟩,rfl⟩)))
      ·
       refine Gn (ej44 _ _ m h ⟨(.sm ø ø),⟨⟨_,rfl,.same⟩,⟨_,rfl,.same⟩,þ⟩,rfl⟩)
     ·intro u h
      replace h:=app1 b4 h
      refine G2 (JLm (Ei k) ø (JLh (I64 ((k+1:Nat):Int)) (Hf (Hq a3 e0) ø ø ø) ø (JLm (I64 ((k+1:Nat):Int)) ø (G7 (j4 _ _ (k+1) u (app1 e1 h) (by omega) ⟨(.sm ø ø),⟨⟨_,rfl,.same⟩,⟨_,rfl,.same⟩,þ⟩,rfl⟩)))))
    ·
     have h:=app1 b3 (J5 a2 (Hg hb))
     refine H5 (d4 (Jr fun e5=>(JLm (OW 1021 4 G8.av m) ø (JLh (.agg [I64 0,I64 0]) (Jj (cs:=[I64 0,I64 0]) [(0,1),(1,1)] [I64 0,I64 0] [E0,E0] bL cK (zzQ ø) ø ø) ø ?_))))
     obtain⟨n,e6,h⟩:=Ge h
     refine JLh (.tup [E2 n.1,I64 n.2]) (Gq ø (oR F m 0 (G5.mk 0 0) false n e6) RI ⟨ø,ø,ø,ø,ø,ø,ø,ø,þ⟩) ø (JLm (.tup [E2 n.1,I64 n.2]) ø (JLh (E2 n.1) (Hu ø ø ø) ø (JLh (I64 n.2) (Hu ø ø ø) ø (JLm (E2 n.1) ø (JLm (I64 n.2) ø (G7 (e5 (Jr fun e7=>(JLh (.agg (H2.cs s)) (Gk Qa ø ø ø) ø (JLm (E3 bx) ø (JLm (E2 n.1) ø ?_)))))))))))
     obtain⟨o,e8,h⟩:=Ge h
     refine JLh (.tup [I64 o.1,I64 o.2]) (Gq ø (oQ F s bx n.1 o e8) Gf8 ⟨ø,ø,ø,ø,ø,ø,þ⟩) ø (JLm (.tup [I64 o.1,I64 o.2]) ø (JLh (I64 o.1) (Hu ø ø ø) ø (JLh (I64 o.2) (Hu ø ø ø) ø (JLm (I64 o.1) ø (JLm (I64 o.2) ø (G7 (e7 (Jr fun e9=>(JLm (I64 o.1) ø (JLm (I64 c.2) ø (JLh (BL (decide (c.2 < o.1))) (Ya ø ø ø) ø (G7 (e9 (JCc ø h (fun h hb=>?_) (fun h hb=>?_)))))))))))))))
     ·
      refine G2 (JLm (E2 n.1) ø (JLm (I64 o.1) ø (JLm (E2 n.1) ø (JLm (I64 o.1) ø (G7 (ej18 _ _ (n.1,o.1) h ⟨(.sm ø ø),⟨⟨_,rfl,.same⟩,þ⟩,rfl⟩))))))
     ·
      refine Gn (ej18 _ _ (c.1,c.2) h ⟨(.sm ø ø),⟨⟨_,rfl,.same⟩,þ⟩,rfl⟩)
   ·intro t h
    replace h:=app1 b2 h
    refine G2 (JLm (Ei d) ø (JLh (I64 ((d+1:Nat):Int)) (Hf (Hq a1 (cI c6)) ø ø ø) ø (JLm (I64 ((d+1:Nat):Int)) ø (G7 (j2 _ _ (d+1) (t.1,t.2) (app1 d1 h) (by omega) ⟨(.sm ø ø),⟨⟨_,rfl,.same⟩,þ⟩,rfl⟩)))))
  ·
   have h:=app1 b1 (eI a0 (Z2 hb))
   refine H5 (c4 (Js fun f0=>Jr fun f1=>(JLm (I64 c.2) ø (JLh (BL (decide (c.2=0))) (Rk ø ø ø) ø (G7 (f1 (JCc ø h (fun h hb=>?_) (fun h hb=>?_))))))))
   ·
    refine Jr fun f2=>(JLm (OW 1020 1 (E2) a.1) ø (JLm (I64 a.2.1) ø (JLm (OW 1020 1 (E2) a.1) ø (JLm (I64 a.2.1) ø (JLm (I64 0) ø (G7 (f2 (Gt (⟨[LS 1 (E2) a.1,I64 a.2.1,I64 0],[],þ,ø,⟨⟨_,ø,.conv (.list ø)⟩,⟨_,ø,.conv (.same ø)⟩,⟨_,ø,.conv (.same ø)⟩,þ⟩,ø,congrArg (fun r:(List (List G5))×Int×Int=>(.tup [LS 1 (E2) r.1,I64 r.2.1,I64 r.2.2]:AV)) (Nv h)⟩)))))))))
   ·
    refine Gn (f0 (Jr fun f3=>(JLm (OW 1020 1 (E2) a.1) ø (JLm (E2 c.1) ø (JLh (LS 1 (E2) [c.1]) (Hn (xs:=[E2 c.1]) ø ⟨ø,ø,þ⟩ Rj rI ø ø ø ø) ø ?_)))))
    obtain⟨f4,h⟩:=J2 h
    refine JLh (OW 1020 1 (E2) (a.1++[c.1])) (R3 (f:=(E2)) (xs:=a.1) (ys:=[c.1]) ø ø ø ø Rj HD f4 (fun _=>ø) (.inl ø) ø) ø (JLm (OW 1020 1 (E2) (a.1++[c.1])) ø (G7 (f3 (Jr fun f5=>(JLm (I64 a.2.1) ø (JLm (I64 c.2) ø ?_))))))
    obtain⟨v,f6,h⟩:=Hd h
    refine JLh (I64 v) (Hf f6 ø ø ø) ø (JLm (I64 v) ø (G7 (f5 (Jr fun f7=>(JLh (OW 1022 4 G8.av ([]:List G8)) (eP 1022 161 4 ø ø ø) ø (G7 (f7 (Js fun f8=>Jr fun f9=>(JLm (I64 0) ø (G7 (f9 (Gi ?_))))))))))))
    obtain⟨j5,g0,g1,b5,h⟩:=Jg h
    refine H7 (fun i (j:(List G8))=>each j5 g0 (List.drop i a.2.2) i j=some r) (fun i j=>[(1,E3 bx),(2,Ec s),(7,OW 1020 1 (E2) (a.1++[c.1])),(8,I64 v),(9,Eb a.2.2),(10,E2 c.1),(19,OW 1022 4 G8.av j),(20,Ei i)]) (fun i j=>(Mu a c j)) (fun i=>a.2.2.length - i) 0 [] h ⟨(.sm ø ø),⟨⟨_,rfl,.same⟩,⟨_,rfl,.same⟩,þ⟩,rfl⟩ ?_
    clear h
    intro i j a4 k7 j6
    refine Js fun g2=>Jr fun g3=>(JLm (Ei i) ø (JLm (Eb a.2.2) ø (JLl Jk ø ø ø fun g4=>(JLh (BL (decide ((i:Int) < (a.2.2.length:Int)))) (Ht ø ø ø) ø (G7 (g3 (Gm ø (fun hb=>?_) (fun hb=>?_))))))))
    ·
     have a5:=Q1 hb
     obtain⟨g,k2,a6,g5,h⟩:=J4 a4 a5
     replace h:=Zt g1 h
     refine Gn (g2 ?_)
     obtain⟨g6,b6,h⟩:=bE h
     refine Rh (fun w:(List G8)=>g6 w=some r) (fun w=>[(1,E3 bx),(2,Ec s),(7,OW 1020 1 (E2) (a.1++[c.1])),(8,I64 v),(9,Eb a.2.2),(10,E2 c.1),(19,OW 1022 4 G8.av w),(20,Ei i)]) (fun w=>(Mu a c w)) (fun Kj65 ej65=>?_) ?_
     ·
      refine Gi (Jr fun g7=>(JLm (BL false) ø (G7 (g7 (Js fun g8=>Jr fun g9=>(JLm (I64 0) ø (G7 (g9 (Gi ?_)))))))))
      obtain⟨j7,h0,h1,b7,h⟩:=Jg h
      refine H7 (fun l (p:Bool)=>each j7 h0 (List.drop l c.1) l p=some r) (fun l p=>[(1,E3 bx),(2,Ec s),(7,OW 1020 1 (E2) (a.1++[c.1])),(8,I64 v),(9,Eb a.2.2),(10,E2 c.1),(19,OW 1022 4 G8.av j),(20,Ei i),(21,BL p),(22,Ei l)]) (fun l p=>(Mu a c j)) (fun l=>c.1.length - l) 0 false h ⟨(.sm ø ø),⟨⟨_,rfl,.same⟩,⟨_,rfl,.same⟩,þ⟩,rfl⟩ ?_
      clear h
      intro l p a7 k8 j8
      refine Js fun h2=>Jr fun h3=>(JLm (Ei l) ø (JLm (E2 c.1) ø (JLl Hx ø ø ø fun b8=>(JLh (BL (decide ((l:Int) < (c.1.length:Int)))) (Ht ø ø ø) ø (G7 (h3 (Gm ø (fun hb=>?_) (fun hb=>?_))))))))
      ·
       have a8:=Q1 hb
       obtain⟨q,k3,h4,h5,h⟩:=J4 a7 a8
       replace h:=Zt h1 h
       refine Gn (h2 (Js fun h6=>Gi (Zh (l':=[(1,E3 bx),(2,Ec s),(7,OW 1020 1 (E2) (a.1++[c.1])),(8,I64 v),(9,Eb a.2.2),(10,E2 c.1),(19,OW 1022 4 G8.av j),(20,Ei i),(21,BL p),(22,Ei l)]) (L':=(Mu a c j)) ⟨(.sm ø ø),⟨⟨_,rfl,.same⟩,⟨_,rfl,.same⟩,þ⟩,rfl⟩ ?_)))
       refine JC_d0 J9 (by kernel_rfl) (Dq (BL p) (G3 ø ø) ø (Dq (BL p) (G3 ø ø) ø (Do (E2 c.1) [] ø .scf þ (fun hc=>G3 ø ø) ø (Do (Ei l) [] ø .scf þ (fun hc=>G3 ø ø) ø (Do (.dptr [I64 q.Load,I64 q.Discharge]) [107,108] ø .scf ⟨Ua,Ua,þ⟩ (fun hc=>Gs (f:=G5.av) (xs:=c.1) (y:=q) ø ø ø Hx h4 ø) ø (Do (.agg [I64 q.Load,I64 q.Discharge]) [109] ø .scf ⟨Ua,þ⟩ (fun hc=>Gk Hm ø ø ø) ø (Do (Eb a.2.2) [] ø .scf þ (fun hc=>G3 ø ø) ø (Do (Ei i) [] ø .scf þ (fun hc=>G3 ø ø) ø (Do (Eg g) [111,112] ø .scf ⟨Ua,Ua,þ⟩ (fun hc=>Gs (f:=G8.av) (xs:=a.2.2) (y:=g) ø ø ø Jk a6 ø) ø (Do (Eg g) [113] ø .scf ⟨Ua,þ⟩ (fun hc=>Gb dM ø ø ø) ø (Do (.agg [I64 g.G5.Load,I64 g.G5.Discharge]) [114] ø .scf ⟨Ua,þ⟩ (fun hc=>Gk Hm ø ø ø) ø (Do (BL (decide (q=g.G5))) [110,115] ø .scf ⟨Ua,Ua,þ⟩ (fun hc=>hY (vs:=[.int .i64 q.Load,.int .i64 q.Discharge]) (us:=[.int .i64 g.G5.Load,.int .i64 g.G5.Discharge]) 4 ø (zJ q g.G5) mF rO ø ø ø) ø (Dq (BL (p||(decide (q=g.G5)))) (aJ ø ø ø ø) ø ?_)))))))))))))
       refine Dq (BL (p||(decide (q=g.G5)))) (G6 ø ø) ø (Dnil (h6 (G2 (JLm (Ei l) ø (JLh (I64 ((l+1:Nat):Int)) (Hf (Hq a8 b8) ø ø ø) ø (JLm (I64 ((l+1:Nat):Int)) ø (G7 (j8 _ _ (l+1) (p||(decide (q=g.G5))) (app1 h5 h) (by omega) ⟨(.sm ø ø),⟨⟨_,rfl,.same⟩,⟨_,rfl,.same⟩,þ⟩,rfl⟩))))))))
      ·
       have h:=app1 b7 (J5 a7 (Hg hb))
       refine H5 (g8 (Jr fun h7=>(JLm (BL p) ø (JLh (BL (!p)) (Ym (b:=p) ø ø) ø (G7 (h7 (JCc ø h (fun h hb=>?_) (fun h hb=>?_))))))))
       ·
        refine G2 (JLm (OW 1022 4 G8.av j) ø (JLm (Eb a.2.2) ø (JLm (Ei i) ø (JLh (Eg g) (Gs (f:=G8.av) (xs:=a.2.2) (y:=g) ø ø ø Jk a6 ø) ø (JLh (.agg (G8.cs g)) (Gk iC ø ø ø) ø (JLh (Eb [g]) (Hn (xs:=[.agg (G8.cs g)]) ø ⟨ø,ø,þ⟩ Jk eE ø ø ø ø) ø ?_))))))
        obtain⟨h8,h⟩:=J2 h
        refine JLh (OW 1022 4 G8.av (j++[g])) (R3 (f:=G8.av) (xs:=j) (ys:=[g]) ø ø ø ø Jk pJ h8 (fun _=>ø) (.inl ø) ø) ø (JLm (OW 1022 4 G8.av (j++[g])) ø (G7 (ej65 _ _ (j++[g]) h ⟨(.sm ø ø),⟨⟨_,rfl,.same⟩,⟨_,rfl,.same⟩,þ⟩,rfl⟩)))
       ·
        refine Gn (ej65 _ _ j h ⟨(.sm ø ø),⟨⟨_,rfl,.same⟩,⟨_,rfl,.same⟩,þ⟩,rfl⟩)
     ·intro w h
      replace h:=app1 b6 h
      refine G2 (JLm (Ei i) ø (JLh (I64 ((i+1:Nat):Int)) (Hf (Hq a5 g4) ø ø ø) ø (JLm (I64 ((i+1:Nat):Int)) ø (G7 (j6 _ _ (i+1) w (app1 g5 h) (by omega) ⟨(.sm ø ø),⟨⟨_,rfl,.same⟩,⟨_,rfl,.same⟩,þ⟩,rfl⟩)))))
    ·
     have h:=app1 b5 (J5 a4 (Hg hb))
     refine H5 (f8 (G2 (JLm (OW 1022 4 G8.av j) ø (JLm (OW 1022 4 G8.av j) ø (G7 (i9 _ _ j0 ((a.1++[c.1]),v,j) (app1 c1 h) (by omega) ⟨⟨.same rfl,.same rfl,.same rfl,.same rfl,.list rfl,þ⟩,⟨⟨_,rfl,.same⟩,þ⟩,rfl⟩))))))

def Rm (a:List G5) (b:List G5):Option Bool:=
 bif decide ((a.length:Int)≠(b.length:Int)) then
 (some false)
 else
 (each (fun d e (f:Unit) c=>
   Jx b (e:Int) fun g=>
   bif (!decide (d=g)) then
   (some false)
   else
   (c ()))
  (fun(f:Unit)=>
   some true) a 0 ())
theorem fC (a:List G5) (b:List G5) (r:Bool) (h:Rm a b=some r):Pure Ej 71 [E2 a,E2 b] (·=BL r):=by
 unfold Rm at h
 refine Gy [.tmp 4] Tryz.func71 ø ø (Jr fun a0=>(JLm (BL false) ø (G7 (a0 (Js fun a1=>Jr fun a2=>(JLm (E2 a) ø (JLl Hx ø ø ø fun a9=>(JLm (E2 b) ø (JLl Hx ø ø ø fun b0=>(JLh (BL (decide ((a.length:Int)≠(b.length:Int)))) (dX ø ø ø) ø (G7 (a2 (JCc ø h (fun h hb=>?_) (fun h hb=>?_))))))))))))))
 ·
  refine Jr fun a3=>(JLm (BL false) ø (G7 (a3 (Gt (fin1 BL h)))))
 ·
  refine Gn (a1 (Js fun a4=>Jr fun a5=>(JLm (I64 0) ø (G7 (a5 (Gi ?_))))))
  obtain⟨a6,l,m,k,h⟩:=Jg h
  refine H7 (fun c (g:Unit)=>each a6 l (List.drop c a) c g=some r) (fun c g=>[(0,E2 a),(1,E2 b),(5,Ei c)]) (fun c g=>[]) (fun c=>a.length - c) 0 () h ⟨(.sm ø ø),þ,ø⟩ ?_
  clear h
  intro c g i b1 a7
  refine Js fun n=>Jr fun o=>(JLm (Ei c) ø (JLm (E2 a) ø (JLl Hx ø ø ø fun p=>(JLh (BL (decide ((c:Int) < (a.length:Int)))) (Ht ø ø ø) ø (G7 (o (Gm ø (fun hb=>?_) (fun hb=>?_))))))))
  ·
   have j:=Q1 hb
   obtain⟨d,a8,q,s,h⟩:=J4 i j
   replace h:=Zt m h
   refine Gn (n (Js fun t=>Gi (Js fun u=>?_)))
   obtain⟨b2,e,v,w,h⟩:=Q8 h
   refine JC_d0 J9 (by kernel_rfl) (Dq (E2 a) (G3 ø ø) ø (Dq (Ei c) (G3 ø ø) ø (Dq (.dptr [I64 d.Load,I64 d.Discharge]) (Gs (f:=G5.av) (xs:=a) (y:=d) ø ø ø Hx q ø) ø (Dq (.agg [I64 d.Load,I64 d.Discharge]) (Gk Hm ø ø ø) ø (Dq (E2 b) (G3 ø ø) ø (Dq (Ei c) (G3 ø ø) ø (Dq (.dptr [I64 e.Load,I64 e.Discharge]) (Gs (f:=G5.av) (xs:=b) (y:=e) ø ø ø Hx w v) ø (Dq (.agg [I64 e.Load,I64 e.Discharge]) (Gk Hm ø ø ø) ø (Dq (BL (!decide (d=e))) (QV (vs:=[.int .i64 d.Load,.int .i64 d.Discharge]) (us:=[.int .i64 e.Load,.int .i64 e.Discharge]) 4 ø (zJ d e) mF rO ø ø ø) ø (Dnil (u (JCc ø h (fun h hb=>?_) (fun h hb=>?_)))))))))))))
   ·
    refine Jr fun x=>(JLm (BL false) ø (G7 (x (Gt (fin1 BL h)))))
   ·
    refine Gn (t (G2 (JLm (Ei c) ø (JLh (I64 ((c+1:Nat):Int)) (Hf (Hq j p) ø ø ø) ø (JLm (I64 ((c+1:Nat):Int)) ø (G7 (a7 _ _ (c+1) () (app1 s h) (by omega) ⟨(.sm ø ø),þ,rfl⟩)))))))
  ·
   have h:=app1 k (J5 i (Hg hb))
   refine H5 (a4 (Jr fun z=>(JLm (BL true) ø (G7 (z (Gt (fin1 BL h)))))))

def Y3 (a:List (List G5)) (b:List (List G5)):Option Bool:=
 bif decide ((a.length:Int)≠(b.length:Int)) then
 (some false)
 else
 (each (fun d e (f:Unit) c=>
   Jx b (e:Int) fun g=>
   bnd (Rm d g) fun h=>
   bif (!h) then
   (some false)
   else
   (c ()))
  (fun(f:Unit)=>
   some true) a 0 ())
theorem lD (a:List (List G5)) (b:List (List G5)) (r:Bool) (h:Y3 a b=some r):Pure Ej 30 [LS 1 (E2) a,LS 1 (E2) b] (·=BL r):=by
 unfold Y3 at h
 refine Gy [.tmp 4] Tryz.func30 ø ø (Jr fun a2=>(JLm (BL false) ø (G7 (a2 (Js fun a3=>Jr fun a4=>(JLm (LS 1 (E2) a) ø (JLl Rj ø ø ø fun b1=>(JLm (LS 1 (E2) b) ø (JLl Rj ø ø ø fun b2=>(JLh (BL (decide ((a.length:Int)≠(b.length:Int)))) (dX ø ø ø) ø (G7 (a4 (JCc ø h (fun h hb=>?_) (fun h hb=>?_))))))))))))))
 ·
  refine Jr fun a5=>(JLm (BL false) ø (G7 (a5 (Gt (fin1 BL h)))))
 ·
  refine Gn (a3 (Js fun a6=>Jr fun a7=>(JLm (I64 0) ø (G7 (a7 (Gi ?_))))))
  obtain⟨a8,m,n,l,h⟩:=Jg h
  refine H7 (fun c (g:Unit)=>each a8 m (List.drop c a) c g=some r) (fun c g=>[(0,LS 1 (E2) a),(1,LS 1 (E2) b),(5,Ei c)]) (fun c g=>[]) (fun c=>a.length - c) 0 () h ⟨(.sm ø ø),þ,ø⟩ ?_
  clear h
  intro c g j b3 a9
  refine Js fun o=>Jr fun p=>(JLm (Ei c) ø (JLm (LS 1 (E2) a) ø (JLl Rj ø ø ø fun q=>(JLh (BL (decide ((c:Int) < (a.length:Int)))) (Ht ø ø ø) ø (G7 (p (Gm ø (fun hb=>?_) (fun hb=>?_))))))))
  ·
   have k:=Q1 hb
   obtain⟨d,b0,s,t,h⟩:=J4 j k
   replace h:=Zt n h
   refine Gn (o (Js fun u=>Gi (Js fun v=>?_)))
   obtain⟨b4,e,w,x,h⟩:=Q8 h
   obtain⟨i,z,h⟩:=Ge h
   refine JC_d0 J9 (by kernel_rfl) (Dq (LS 1 (E2) a) (G3 ø ø) ø (Dq (Ei c) (G3 ø ø) ø (Dq (.dptr [E2 d]) (Gs (f:=(E2)) (xs:=a) (y:=d) ø ø ø Rj s ø) ø (Dq (E2 d) (Gj bK ø ø ø) ø (Dq (LS 1 (E2) b) (G3 ø ø) ø (Dq (Ei c) (G3 ø ø) ø (Dq (.dptr [E2 e]) (Gs (f:=(E2)) (xs:=b) (y:=e) ø ø ø Rj x w) ø (Dq (E2 e) (Gj bK ø ø ø) ø (Dq (BL i) (Gq (args:=[E2 d,E2 e]) ø (fC d e i z) RJ ⟨ø,ø,ø,ø,þ⟩) ø (Dq (BL (!i)) (Ym (b:=i) ø ø) ø (Dnil (v (JCc ø h (fun h hb=>?_) (fun h hb=>?_))))))))))))))
   ·
    refine Jr fun a0=>(JLm (BL false) ø (G7 (a0 (Gt (fin1 BL h)))))
   ·
    refine Gn (u (G2 (JLm (Ei c) ø (JLh (I64 ((c+1:Nat):Int)) (Hf (Hq k q) ø ø ø) ø (JLm (I64 ((c+1:Nat):Int)) ø (G7 (a9 _ _ (c+1) () (app1 t h) (by omega) ⟨(.sm ø ø),þ,rfl⟩)))))))
  ·
   have h:=app1 l (J5 j (Hg hb))
   refine H5 (a6 (Jr fun a1=>(JLm (BL true) ø (G7 (a1 (Gt (fin1 BL h)))))))
end
end Go.Proofs.YthkihfoleenlmaaGreat
