/- Walks of functions. -/
import Derived.Test.YthkihfoleenlmaaGreatXL
set_option maxRecDepth 100000
set_option maxHeartbeats 1000000
set_option linter.unusedVariables false
set_option linter.unusedSimpArgs false
namespace Go.Proofs.YthkihfoleenlmaaGreat
open Go.RowKit
noncomputable section

namespace XBF
open XAF
open XLF
theorem mF:aV Ej 139=true:=by kernel_rfl
theorem H16:H8 Ej 13=true:=by kernel_rfl
theorem HR:H8 Ej 165=true:=by kernel_rfl
theorem kW:H8 Ej 166=true:=by kernel_rfl
theorem G95:H8 Ej 172=true:=by kernel_rfl
theorem G94:H8 Ej 173=true:=by kernel_rfl
theorem G93:H8 Ej 174=true:=by kernel_rfl
theorem HK:H8 Ej 175=true:=by kernel_rfl
theorem G8c:H8 Ej 214=true:=by kernel_rfl
theorem G8b:H8 Ej 215=true:=by kernel_rfl
theorem G8a:H8 Ej 216=true:=by kernel_rfl
theorem HF:H8 Ej 220=true:=by kernel_rfl
theorem G87:H8 Ej 239=true:=by kernel_rfl
theorem G86:H8 Ej 250=true:=by kernel_rfl
theorem RK:H8 Ej 43=true:=by kernel_rfl
theorem wL:H8 Ej 72=true:=by kernel_rfl
theorem rQ:H8 Ej 73=true:=by kernel_rfl
theorem wK:H8 Ej 74=true:=by kernel_rfl
theorem wJ:H8 Ej 78=true:=by kernel_rfl
theorem rO:Ej.eqGuardType Ej.depth 139=false:=by kernel_rfl
theorem cR:Je Ej 77 0 0=true:=by kernel_rfl
theorem vP:Je Ej 77 3 3=true:=by kernel_rfl
theorem kD:vL Ej 275 .u64=true:=by kernel_rfl
theorem nI:vL Ej 3 .i64=true:=by kernel_rfl
theorem rM:dO Ej 237 139 3=true:=by kernel_rfl
theorem bK:Ja Ej 137=true:=by kernel_rfl
theorem Hx:sliceB Ej 137 139 2=true:=by kernel_rfl
theorem Rj:sliceB Ej 63 137 1=true:=by kernel_rfl
theorem dI:(Ej.info? 3).bind (fun i=>i.zero.map Value.cells)=some (List.toArray [E0]):=by kernel_rfl
theorem GU:Rr Ej 51 1=true:=by kernel_rfl
end XBF
open XAF
open XLF
open XBF

def jQ (bx:List Box) (calls:Int):Option Bool:=
 bif (((decide (calls < 1))||(decide (20 < calls)))||(decide (2000 < (bx.length:Int)))) then
 (some false)
 else
 (each (fun a d (b:Int) c=>
   bif ((((((decide (a.ID≤b))||(decide (999999 < a.ID)))||((decide (a.Size≠40))&&((decide (a.Size≠20))||a.High)))||(decide (a.Load < 0)))||(decide (a.Discharge≤a.Load)))||(decide (calls≤a.Discharge))) then
   (some false)
   else
   (c a.ID))
  (fun(b:Int)=>
   some true) bx 0 0)
abbrev Kz (calls:Int):Bool:=((decide (calls < 1))||(decide (20 < calls)))
theorem ZE (bx:List Box) (calls:Int) (r:Bool) (h:jQ bx calls=some r):Pure Ej 13 [E3 bx,I64 calls] (·=BL r):=by
 unfold jQ at h
 refine Gy [.tmp 4] Tryz.func13 ø ø (Jr fun x=>(JLm (BL false) ø (G7 (x (Js fun z=>?_)))))
 refine Jr fun a0=>(JLm (I64 calls) ø (JLh (BL (decide (calls < 1))) (Ht ø ø ø) ø (JLm (BL (decide (calls < 1))) ø (JLo (I64 calls) [] ø .scf þ (fun hc=>G3 ø ø) ø (JLo (BL (decide (20 < calls))) [11] ø .scf ⟨Ua,þ⟩ (fun hc=>Ya ø ø ø) ø (JLh (BL (Kz calls)) (aJ ø ø ø ø) ø (JLm (BL (Kz calls)) ø (JLo (E3 bx) [] ø .scf þ (fun hc=>G3 ø ø) ø (JLo (Ei bx.length) [15] ø .scf ⟨Ua,þ⟩ (fun hc=>Q4 (f:=Box.av) (xs:=bx) Hz ø ø) ø (JLo (BL (decide (2000 < (bx.length:Int)))) [16] ø .scf ⟨Ua,þ⟩ (fun hc=>Ya ø ø ø) ø (JLh (BL ((Kz calls)||(decide (2000 < (bx.length:Int))))) (aJ ø ø ø ø) ø (G7 (a0 (JCc ø h (fun h hb=>?_) (fun h hb=>?_)))))))))))))))
 ·
  refine Jr fun a1=>(JLm (BL false) ø (G7 (a1 (Gt (fin1 BL h)))))
 ·
  refine Gn (z (Jr fun a2=>(JLm (I64 0) ø (G7 (a2 (Js fun a3=>Jr fun a4=>(JLm (E3 bx) ø (JLl Hz ø ø ø fun i=>(JLm (I64 0) ø (G7 (a4 (Gi ?_))))))))))))
  obtain⟨a5,j,k,g,h⟩:=Jg h
  refine H7 (fun c (b:Int)=>each a5 j (List.drop c bx) c b=some r) (fun c b=>[(1,I64 calls),(5,I64 b),(19,E3 bx),(20,Ei bx.length),(21,Ei c)]) (fun c b=>[]) (fun c=>bx.length - c) 0 0 h ⟨(.sm ø ø),þ,rfl⟩ ?_
  clear h
  intro c b d a8 a6
  refine Jr fun l=>(JLh (BL (decide ((c:Int) < (bx.length:Int)))) (Ht ø ø ø) ø (G7 (l (Js fun m=>Gm ø (fun hb=>?_) (fun hb=>?_)))))
  ·
   have e:=Q1 hb
   obtain⟨a,a7,n,o,h⟩:=J4 d e
   replace h:=Zt k h
   refine Gn (m (Js fun p=>Gi (Jr fun q=>(JLh (Ef a) (Gs (f:=Box.av) (xs:=bx) (y:=a) ø ø ø Hz n ø) ø (JLh (.agg (Box.cs a)) (Gk iL ø ø ø) ø (JLh (.ptr 1006 0) (Q3 1006 9 fG ø ø) ø (J7 (u:=.junk) (Hw (u:=.agg (Box.cs a)) (ds:=(Box.cs a)) nF ø ø ø ø ø ø ø ø) (G7 (q (fzQ [(1,I64 calls),(5,I64 b),(7,Ef a),(19,E3 bx),(20,Ei bx.length),(21,Ei c)] [] 1006 rfl rfl rfl þ rfl (Js fun s=>?_)))))))))))
   refine Jr fun t=>(JLh (Ef a) (Gb cR ø ø ø) ø (JLh (I64 a.ID) (Gj Ga ø ø ø) ø (JLm (I64 b) ø (JLh (BL (decide (a.ID≤b))) (oO ø ø ø) ø (JLm (BL (decide (a.ID≤b))) ø (JLo (Ef a) [] ø .scf þ (fun hc=>Gb cR ø ø ø) ø (JLo (I64 a.ID) [30] ø .scf ⟨Ua,þ⟩ (fun hc=>Gj Ga ø ø ø) ø (JLo (BL (decide (999999 < a.ID))) [31] ø .scf ⟨Ua,þ⟩ (fun hc=>Ya ø ø ø) ø (JLh (BL ((decide (a.ID≤b))||(decide (999999 < a.ID)))) (aJ ø ø ø ø) ø (JLm (BL ((decide (a.ID≤b))||(decide (999999 < a.ID)))) ø (JLo (.dptr ((Box.cs a).drop 2)) [] ø .scf þ (fun hc=>Gb bM ø ø ø) ø (JLo (U8 a.Size) [35] ø .scf ⟨Ua,þ⟩ (fun hc=>Gj dY ø ø ø) ø (JLo (BL (decide (a.Size≠40))) [36] ø .scf ⟨Ua,þ⟩ (fun hc=>dX ø ø ø) ø ?_)))))))))))))
   refine JLo (BL (decide (a.Size≠40))) [37] ø .scf ⟨Ua,þ⟩ (fun hc=>G3 ø ø) ø (JLo (.dptr ((Box.cs a).drop 2)) [] ø .optt þ (fun hc=>Gb bM ø ø ø) ø (JLo (U8 a.Size) [39] ø .optt ⟨Ua,þ⟩ (fun hc=>Gj dY ø ø ø) ø (JLo (BL (decide (a.Size≠20))) [40] ø .optt ⟨Ua,þ⟩ (fun hc=>dX ø ø ø) ø (JLo (BL (decide (a.Size≠20))) [41] ø .optt ⟨Ua,þ⟩ (fun hc=>G3 ø ø) ø (JLo (.dptr ((Box.cs a).drop 3)) [] ø .optf þ (fun hc=>Gb vP ø ø ø) ø (JLo (BL a.High) [43] ø .optf ⟨Ua,þ⟩ (fun hc=>Gj fJ ø ø ø) ø (Gd (u:=BL ((decide (a.Size≠20))||a.High)) [(42,BL (decide (a.Size≠20))),(44,_)] ø ø ø .optt ⟨.all id,.part,þ⟩ (fun hc=>aJ ø ø ø ø) ?_)))))))
   refine Gd (u:=BL ((decide (a.Size≠40))&&((decide (a.Size≠20))||a.High))) [(38,BL (decide (a.Size≠40))),(45,_)] ø ø ø .scf ⟨.all id,.part,þ⟩ (fun hc=>Jf ø ø ø ø) ?_
   refine JLh (BL (((decide (a.ID≤b))||(decide (999999 < a.ID)))||((decide (a.Size≠40))&&((decide (a.Size≠20))||a.High)))) (aJ ø ø ø ø) ø (JLm (BL (((decide (a.ID≤b))||(decide (999999 < a.ID)))||((decide (a.Size≠40))&&((decide (a.Size≠20))||a.High)))) ø (JLo (.dptr ((Box.cs a).drop 5)) [] ø .scf þ (fun hc=>Gb aD ø ø ø) ø (JLo (I64 a.Load) [49] ø .scf ⟨Ua,þ⟩ (fun hc=>Gj Ga ø ø ø) ø (JLo (BL (decide (a.Load < 0))) [50] ø .scf ⟨Ua,þ⟩ (fun hc=>Ht ø ø ø) ø (JLh (BL ((((decide (a.ID≤b))||(decide (999999 < a.ID)))||((decide (a.Size≠40))&&((decide (a.Size≠20))||a.High)))||(decide (a.Load < 0)))) (aJ ø ø ø ø) ø (JLm (BL ((((decide (a.ID≤b))||(decide (999999 < a.ID)))||((decide (a.Size≠40))&&((decide (a.Size≠20))||a.High)))||(decide (a.Load < 0)))) ø (JLo (.dptr ((Box.cs a).drop 5)) [] ø .scf þ (fun hc=>Gb aD ø ø ø) ø (JLo (I64 a.Load) [54] ø .scf ⟨Ua,þ⟩ (fun hc=>Gj Ga ø ø ø) ø (JLo (.dptr ((Box.cs a).drop 6)) [] ø .scf þ (fun hc=>Gb aC ø ø ø) ø (JLo (I64 a.Discharge) [56] ø .scf ⟨Ua,þ⟩ (fun hc=>Gj Ga ø ø ø) ø (JLo (BL (decide (a.Discharge≤a.Load))) [55,57] ø .scf ⟨Ua,Ua,þ⟩ (fun hc=>dF ø ø ø) ø (JLh (BL (((((decide (a.ID≤b))||(decide (999999 < a.ID)))||((decide (a.Size≠40))&&((decide (a.Size≠20))||a.High)))||(decide (a.Load < 0)))||(decide (a.Discharge≤a.Load)))) (aJ ø ø ø ø) ø (JLm (BL (((((decide (a.ID≤b))||(decide (999999 < a.ID)))||((decide (a.Size≠40))&&((decide (a.Size≠20))||a.High)))||(decide (a.Load < 0)))||(decide (a.Discharge≤a.Load)))) ø ?_)))))))))))))
   refine JLo (.dptr ((Box.cs a).drop 6)) [] ø .scf þ (fun hc=>Gb aC ø ø ø) ø (JLo (I64 a.Discharge) [61] ø .scf ⟨Ua,þ⟩ (fun hc=>Gj Ga ø ø ø) ø (JLo (I64 calls) [] ø .scf þ (fun hc=>G3 ø ø) ø (JLo (BL (decide (calls≤a.Discharge))) [62,63] ø .scf ⟨Ua,Ua,þ⟩ (fun hc=>dF ø ø ø) ø (JLh (BL ((((((decide (a.ID≤b))||(decide (999999 < a.ID)))||((decide (a.Size≠40))&&((decide (a.Size≠20))||a.High)))||(decide (a.Load < 0)))||(decide (a.Discharge≤a.Load)))||(decide (calls≤a.Discharge)))) (aJ ø ø ø ø) ø (G7 (t (JCc ø h (fun h hb=>?_) (fun h hb=>?_))))))))
   ·
    refine Jr fun v=>(JLm (BL false) ø (G7 (v (Gt (fin1 BL h)))))
   ·
    refine Gn (s (G2 (JLh (Ef a) (Gb cR ø ø ø) ø (JLh (I64 a.ID) (Gj Ga ø ø ø) ø (JLm (I64 a.ID) ø (G7 (p (G2 (JLh (I64 ((c+1:Nat):Int)) (Hf (Hq e i) ø ø ø) ø (JLm (I64 ((c+1:Nat):Int)) ø (G7 (a6 _ _ (c+1) a.ID (app1 o h) (by omega) ⟨(.sm ø ø),þ,rfl⟩))))))))))))
  ·
   have h:=app1 g (J5 d (Hg hb))
   refine H5 (a3 (Jr fun w=>(JLm (BL true) ø (G7 (w (Gt (fin1 BL h)))))))

def aH (s:H2) (bx:List Box):Option Bool:=
 bnd (jM s) fun a=>
 bnd (bif a then jQ bx 20 else some default) fun b=>
 some (a&&b)
theorem lR (s:H2) (bx:List Box) (r:Bool) (h:aH s bx=some r):Pure Ej 74 [.agg (H2.cs s),E3 bx] (·=BL r):=by
 unfold aH at h
 refine Gy [.tmp 4] Tryz.func74 ø ø (Jr fun c=>(JLh (.ptr 1064 0) (Qr (cs:=(H2.cs s)) 1064 ø ø ø ø ø) ø (JLm (BL false) ø (G7 (c (H1 [(1,E3 bx),(2,Ec s)] [] 1064 rfl rfl rfl þ rfl (by exact⟨.conv (.same rfl),.ptr,þ⟩) (Jr fun d=>(JLh (.agg (H2.cs s)) (Gk Qa ø ø ø) ø ?_))))))))
 obtain⟨a,e,h⟩:=Ge h
 refine JLh (BL a) (Gq ø (uN.down s a e) RK ⟨ø,ø,þ⟩) ø (JLm (BL a) ø (JLo (E3 bx) [] ø .sct þ (fun hc=>G3 ø ø) ø ?_))
 obtain⟨b,f,h⟩:=Ge h
 refine JLo (BL b) [8] ø .sct ⟨Ua,þ⟩ (fun hc=>Gq (args:=[E3 bx,I64 20]) ø (ZE bx 20 b (Gw hc f)) H16 ⟨ø,ø,ø,ø,þ⟩) ø (JLh (BL (a&&b)) (Jf ø ø ø ø) ø (JLm (BL (a&&b)) ø (G7 (d (Gt (fin1 BL h))))))

def dS (c:G1) (a:G5):Option Bool:=
 some (decide (c.G5=a))
theorem xA (c:G1) (a:G5) (r:Bool) (h:dS c a=some r):Pure Ej 214 [.agg (G1.cs c),.dptr [I64 a.Load,I64 a.Discharge]] (·=BL r):=by
 unfold dS at h
 refine Gy [.tmp 3] Tryz.func214 ø ø (Jr fun b=>(JLh (.ptr 1150 0) (Qr (cs:=[I64 c.G5.Load,I64 c.G5.Discharge,I64 c.Whole,I64 c.Half]) 1150 ø ø ø ø ø) ø (JLm (BL false) ø (G7 (b (H1 [(1,.dptr [I64 a.Load,I64 a.Discharge]),(2,Ed c)] [] 1150 rfl rfl rfl þ rfl (by exact⟨.conv (.same rfl),.ptr,þ⟩) ?_))))))
 refine Jr fun d=>(JLh (Ed c) (Gb Q0 ø ø ø) ø (JLh (.agg [I64 c.G5.Load,I64 c.G5.Discharge]) (Gk Hm ø ø ø) ø (JLh (.agg [I64 a.Load,I64 a.Discharge]) (Gk Hm ø ø ø) ø (JLh (BL (decide (c.G5=a))) (hY (vs:=[.int .i64 c.G5.Load,.int .i64 c.G5.Discharge]) (us:=[.int .i64 a.Load,.int .i64 a.Discharge]) 4 ø (zJ c.G5 a) mF rO ø ø ø) ø (JLm (BL (decide (c.G5=a))) ø (G7 (d (Gt (fin1 BL h)))))))))

def Qp (s:List G1) (f:G1→Option Bool):Option Int:=
 each (fun b c (d:Unit) a=>
  bnd (f b) fun e=>
  bif e then
  (some (c:Int))
  else
  (a ()))
 (fun(d:Unit)=>
  some (-1)) s 0 ()
theorem dE (s:List G1) (f:G1→Option Bool) (f_f:FuncId) (f_c:List AV) (f_B:H8 Ej f_f=true) (f_d:Yn (fun _=>false) f_c=true) (f_w:∀ a0 q,f a0=some q→Pure Ej f_f ([.agg (G1.cs a0)]++f_c) (·=BL q)) (r:Int) (h:Qp s f=some r):Pure Ej 175 [E4 s,.fn f_f f_c] (·=I64 r):=by
 unfold Qp at h
 refine Gy [.tmp 4] Tryz.func175 ø ø (Jr fun x=>(JLm (I64 0) ø (G7 (x (Js fun z=>Jr fun a1=>(JLm (E4 s) ø (JLl H6 ø ø ø fun a2=>(JLm (I64 0) ø (G7 (a1 (Gi ?_)))))))))))
 obtain⟨a3,i,j,g,h⟩:=Jg h
 refine H7 (fun a (c:Unit)=>each a3 i (List.drop a s) a c=some r) (fun a c=>[(0,E4 s),(1,.fn f_f f_c),(7,Ei s.length),(8,Ei a)]) (fun a c=>[]) (fun a=>s.length - a) 0 () h ⟨⟨.same ø,.same (Ye _ _ f_d),.same ø,.same ø,þ⟩,þ,ø⟩ ?_
 clear h
 intro a c d a7 a4
 refine Jr fun k=>(JLh (BL (decide ((a:Int) < (s.length:Int)))) (Ht ø ø ø) ø (G7 (k (Js fun l=>Gm ø (fun hb=>?_) (fun hb=>?_)))))
 ·
  have e:=Q1 hb
  obtain⟨b,a6,m,n,h⟩:=J4 d e
  replace h:=Zt j h
  refine Gn (l (Js fun o=>Gi (Jr fun p=>(JLm (Ei a) ø (JLm (Ei a) ø (G7 (p (Jr fun t=>(JLm (.fn f_f f_c) ø (JLm (E4 s) ø (JLm (Ei a) ø (JLh (Ed b) (Gs (f:=G1.av) (xs:=s) (y:=b) ø ø ø H6 m ø) ø (JLh (.agg (G1.cs b)) (Gk Qw ø ø ø) ø ?_)))))))))))))
  obtain⟨a5,u,h⟩:=Ge h
  refine JLh (BL a5) (rD (args:=[.agg (G1.cs b)]) (caps:=f_c) ø ø (f_w b _ u) f_B ⟨ø,ø,þ⟩ f_d) ø (G7 (t (JCc ø h (fun h hb=>?_) (fun h hb=>?_))))
  ·
   refine Jr fun v=>(JLm (Ei a) ø (JLm (Ei a) ø (G7 (v (Gt (fin1 I64 h))))))
  ·
   refine Gn (o (G2 (JLh (I64 ((a+1:Nat):Int)) (Hf (Hq e a2) ø ø ø) ø (JLm (I64 ((a+1:Nat):Int)) ø (G7 (a4 _ _ (a+1) () (app1 n h) (by omega) ⟨⟨.same rfl,.same (Ye _ _ f_d),.same rfl,.same rfl,þ⟩,þ,rfl⟩))))))
 ·
  have h:=app1 g (J5 d (Hg hb))
  refine H5 (z (Jr fun w=>(JLm (I64 (-1)) ø (G7 (w (Gt (fin1 I64 h)))))))

def eV (a:G5) (b:G5):Option Bool:=
 some (((decide (a.Load < b.Load))&&(decide (b.Load < a.Discharge)))&&(decide (a.Discharge < b.Discharge)))
abbrev M0 (a:G5) (b:G5):Bool:=((decide (a.Load < b.Load))&&(decide (b.Load < a.Discharge)))
abbrev M1 (b:G5):List AV:=[I64 b.Load,I64 b.Discharge]
theorem lT (a:G5) (b:G5) (r:Bool) (h:eV a b=some r):Pure Ej 72 [.agg [I64 a.Load,I64 a.Discharge],.agg [I64 b.Load,I64 b.Discharge]] (·=BL r):=by
 unfold eV at h
 refine Gy [.tmp 4] Tryz.func72 ø ø (Jr fun c=>(JLh (.ptr 1054 0) (Qr (cs:=(M1 a)) 1054 ø ø ø ø ø) ø (JLh (.ptr 1055 0) (Qr (cs:=(M1 b)) 1055 ø ø ø ø ø) ø (JLm (BL false) ø (G7 (c (H1 [(2,.dptr (M1 a)),(3,.ptr 1055 0)] [(1055,.box 139 (M1 b))] 1054 rfl rfl rfl ⟨⟨_,rfl,.boxEq rfl rfl⟩,þ⟩ rfl (by exact⟨.ptr,.conv (.same rfl),þ⟩) (H1 [(2,.dptr (M1 a)),(3,.dptr (M1 b))] [] 1055 rfl rfl rfl þ rfl (by exact⟨.conv (.same rfl),.ptr,þ⟩) ?_))))))))
 refine Jr fun d=>(JLh (.dptr (M1 a)) (Gb Jm ø ø ø) ø (JLh (I64 a.Load) (Gj Ga ø ø ø) ø (JLh (.dptr (M1 b)) (Gb Jm ø ø ø) ø (JLh (I64 b.Load) (Gj Ga ø ø ø) ø (JLh (BL (decide (a.Load < b.Load))) (Ht ø ø ø) ø (JLm (BL (decide (a.Load < b.Load))) ø (JLo (.dptr (M1 b)) [] ø .sct þ (fun hc=>Gb Jm ø ø ø) ø (JLo (I64 b.Load) [11] ø .sct ⟨Ua,þ⟩ (fun hc=>Gj Ga ø ø ø) ø (JLo (.dptr [I64 a.Discharge]) [] ø .sct þ (fun hc=>Gb Jv ø ø ø) ø (JLo (I64 a.Discharge) [13] ø .sct ⟨Ua,þ⟩ (fun hc=>Gj Ga ø ø ø) ø (JLo (BL (decide (b.Load < a.Discharge))) [12,14] ø .sct ⟨Ua,Ua,þ⟩ (fun hc=>Ht ø ø ø) ø (JLh (BL (M0 a b)) (Jf ø ø ø ø) ø (JLm (BL (M0 a b)) ø ?_)))))))))))))
 refine JLo (.dptr [I64 a.Discharge]) [] ø .sct þ (fun hc=>Gb Jv ø ø ø) ø (JLo (I64 a.Discharge) [18] ø .sct ⟨Ua,þ⟩ (fun hc=>Gj Ga ø ø ø) ø (JLo (.dptr [I64 b.Discharge]) [] ø .sct þ (fun hc=>Gb Jv ø ø ø) ø (JLo (I64 b.Discharge) [20] ø .sct ⟨Ua,þ⟩ (fun hc=>Gj Ga ø ø ø) ø (JLo (BL (decide (a.Discharge < b.Discharge))) [19,21] ø .sct ⟨Ua,Ua,þ⟩ (fun hc=>Ht ø ø ø) ø (JLh (BL ((M0 a b)&&(decide (a.Discharge < b.Discharge)))) (Jf ø ø ø ø) ø (JLm (BL ((M0 a b)&&(decide (a.Discharge < b.Discharge)))) ø (G7 (d (Gt (fin1 BL h))))))))))

def aB (h_:G5) (a:G5):Option Bool:=
 bnd (eV a h_) fun b=>
 some (!b)
theorem wY (h_:G5) (a:G5) (r:Bool) (h:aB h_ a=some r):Pure Ej 216 [.agg [I64 h_.Load,I64 h_.Discharge],.dptr [I64 a.Load,I64 a.Discharge]] (·=BL r):=by
 unfold aB at h
 refine Gy [.tmp 3] Tryz.func216 ø ø (Jr fun d=>(JLh (.ptr 1151 0) (Qr (cs:=[I64 h_.Load,I64 h_.Discharge]) 1151 ø ø ø ø ø) ø (JLm (BL false) ø (G7 (d (H1 [(1,.dptr [I64 a.Load,I64 a.Discharge]),(2,.dptr [I64 h_.Load,I64 h_.Discharge])] [] 1151 rfl rfl rfl þ rfl (by exact⟨.conv (.same rfl),.ptr,þ⟩) (Jr fun e=>(JLh (.agg [I64 a.Load,I64 a.Discharge]) (Gk Hm ø ø ø) ø (JLh (.agg [I64 h_.Load,I64 h_.Discharge]) (Gk Hm ø ø ø) ø ?_)))))))))
 obtain⟨c,f,h⟩:=Ge h
 refine JLh (BL c) (Gq ø (lT a h_ c f) wL ⟨ø,ø,ø,ø,þ⟩) ø (JLh (BL (!c)) (Ym (b:=c) ø ø) ø (JLm (BL (!c)) ø (G7 (e (Gt (fin1 BL h))))))

def Zg (s:List G5) (f:G5→Option Bool):Option Int:=
 each (fun b c (d:Unit) a=>
  bnd (f b) fun e=>
  bif e then
  (some (c:Int))
  else
  (a ()))
 (fun(d:Unit)=>
  some (-1)) s 0 ()
theorem lE (s:List G5) (f:G5→Option Bool) (f_f:FuncId) (f_c:List AV) (f_B:H8 Ej f_f=true) (f_d:Yn (fun _=>false) f_c=true) (f_w:∀ a0 q,f a0=some q→Pure Ej f_f ([.agg [I64 a0.Load,I64 a0.Discharge]]++f_c) (·=BL q)) (r:Int) (h:Zg s f=some r):Pure Ej 239 [E2 s,.fn f_f f_c] (·=I64 r):=by
 unfold Zg at h
 refine Gy [.tmp 4] Tryz.func239 ø ø (Jr fun x=>(JLm (I64 0) ø (G7 (x (Js fun z=>Jr fun a1=>(JLm (E2 s) ø (JLl Hx ø ø ø fun a2=>(JLm (I64 0) ø (G7 (a1 (Gi ?_)))))))))))
 obtain⟨a3,i,j,g,h⟩:=Jg h
 refine H7 (fun a (c:Unit)=>each a3 i (List.drop a s) a c=some r) (fun a c=>[(0,E2 s),(1,.fn f_f f_c),(7,Ei s.length),(8,Ei a)]) (fun a c=>[]) (fun a=>s.length - a) 0 () h ⟨⟨.same ø,.same (Ye _ _ f_d),.same ø,.same ø,þ⟩,þ,ø⟩ ?_
 clear h
 intro a c d a7 a4
 refine Jr fun k=>(JLh (BL (decide ((a:Int) < (s.length:Int)))) (Ht ø ø ø) ø (G7 (k (Js fun l=>Gm ø (fun hb=>?_) (fun hb=>?_)))))
 ·
  have e:=Q1 hb
  obtain⟨b,a6,m,n,h⟩:=J4 d e
  replace h:=Zt j h
  refine Gn (l (Js fun o=>Gi (Jr fun p=>(JLm (Ei a) ø (JLm (Ei a) ø (G7 (p (Jr fun t=>(JLm (.fn f_f f_c) ø (JLm (E2 s) ø (JLm (Ei a) ø (JLh (.dptr [I64 b.Load,I64 b.Discharge]) (Gs (f:=G5.av) (xs:=s) (y:=b) ø ø ø Hx m ø) ø (JLh (.agg [I64 b.Load,I64 b.Discharge]) (Gk Hm ø ø ø) ø ?_)))))))))))))
  obtain⟨a5,u,h⟩:=Ge h
  refine JLh (BL a5) (rD (args:=[.agg [I64 b.Load,I64 b.Discharge]]) (caps:=f_c) ø ø (f_w b _ u) f_B ⟨ø,ø,þ⟩ f_d) ø (G7 (t (JCc ø h (fun h hb=>?_) (fun h hb=>?_))))
  ·
   refine Jr fun v=>(JLm (Ei a) ø (JLm (Ei a) ø (G7 (v (Gt (fin1 I64 h))))))
  ·
   refine Gn (o (G2 (JLh (I64 ((a+1:Nat):Int)) (Hf (Hq e a2) ø ø ø) ø (JLm (I64 ((a+1:Nat):Int)) ø (G7 (a4 _ _ (a+1) () (app1 n h) (by omega) ⟨⟨.same rfl,.same (Ye _ _ f_d),.same rfl,.same rfl,þ⟩,þ,rfl⟩))))))
 ·
  have h:=app1 g (J5 d (Hg hb))
  refine H5 (z (Jr fun w=>(JLm (I64 (-1)) ø (G7 (w (Gt (fin1 I64 h)))))))

def Re (s:List G5) (f:G5→Option Bool):Option Bool:=
 bnd (Zg s f) fun a=>
 some (decide (0≤a))
theorem jO (s:List G5) (f:G5→Option Bool) (f_f:FuncId) (f_c:List AV) (f_B:H8 Ej f_f=true) (f_d:Yn (fun _=>false) f_c=true) (f_w:∀ a0 q,f a0=some q→Pure Ej f_f ([.agg [I64 a0.Load,I64 a0.Discharge]]++f_c) (·=BL q)) (r:Bool) (h:Re s f=some r):Pure Ej 215 [E2 s,.fn f_f f_c] (·=BL r):=by
 unfold Re at h
 refine Gy [.tmp 4] Tryz.func215 ø ø (Jr fun b=>(JLm (BL false) ø (G7 (b (Jr fun c=>(JLm (E2 s) ø (JLm (.fn f_f f_c) ø ?_)))))))
 obtain⟨a,d,h⟩:=Ge h
 refine JLh (I64 a) (Gq ø (lE s f f_f f_c f_B f_d f_w a d) G87 ⟨ø,ø,ø,f_d,þ⟩) ø (JLh (BL (decide (0≤a))) (dF ø ø ø) ø (JLm (BL (decide (0≤a))) ø (G7 (c (Gt (fin1 BL h))))))

def bW (counts:List G1) (l:List G5):Option ((List G1)×Int):=
 each (fun d f (a:(List G1)) e=>
  bnd (Qp counts (fun z0=>dS z0 d)) fun b=>
  bnd (bif (!(decide (b < 0))) then chk ((f:Int)+1) some else some 0) fun g=>
  bnd (bif (!(decide (b < 0))) then cN g l.length else some 0) fun h=>
  bnd (bif (!(decide (b < 0))) then Re (l.drop h) (fun z0=>aB z0 d) else some default) fun i=>
  bif ((decide (b < 0))||i) then
  (some ([],270))
  else
  (Jx counts b fun c=>
   need (decide ((a.length+[c].length)*32≤140737488355328∧a.length+[c].length≤maxLen)) <|
   e (a++[c])))
 (fun(a:(List G1))=>
  some (a,0)) l 0 []
theorem qX (counts:List G1) (l:List G5) (r:(List G1)×Int) (h:bW counts l=some r):Pure Ej 165 [E4 counts,E2 l] (·=.tup [E4 r.1,I64 r.2]):=by
 unfold bW at h
 refine Gy [.tmp 4,.tmp 5] Tryz.func165 ø ø (Jr fun b2=>(JLh (E4 ([]:List G1)) (Qu 4 ø ø) ø (JLm (I64 0) ø (G7 (b2 (Jr fun b3=>(JLh (OW 1117 4 G1.av ([]:List G1)) (eP 1117 155 4 ø ø ø) ø (G7 (b3 (Js fun b4=>Jr fun b5=>(JLm (E2 l) ø (JLl Hx ø ø ø fun n=>(JLm (I64 0) ø (G7 (b5 (Gi ?_))))))))))))))))
 obtain⟨b6,o,p,m,h⟩:=Jg h
 refine H7 (fun c (b:(List G1))=>each b6 o (List.drop c l) c b=some r) (fun c b=>[(0,E4 counts),(1,E2 l),(6,OW 1117 4 G1.av b),(10,E2 l),(11,Ei l.length),(12,Ei c)]) (fun c b=>[(1117,.spare 155 4 b.length b.length)]) (fun c=>l.length - c) 0 [] h ⟨(.sm ø ø),⟨⟨_,rfl,.same⟩,þ⟩,rfl⟩ ?_
 clear h
 intro c b g c0 b7
 refine Jr fun s=>(JLh (BL (decide ((c:Int) < (l.length:Int)))) (Ht ø ø ø) ø (G7 (s (Js fun t=>Gm ø (fun hb=>?_) (fun hb=>?_)))))
 ·
  have i:=Q1 hb
  obtain⟨a,b9,v,w,h⟩:=J4 g i
  replace h:=Zt p h
  refine Gn (t (Js fun x=>Gi (Jr fun z=>(JLm (Ei c) ø (JLh (.dptr [I64 a.Load,I64 a.Discharge]) (Gs (f:=G5.av) (xs:=l) (y:=a) ø ø ø Hx v ø) ø (JLh (.agg [I64 a.Load,I64 a.Discharge]) (Gk Hm ø ø ø) ø (JLh (.ptr 1118 0) (Q3 1118 2 Z1 ø ø) ø (JLm (Ei c) ø (J7 (u:=.junk) (Hw (u:=.agg [I64 a.Load,I64 a.Discharge]) (ds:=[I64 a.Load,I64 a.Discharge]) cL ø ø ø ø ø ø ø ø) (G7 (z ?_)))))))))))
  refine fzQ [(0,E4 counts),(1,E2 l),(6,OW 1117 4 G1.av b),(7,Ei c),(8,.dptr [I64 a.Load,I64 a.Discharge]),(10,E2 l),(11,Ei l.length),(12,Ei c)] [(1117,.spare 155 4 b.length b.length)] 1118 rfl rfl rfl ⟨⟨_,rfl,.same⟩,þ⟩ rfl (Jr fun a0=>(JLm (E4 counts) ø (JLh (.fn 214 [.dptr [I64 a.Load,I64 a.Discharge]]) (oM (cs:=[.dptr [I64 a.Load,I64 a.Discharge]]) ø ø) ø ?_)))
  obtain⟨e,a1,h⟩:=Ge h
  refine JLh (I64 e) (Gq ø (dE counts (fun z0=>dS z0 a) 214 [.dptr [I64 a.Load,I64 a.Discharge]] G8c ø (fun z0 q hq=>xA z0 a q hq) e a1) HK ⟨ø,ø,ø,ø,þ⟩) ø (JLm (I64 e) ø (G7 (a0 (Js fun a2=>Jr fun a3=>(JLm (I64 e) ø (JLh (BL (decide (e < 0))) (Ht ø ø ø) ø (JLm (BL (decide (e < 0))) ø (JLo (E2 l) [] ø .scf þ (fun hc=>G3 ø ø) ø (JLo (Ei c) [] ø .scf þ (fun hc=>G3 ø ø) ø ?_)))))))))
  obtain⟨b8,a4,h⟩:=Ge h
  refine JLo (I64 b8) [24] ø .scf ⟨Ua,þ⟩ (fun hc=>Hf (bS (Gw hc a4)) ø ø ø) ø ?_
  obtain⟨j,a5,h⟩:=Ge h
  refine JLo (E2 (l.drop j)) [23,25] ø .scf ⟨Ua,Ua,þ⟩ (fun hc=>H47 (f:=G5.av) (xs:=l) ø ø ø Hx (Rw (Gw hc a5))) ø (JLo (.fn 216 [.dptr [I64 a.Load,I64 a.Discharge]]) [] ø .scf þ (fun hc=>oM (cs:=[.dptr [I64 a.Load,I64 a.Discharge]]) ø ø) ø ?_)
  obtain⟨k,a6,h⟩:=Ge h
  refine JLo (BL k) [26,27] ø .scf ⟨Ua,Ua,þ⟩ (fun hc=>Gq (args:=[E2 (l.drop j),.fn 216 [.dptr [I64 a.Load,I64 a.Discharge]]]) ø (jO (l.drop j) (fun z0=>aB z0 a) 216 [.dptr [I64 a.Load,I64 a.Discharge]] G8a ø (fun z0 q hq=>wY z0 a q hq) k (Gw hc a6)) G8b ⟨ø,ø,ø,ø,þ⟩) ø (JLh (BL ((decide (e < 0))||k)) (aJ ø ø ø ø) ø (G7 (a3 (JCc ø h (fun h hb=>?_) (fun h hb=>?_)))))
  ·
   refine Jr fun a7=>(JLh (E4 ([]:List G1)) (Qu 4 ø ø) ø (JLm (I64 270) ø (G7 (a7 (Gt (⟨[E4 ([]:List G1),I64 270],[],þ,ø,⟨⟨_,ø,.conv (.same ø)⟩,⟨_,ø,.conv (.same ø)⟩,þ⟩,ø,congrArg (fun r:(List G1)×Int=>(.tup [E4 r.1,I64 r.2]:AV)) (Nv h)⟩))))))
  ·
   refine Gn (a2 (G2 (JLm (OW 1117 4 G1.av b) ø (JLm (E4 counts) ø (JLm (I64 e) ø ?_)))))
   obtain⟨c1,d,a8,a9,h⟩:=Q8 h
   refine JLh (Ed d) (Gs (f:=G1.av) (xs:=counts) (y:=d) ø ø ø H6 a9 a8) ø (JLh (.agg (G1.cs d)) (Gk Qw ø ø ø) ø (JLh (E4 [d]) (Hn (xs:=[.agg (G1.cs d)]) ø ⟨ø,ø,þ⟩ H6 R7 ø ø ø ø) ø ?_))
   obtain⟨b0,h⟩:=J2 h
   refine JLh (OW 1117 4 G1.av (b++[d])) (R3 (f:=G1.av) (xs:=b) (ys:=[d]) ø ø ø ø H6 fK b0 (fun _=>ø) (.inl ø) ø) ø (JLm (OW 1117 4 G1.av (b++[d])) ø (G7 (x (G2 (JLh (I64 ((c+1:Nat):Int)) (Hf (Hq i n) ø ø ø) ø (JLm (I64 ((c+1:Nat):Int)) ø (G7 (b7 _ _ (c+1) (b++[d]) (app1 w h) (by omega) ⟨(.sm ø ø),⟨⟨_,rfl,.same⟩,þ⟩,rfl⟩))))))))
 ·
  have h:=app1 m (J5 g (Hg hb))
  refine H5 (b4 (Jr fun b1=>(JLm (OW 1117 4 G1.av b) ø (JLm (OW 1117 4 G1.av b) ø (JLm (I64 0) ø (G7 (b1 (Gt (⟨[E4 b,I64 0],[],þ,ø,⟨⟨_,ø,.conv (.list ø)⟩,⟨_,ø,.conv (.same ø)⟩,þ⟩,ø,congrArg (fun r:(List G1)×Int=>(.tup [E4 r.1,I64 r.2]:AV)) (Nv h)⟩)))))))))

def aR (s:H2):Option Int:=
 each (fun c e (a:Int) d=>
  jp (fun b=>
   bif ((decide ((e:Int)=0))||(decide (a < c.Tiers))) then
   (b c.Tiers)
   else
   (b a)) fun(f:Int)=>
  d f)
 (fun(a:Int)=>
  some a) s.Columns 0 0
theorem dR (s:H2) (r:Int) (h:aR s=some r):Pure Ej 166 [.agg (H2.cs s)] (·=I64 r):=by
 unfold aR at h
 refine Gy [.tmp 2] Tryz.func166 ø ø (Jr fun x=>(JLh (.ptr 1119 0) (Qr (cs:=(H2.cs s)) 1119 ø ø ø ø ø) ø (JLm (I64 0) ø (G7 (x (H1 [(1,Ec s)] [] 1119 rfl rfl rfl þ rfl (by exact⟨.ptr,þ⟩) (Jr fun z=>(JLm (I64 0) ø (G7 (z (Js fun a0=>Jr fun a1=>(JLh (Ec s) (Gb J1 ø ø ø) ø (JLh (E5 s.Columns) (Gj Jd ø ø ø) ø (JLl Ha ø ø ø fun a2=>(JLm (I64 0) ø (G7 (a1 (Gi ?_))))))))))))))))))
 obtain⟨a3,k,l,i,h⟩:=Jg h
 refine H7 (fun a (c:Int)=>each a3 k (List.drop a s.Columns) a c=some r) (fun a c=>[(3,I64 c),(7,E5 s.Columns),(8,Ei s.Columns.length),(9,Ei a)]) (fun a c=>[]) (fun a=>s.Columns.length - a) 0 0 h ⟨(.sm ø ø),þ,rfl⟩ ?_
 clear h
 intro a c e a6 a4
 refine Jr fun m=>(JLh (BL (decide ((a:Int) < (s.Columns.length:Int)))) (Ht ø ø ø) ø (G7 (m (Js fun n=>Gm ø (fun hb=>?_) (fun hb=>?_)))))
 ·
  have g:=Q1 hb
  obtain⟨b,a5,o,p,h⟩:=J4 e g
  replace h:=Zt l h
  refine Gn (n ?_)
  obtain⟨q,j,h⟩:=bE h
  refine Rh (fun d:Int=>q d=some r) (fun d=>[(3,I64 d),(7,E5 s.Columns),(8,Ei s.Columns.length),(9,Ei a)]) (fun d=>[]) (fun Kj20 ej20=>?_) ?_
  ·
   refine Gi (Jr fun t=>(JLm (Ei a) ø (JLh (Ee b) (Gs (f:=Gc.av) (xs:=s.Columns) (y:=b) ø ø ø Ha o ø) ø (JLh (.agg (Gc.cs b)) (Gk Z4 ø ø ø) ø (JLh (.ptr 1120 0) (Q3 1120 12 fH ø ø) ø (JLm (Ei a) ø (J7 (u:=.junk) (Hw (u:=.agg (Gc.cs b)) (ds:=(Gc.cs b)) jX ø ø ø ø ø ø ø ø) (G7 (t (fzQ [(3,I64 c),(4,Ei a),(5,Ee b),(7,E5 s.Columns),(8,Ei s.Columns.length),(9,Ei a)] [] 1120 rfl rfl rfl þ rfl ?_))))))))))
   refine Jr fun v=>(JLm (Ei a) ø (JLh (BL (decide ((a:Int)=0))) (Rk ø ø ø) ø (JLm (BL (decide ((a:Int)=0))) ø (JLo (.dptr ((Gc.cs b).drop 3)) [] ø .scf þ (fun hc=>Gb Zj ø ø ø) ø (JLo (I64 b.Tiers) [17] ø .scf ⟨Ua,þ⟩ (fun hc=>Gj Ga ø ø ø) ø (JLo (I64 c) [] ø .scf þ (fun hc=>G3 ø ø) ø (JLo (BL (decide (c < b.Tiers))) [18,19] ø .scf ⟨Ua,Ua,þ⟩ (fun hc=>Ya ø ø ø) ø (JLh (BL ((decide ((a:Int)=0))||(decide (c < b.Tiers)))) (aJ ø ø ø ø) ø (G7 (v (JCc ø h (fun h hb=>?_) (fun h hb=>?_))))))))))))
   ·
    refine G2 (JLh (.dptr ((Gc.cs b).drop 3)) (Gb Zj ø ø ø) ø (JLh (I64 b.Tiers) (Gj Ga ø ø ø) ø (JLm (I64 b.Tiers) ø (G7 (ej20 _ _ b.Tiers h ⟨(.sm ø ø),þ,rfl⟩)))))
   ·
    refine Gn (ej20 _ _ c h ⟨(.sm ø ø),þ,rfl⟩)
  ·intro d h
   replace h:=app1 j h
   refine G2 (JLh (I64 ((a+1:Nat):Int)) (Hf (Hq g a2) ø ø ø) ø (JLm (I64 ((a+1:Nat):Int)) ø (G7 (a4 _ _ (a+1) d (app1 p h) (by omega) ⟨(.sm ø ø),þ,rfl⟩))))
 ·
  have h:=app1 i (J5 e (Hg hb))
  refine H5 (a0 (Jr fun w=>(JLm (I64 c) ø (JLm (I64 c) ø (G7 (w (Gt (fin1 I64 h))))))))

def jR (x:Int) (y:Int):Option (Int×Int):=
 some (IntKind.u64.wrap ((IntKind.u64.wrap ((IntKind.u64.wrap ((Qg .u64 x 32)*(Qg .u64 y 32)))+(Qg .u64 (IntKind.u64.wrap ((IntKind.u64.wrap ((Qg .u64 x 32)*(Q9 .u64 y 4294967295)))+(Qg .u64 (IntKind.u64.wrap ((Q9 .u64 x 4294967295)*(Q9 .u64 y 4294967295))) 32))) 32)))+(Qg .u64 (IntKind.u64.wrap ((Q9 .u64 (IntKind.u64.wrap ((IntKind.u64.wrap ((Qg .u64 x 32)*(Q9 .u64 y 4294967295)))+(Qg .u64 (IntKind.u64.wrap ((Q9 .u64 x 4294967295)*(Q9 .u64 y 4294967295))) 32))) 4294967295)+(IntKind.u64.wrap ((Q9 .u64 x 4294967295)*(Qg .u64 y 32))))) 32)),IntKind.u64.wrap (x*y))
abbrev M2 (x:Int) (y:Int):Int:=(IntKind.u64.wrap ((IntKind.u64.wrap ((Qg .u64 x 32)*(Q9 .u64 y 4294967295)))+(Qg .u64 (IntKind.u64.wrap ((Q9 .u64 x 4294967295)*(Q9 .u64 y 4294967295))) 32)))
abbrev M3 (x:Int) (y:Int):Int:=(IntKind.u64.wrap ((Q9 .u64 (M2 x y) 4294967295)+(IntKind.u64.wrap ((Q9 .u64 x 4294967295)*(Qg .u64 y 32)))))
abbrev M4 (x:Int) (y:Int):Int:=(IntKind.u64.wrap ((IntKind.u64.wrap ((IntKind.u64.wrap ((Qg .u64 x 32)*(Qg .u64 y 32)))+(Qg .u64 (M2 x y) 32)))+(Qg .u64 (M3 x y) 32)))
abbrev M5 (x:Int) (y:Int):Int:=(IntKind.u64.wrap ((Q9 .u64 x 4294967295)*(Q9 .u64 y 4294967295)))
theorem vO (x:Int) (y:Int) (r:Int×Int) (h:jR x y=some r):Pure Ej 250 [.sc (.int .u64 x),.sc (.int .u64 y)] (·=.tup [.sc (.int .u64 r.1),.sc (.int .u64 r.2)]):=by
 unfold jR at h
 refine Gy [.tmp 4,.tmp 5] Tryz.func250 ø ø (Jr fun d=>(JLm (.sc (.int .u64 0)) ø (JLm (.sc (.int .u64 0)) ø (G7 (d (Jr fun e=>(JLm (.sc (.int .u64 x)) ø (JLh (.sc (.int .u64 (Q9 .u64 x 4294967295))) (H4d ø ø ø) ø (JLm (.sc (.int .u64 (Q9 .u64 x 4294967295))) ø (G7 (e (Jr fun f=>(JLm (.sc (.int .u64 x)) ø (JLh (.sc (.int .u64 (Qg .u64 x 32))) (xD (s:=32) ø ø ø ø) ø (JLm (.sc (.int .u64 (Qg .u64 x 32))) ø (G7 (f (Jr fun g=>(JLm (.sc (.int .u64 y)) ø (JLh (.sc (.int .u64 (Q9 .u64 y 4294967295))) (H4d ø ø ø) ø (JLm (.sc (.int .u64 (Q9 .u64 y 4294967295))) ø (G7 (g (Jr fun i=>(JLm (.sc (.int .u64 y)) ø (JLh (.sc (.int .u64 (Qg .u64 y 32))) (xD (s:=32) ø ø ø ø) ø (JLm (.sc (.int .u64 (Qg .u64 y 32))) ø (G7 (i ?_)))))))))))))))))))))))))))))
 refine Jr fun j=>(JLm (.sc (.int .u64 (Q9 .u64 x 4294967295))) ø (JLm (.sc (.int .u64 (Q9 .u64 y 4294967295))) ø (JLh (.sc (.int .u64 (M5 x y))) (fF ø ø ø ø) ø (JLm (.sc (.int .u64 (M5 x y))) ø (G7 (j ?_))))))
 refine Jr fun k=>(JLm (.sc (.int .u64 (Qg .u64 x 32))) ø (JLm (.sc (.int .u64 (Q9 .u64 y 4294967295))) ø (JLh (.sc (.int .u64 (IntKind.u64.wrap ((Qg .u64 x 32)*(Q9 .u64 y 4294967295))))) (fF ø ø ø ø) ø (JLm (.sc (.int .u64 (M5 x y))) ø (JLh (.sc (.int .u64 (Qg .u64 (M5 x y) 32))) (xD (s:=32) ø ø ø ø) ø (JLh (.sc (.int .u64 (M2 x y))) (Hf ø ø ø ø) ø (JLm (.sc (.int .u64 (M2 x y))) ø (G7 (k ?_)))))))))
 refine Jr fun l=>(JLm (.sc (.int .u64 (M2 x y))) ø (JLh (.sc (.int .u64 (Q9 .u64 (M2 x y) 4294967295))) (H4d ø ø ø) ø (JLm (.sc (.int .u64 (Q9 .u64 (M2 x y) 4294967295))) ø (G7 (l ?_)))))
 refine Jr fun m=>(JLm (.sc (.int .u64 (M2 x y))) ø (JLh (.sc (.int .u64 (Qg .u64 (M2 x y) 32))) (xD (s:=32) ø ø ø ø) ø (JLm (.sc (.int .u64 (Qg .u64 (M2 x y) 32))) ø (G7 (m ?_)))))
 refine Jr fun a=>(JLm (.sc (.int .u64 (Q9 .u64 (M2 x y) 4294967295))) ø (JLm (.sc (.int .u64 (Q9 .u64 x 4294967295))) ø (JLm (.sc (.int .u64 (Qg .u64 y 32))) ø (JLh (.sc (.int .u64 (IntKind.u64.wrap ((Q9 .u64 x 4294967295)*(Qg .u64 y 32))))) (fF ø ø ø ø) ø (JLh (.sc (.int .u64 (M3 x y))) (Hf ø ø ø ø) ø (JLm (.sc (.int .u64 (M3 x y))) ø (G7 (a ?_))))))))
 refine Jr fun b=>(JLm (.sc (.int .u64 (Qg .u64 x 32))) ø (JLm (.sc (.int .u64 (Qg .u64 y 32))) ø (JLh (.sc (.int .u64 (IntKind.u64.wrap ((Qg .u64 x 32)*(Qg .u64 y 32))))) (fF ø ø ø ø) ø (JLm (.sc (.int .u64 (Qg .u64 (M2 x y) 32))) ø (JLh (.sc (.int .u64 (IntKind.u64.wrap ((IntKind.u64.wrap ((Qg .u64 x 32)*(Qg .u64 y 32)))+(Qg .u64 (M2 x y) 32))))) (Hf ø ø ø ø) ø (JLm (.sc (.int .u64 (M3 x y))) ø (JLh (.sc (.int .u64 (Qg .u64 (M3 x y) 32))) (xD (s:=32) ø ø ø ø) ø (JLh (.sc (.int .u64 (M4 x y))) (Hf ø ø ø ø) ø (JLm (.sc (.int .u64 (M4 x y))) ø (G7 (b ?_)))))))))))
 refine Jr fun c=>(JLm (.sc (.int .u64 x)) ø (JLm (.sc (.int .u64 y)) ø (JLh (.sc (.int .u64 (IntKind.u64.wrap (x*y)))) (fF ø ø ø ø) ø (JLm (.sc (.int .u64 (IntKind.u64.wrap (x*y)))) ø (G7 (c (Gt ?_)))))))
 exact⟨[.sc (.int .u64 (M4 x y)),.sc (.int .u64 (IntKind.u64.wrap (x*y)))],[],þ,ø,⟨⟨_,ø,.conv (.same ø)⟩,⟨_,ø,.conv (.same ø)⟩,þ⟩,ø,congrArg (fun r:Int×Int=>(.tup [.sc (.int .u64 r.1),.sc (.int .u64 r.2)]:AV)) (Nv h)⟩

def lQ (x:Int) (y:Int):Option (Int×Int):=
 bnd (jR x y) fun a=>
 some (a.1,a.2)
theorem pP (x:Int) (y:Int) (r:Int×Int) (h:lQ x y=some r):Pure Ej 220 [.sc (.int .u64 x),.sc (.int .u64 y)] (·=.tup [.sc (.int .u64 r.1),.sc (.int .u64 r.2)]):=by
 unfold lQ at h
 refine Gy [.tmp 4,.tmp 5] Tryz.func220 ø ø (Jr fun b=>(JLm (.sc (.int .u64 0)) ø (JLm (.sc (.int .u64 0)) ø (G7 (b (Js fun c=>uR ø (Gn (c (Jr fun d=>(JLm (.sc (.int .u64 x)) ø (JLm (.sc (.int .u64 y)) ø ?_)))))))))))
 obtain⟨a,e,h⟩:=Ge h
 refine JLh (.tup [.sc (.int .u64 a.1),.sc (.int .u64 a.2)]) (Gq ø (vO x y a e) G86 ⟨ø,ø,ø,ø,þ⟩) ø (JLm (.tup [.sc (.int .u64 a.1),.sc (.int .u64 a.2)]) ø (JLh (.sc (.int .u64 a.1)) (Hu ø ø ø) ø (JLh (.sc (.int .u64 a.2)) (Hu ø ø ø) ø (JLm (.sc (.int .u64 a.1)) ø (JLm (.sc (.int .u64 a.2)) ø (G7 (d (Jr fun f=>(JLm (.sc (.int .u64 a.1)) ø (JLm (.sc (.int .u64 a.2)) ø (JLm (.sc (.int .u64 a.1)) ø (JLm (.sc (.int .u64 a.2)) ø (G7 (f (Gt (⟨[.sc (.int .u64 a.1),.sc (.int .u64 a.2)],[],þ,ø,⟨⟨_,ø,.conv (.same ø)⟩,⟨_,ø,.conv (.same ø)⟩,þ⟩,ø,congrArg (fun r:Int×Int=>(.tup [.sc (.int .u64 r.1),.sc (.int .u64 r.2)]:AV)) (Nv h)⟩))))))))))))))))

def Qq (F:Nat) (x:List Int) (count:Int):Option (List Int):=
 bif decide (count < 0) then
 (none)
 else
 (bnd (lQ (IntKind.u64.wrap (x.length:Int)) (IntKind.u64.wrap count)) fun e=>
  bif ((decide (0 < e.1))||(decide (9223372036854775807 < e.2))) then
  (none)
  else
  (chk (e.2) fun h=>
   bnd (iM h) fun b=>
   need (decide (8*b≤281474976710656∧b≤maxLen∧b*1≤16777216)) <|
   loop (fun f (a:Int×(List Int))=>
    bif decide (a.1 < (a.2.length:Int)) then
    (bnd (cN a.1 a.2.length) fun c=>
     bnd (cN a.1 a.2.length) fun d=>
     chk (a.1+((min ((a.2.drop 0).take d).length (a.2.length - c):Nat):Int)) fun g=>
     f (g,(overlay a.2 c ((a.2.drop 0).take d) (a.2.length - c))))
    else
    (some a.2)) F (((min x.length ((List.replicate b (0:Int)).length):Nat):Int),(overlay (List.replicate b (0:Int)) 0 x ((List.replicate b (0:Int)).length)))))
def fP (F:Nat) (c:G1) (tiers:Int) (halves:Int):Option Int:=
 chk (c.Whole+c.Half) fun m=>
 loop (fun b (a:Int×Int)=>
  bnd (RW halves 2) fun d=>
  chk (tiers*d) fun e=>
  bif decide (a.2≤(min c.Whole e)) then
  (chk (tiers*halves) fun f=>
   chk (2*a.2) fun g=>
   chk (f - g) fun h=>
   chk (c.Whole - a.2) fun i=>
   chk (i+c.Half) fun j=>
   chk (j - (min c.Half h)) fun k=>
   chk (a.2+1) fun l=>
   b ((min a.1 k),l))
  else
  (some a.1)) F (m,0)
theorem G15 (F:Nat) (c:G1) (tiers:Int) (halves:Int) (r:Int) (h:fP F c tiers halves=some r):Pure Ej 174 [.agg (G1.cs c),I64 tiers,I64 halves] (·=I64 r):=by
 unfold fP at h
 refine Gy [.tmp 6] Tryz.func174 ø ø (Jr fun a1=>(JLh (.ptr 1129 0) (Qr (cs:=[I64 c.G5.Load,I64 c.G5.Discharge,I64 c.Whole,I64 c.Half]) 1129 ø ø ø ø ø) ø (JLm (I64 0) ø (G7 (a1 (H1 [(1,I64 tiers),(2,I64 halves),(3,Ed c)] [] 1129 rfl rfl rfl þ rfl (by exact⟨.conv (.same rfl),.conv (.same rfl),.ptr,þ⟩) (Jr fun a2=>(JLh (.dptr [I64 c.Whole,I64 c.Half]) (Gb aN ø ø ø) ø (JLh (I64 c.Whole) (Gj Ga ø ø ø) ø (JLh (.dptr [I64 c.Half]) (Gb aM ø ø ø) ø (JLh (I64 c.Half) (Gj Ga ø ø ø) ø ?_)))))))))))
 obtain⟨j,a3,h⟩:=Hd h
 refine JLh (I64 j) (Hf a3 ø ø ø) ø (JLm (I64 j) ø (G7 (a2 (Js fun a4=>Jr fun a5=>(JLm (I64 0) ø (G7 (a5 (Gi ?_))))))))
 obtain⟨a6,k,h⟩:=aF h
 refine H7 (fun b (a:Int×Int)=>loop a6 b a=some r) (fun b a=>[(1,I64 tiers),(2,I64 halves),(3,Ed c),(7,I64 a.1),(8,I64 a.2)]) (fun b a=>[]) (fun b=>b) F (j,0) h ⟨(.sm ø ø),þ,rfl⟩ ?_
 clear h
 intro b a l b5 a7
 obtain⟨a8,b4,hm_29,m,h⟩:=Yu l
 replace h:=qA k h
 refine Js fun n=>Jr fun o=>(JLm (I64 a.2) ø (JLh (.dptr [I64 c.Whole,I64 c.Half]) (Gb aN ø ø ø) ø (JLh (I64 c.Whole) (Gj Ga ø ø ø) ø (JLm (I64 tiers) ø (JLm (I64 halves) ø ?_)))))
 obtain⟨a9,f,h⟩:=Ge h
 refine JLh (I64 a9) (He1 (mY f).1 (mY f).2 ø ø ø) ø ?_
 obtain⟨g,p,h⟩:=Hd h
 refine JLh (I64 g) (fF p ø ø ø) ø (JLh (I64 (min c.Whole g)) (H71 ø ø ø) ø (JLh (BL (decide (a.2≤(min c.Whole g)))) (oO ø ø ø) ø (G7 (o (JCc ø h (fun h hb=>?_) (fun h hb=>?_))))))
 ·
  refine Gn (n (Js fun q=>Gi (Jr fun s=>(JLh (.dptr [I64 c.Half]) (Gb aM ø ø ø) ø (JLh (I64 c.Half) (Gj Ga ø ø ø) ø (JLm (I64 tiers) ø (JLm (I64 halves) ø ?_)))))))
  obtain⟨b0,t,h⟩:=Hd h
  refine JLh (I64 b0) (fF t ø ø ø) ø (JLm (I64 a.2) ø ?_)
  obtain⟨b1,u,h⟩:=Hd h
  refine JLh (I64 b1) (fF u ø ø ø) ø ?_
  obtain⟨d,v,h⟩:=Hd h
  refine JLh (I64 d) (cB v ø ø ø) ø (JLh (I64 (min c.Half d)) (H71 ø ø ø) ø (JLm (I64 (min c.Half d)) ø (G7 (s (G2 (JLm (I64 a.1) ø (JLh (.dptr [I64 c.Whole,I64 c.Half]) (Gb aN ø ø ø) ø (JLh (I64 c.Whole) (Gj Ga ø ø ø) ø (JLm (I64 a.2) ø ?_)))))))))
  obtain⟨b2,w,h⟩:=Hd h
  refine JLh (I64 b2) (cB w ø ø ø) ø (JLh (.dptr [I64 c.Half]) (Gb aM ø ø ø) ø (JLh (I64 c.Half) (Gj Ga ø ø ø) ø ?_))
  obtain⟨b3,x,h⟩:=Hd h
  refine JLh (I64 b3) (Hf x ø ø ø) ø (JLm (I64 (min c.Half d)) ø ?_)
  obtain⟨e,y,h⟩:=Hd h
  refine JLh (I64 e) (cB y ø ø ø) ø (JLh (I64 (min a.1 e)) (H71 ø ø ø) ø (JLm (I64 (min a.1 e)) ø (G7 (q (G2 (JLm (I64 a.2) ø ?_))))))
  obtain⟨i,z,h⟩:=Hd h
  refine JLh (I64 i) (Hf z ø ø ø) ø (JLm (I64 i) ø (G7 (a7 _ _ a8 ((min a.1 e),i) (app1 m h) (by omega) ⟨(.sm ø ø),þ,rfl⟩)))
 ·
  refine H5 (a4 (Jr fun a0=>(JLm (I64 a.1) ø (JLm (I64 a.1) ø (G7 (a0 (Gt (fin1 I64 h))))))))


abbrev M6 (a:Int×(List Int)):Loc:=[(1127,.vec 3 1 (([]:List Int).length) (([]:List Int).map I64)),(1128,.vec 3 1 0 (a.2.map I64))]
theorem tC (F:Nat) (x:List Int) (count:Int) (r:(List Int)) (h:Qq F x count=some r):R5 Ej 173 [E1 x,I64 count] [] (fun av L'=>∃ p:Nat,av=.vec 1128 p 1 r.length∧L'=[(1128,.vec 3 1 p (r.map I64))]):=by
 unfold Qq at h
 refine dA [] [.tmp 4] Tryz.func173 ø ø (YF ø) (Jr fun a1=>(JLh (.vec 1127 (([]:List Int).length) 1 (([]:List Int).length)) (ZR 1127 3 1 ø ø ø) ø (G7 (a1 (Js fun a2=>Jr fun a3=>(JLm (I64 count) ø (JLh (BL (decide (count < 0))) (Ht ø ø ø) ø (G7 (a3 (JCc ø h (fun h hb=>?_) (fun h hb=>?_)))))))))))
 ·
  cases h
 ·
  refine Gn (a2 (Jr fun a4=>(JLm (E1 x) ø (JLl Gr ø ø ø fun b3=>(JLh (.sc (.int .u64 (IntKind.u64.wrap (x.length:Int)))) (lV kD nI ø ø ø) ø (JLm (I64 count) ø (JLh (.sc (.int .u64 (IntKind.u64.wrap count))) (lV kD nI ø ø ø) ø ?_)))))))
  obtain⟨c,a5,h⟩:=Ge h
  refine JLh (.tup [.sc (.int .u64 c.1),.sc (.int .u64 c.2)]) (Gq ø (pP (IntKind.u64.wrap (x.length:Int)) (IntKind.u64.wrap count) c a5) HF ⟨ø,ø,ø,ø,þ⟩) ø (JLm (.tup [.sc (.int .u64 c.1),.sc (.int .u64 c.2)]) ø (JLh (.sc (.int .u64 c.1)) (Hu ø ø ø) ø (JLh (.sc (.int .u64 c.2)) (Hu ø ø ø) ø (JLm (.sc (.int .u64 c.1)) ø (JLm (.sc (.int .u64 c.2)) ø (G7 (a4 (Js fun a6=>Jr fun a7=>(JLm (.sc (.int .u64 c.1)) ø (JLh (BL (decide (0 < c.1))) (Ya ø ø ø) ø (JLm (BL (decide (0 < c.1))) ø (JLo (.sc (.int .u64 c.2)) [] ø .scf þ (fun hc=>G3 ø ø) ø (JLo (BL (decide (9223372036854775807 < c.2))) [24] ø .scf ⟨Ua,þ⟩ (fun hc=>Ya ø ø ø) ø (JLh (BL ((decide (0 < c.1))||(decide (9223372036854775807 < c.2)))) (aJ ø ø ø ø) ø (G7 (a7 (JCc ø h (fun h hb=>?_) (fun h hb=>?_))))))))))))))))))
  ·
   cases h
  ·
   refine Gn (a6 (Jr fun a8=>(JLm (.sc (.int .u64 c.2)) ø ?_)))
   obtain⟨v9,a9,h⟩:=Hd h
   refine JLh (I64 v9) (lV nI kD a9 ø ø) ø ?_
   obtain⟨b,i,h⟩:=Ge h
   obtain⟨k,h⟩:=J2 h
   refine JLh (.vec 1128 0 1 ((List.replicate b (0:Int)).length)) (eO 1128 (f:=I64) (n:=b) 0 [E0] ø ø ø ø Gr aU dI (Qe i) (Qe i) k ⟨.inl ø,þ⟩ ø) ø (JLm (.vec 1128 0 1 ((List.replicate b (0:Int)).length)) ø (G7 (a8 (Jr fun l=>(JLm (.vec 1128 0 1 ((List.replicate b (0:Int)).length)) ø (JLm (E1 x) ø (JLh (I64 ((min x.length ((List.replicate b (0:Int)).length):Nat):Int)) (zG (f:=I64) (xs:=(List.replicate b (0:Int))) (ys:=x) (off:=0) (n:=((List.replicate b (0:Int)).length)) ø Gr (.inl ⟨ø,ø⟩) ø (Gd4 (ys:=x) ø (.inl ø)) (fun _=>ø)) ø (JLm (I64 ((min x.length ((List.replicate b (0:Int)).length):Nat):Int)) ø (G7 (l (Js fun m=>Gi ?_)))))))))))
   obtain⟨b0,o,h⟩:=aF h
   refine H7 (fun e (a:Int×(List Int))=>loop b0 e a=some r) (fun e a=>[(7,.vec 1128 0 1 ((List.replicate b (0:Int)).length)),(8,I64 a.1)]) (fun e a=>(M6 a)) (fun e=>e) F (((min x.length ((List.replicate b (0:Int)).length):Nat):Int),(overlay (List.replicate b (0:Int)) 0 x ((List.replicate b (0:Int)).length))) h ⟨(.sm ø ø),⟨⟨_,ø,.vec⟩,⟨_,ø,.vec⟩,þ⟩,ø⟩ ?_
   clear h
   intro e a q b7 b1
   obtain⟨b2,b5,hm_26,s,h⟩:=Yu q
   replace h:=qA o h
   refine Js fun t=>Jr fun v=>(JLm (I64 a.1) ø (JLm (.vec 1128 0 1 ((List.replicate b (0:Int)).length)) ø (yV (f:=I64) (xs:=a.2) Gr ø ø ø (fun b6=>?_) ø ø ø)))
   refine JLh (BL (decide (a.1 < (a.2.length:Int)))) (Ht ø ø ø) ø (G7 (v (JCc ø h (fun h hb=>?_) (fun h hb=>?_))))
   ·
    refine Gn (t (Gi (Zh (l':=[(7,.vec 1128 0 1 ((List.replicate b (0:Int)).length)),(8,I64 a.1)]) (L':=(M6 a)) ⟨(.sm ø ø),⟨⟨_,ø,.vec⟩,⟨_,ø,.vec⟩,þ⟩,ø⟩ ?_)))
    obtain⟨d,w,h⟩:=Ge h
    obtain⟨g,y,h⟩:=Ge h
    obtain⟨j,z,h⟩:=Hd h
    refine Jo [7] [0,0,0,0,0,0,0,0,1,1] [1,0,0,0,0,0,0,0,1,1] [(M6 a),((1128,.vec 3 1 0 ((overlay a.2 d ((a.2.drop 0).take g) (a.2.length - d)).map I64))::(M6 a))] J9 (by kernel_rfl) rfl rfl ?_
    refine G9 (u:=I64 a.1) ø ø ⟨Gg (G3 ø ø) ø,Gg (G3 ø ø) ø,þ⟩ (G9 (u:=.vec 1128 0 1 ((List.replicate b (0:Int)).length)) ø ø ⟨Gg (G3 ø ø) ø,þ⟩ (G9 (u:=I64 a.1) ø ø ⟨Gg (G3 ø ø) ø,þ⟩ (G9 (u:=.vsl 1128 0 1 d (a.2.length - d)) ø ø ⟨Gg (GR (f:=I64) (xs:=a.2) ø ø ø ø Gr (Rw w)) ø,þ⟩ (G9 (u:=.vec 1128 0 1 ((List.replicate b (0:Int)).length)) ø ø ⟨Gg (G3 ø ø) ø,þ⟩ (G9 (u:=I64 a.1) ø ø ⟨Gg (G3 ø ø) ø,þ⟩ (G9 (u:=.vsl 1128 0 1 0 g) ø ø ⟨Gg (G43 (f:=I64) (xs:=a.2) ø ø ø ø Gr (Rw y)) ø,þ⟩ (D_w (u:=I64 ((min ((a.2.drop 0).take g).length (a.2.length - d):Nat):Int)) ø ø ø ø (Gg (zG (f:=I64) (xs:=a.2) (ys:=((a.2.drop 0).take g)) (off:=d) (n:=(a.2.length - d)) ø Gr (.inr ø) ø (H68 (zs:=a.2) ø ø) (fun _=>ø)) ø) (G9 (u:=I64 j) ø ø ⟨Gg (Hf z ø ø ø) ø,þ⟩ (G9 (u:=I64 j) ø ø ⟨Gg (G6 ø ø) ø,þ⟩ (Ri ?_))))))))))
    exact b1 _ _ b2 (j,(overlay a.2 d ((a.2.drop 0).take g) (a.2.length - d))) (app1 s h) (by omega) ⟨(.sm ø ø),⟨⟨_,rfl,.vec⟩,⟨_,rfl,.vec⟩,þ⟩,rfl⟩
   ·
    refine H5 (m (Jr fun a0=>(JLm (.vec 1128 0 1 ((List.replicate b (0:Int)).length)) ø (JLm (.vec 1128 0 1 ((List.replicate b (0:Int)).length)) ø (G7 (a0 (QT 4 ø ø (fun hn_=>Gt ?_))))))))
    obtain rfl:=Nv h
    exact⟨[.vec 1128 0 1 ((List.replicate b (0:Int)).length)],[(1128,.vec 3 1 0 (a.2.map I64))],⟨⟨_,ø,.vec⟩,þ⟩,ø,⟨⟨_,ø,.conv (.same ø)⟩,þ⟩,0,congrArg (fun n_:Nat=>(.vec 1128 0 1 n_:AV)) (hn_.trans (P9 _)),ø⟩

def eN (F:Nat) (c:G1) (i:Int) (r:Int) (s:List Int):Option (List Int):=
 chk (i+1) fun t=>
 bnd (Qq F [(-1)] t) fun u=>
 jp (fun e=>
  loop (fun k (b:Int×(List Int))=>
   bif decide (b.1≤i) then
   (bnd (fP F c r b.1) fun f=>
    loop (fun j (a:Int×(List Int))=>
     bif decide (a.1≤i) then
     (jp (fun d=>
       chk (a.1 - b.1) fun l=>
       Jx s l fun m=>
       chk (m+f) fun g=>
       Jx a.2 a.1 fun h=>
       bnd (bif (!(decide (h < 0))) then Jx a.2 a.1 some else some default) fun n=>
       bif ((decide (h < 0))||(decide (g < n))) then
       (Jx a.2 a.1 fun w=>
        d (a.2.set a.1.toNat g))
       else
       (d a.2)) fun(o:(List Int))=>
      chk (a.1+1) fun p=>
      j (p,o))
     else
     (bif decide (f=0) then
      (e a.2)
      else
      (chk (b.1+1) fun q=>
       k (q,a.2)))) F (b.1,b.2))
   else
   (e b.2)) F (0,u)) fun(v:(List Int))=>
 some v
theorem yS (F:Nat) (c:G1) (j:Int) (q:Int) (k:List Int) (r:(List Int)) (h:eN F c j q k=some r):R5 Ej 172 [.agg (G1.cs c),.dptr [I64 j],.dptr [I64 q],.ptr 1073 0] [(1073,.box 51 [E1 k])] (fun av L'=>av=.tup []∧L'=[(1073,.box 51 [E1 r])]):=by
 unfold eN at h
 refine dA [1073] [] Tryz.func172 ø ø (YF ø) (Jr fun d0=>(JLh (.ptr 1126 0) (Qr (cs:=[I64 c.G5.Load,I64 c.G5.Discharge,I64 c.Whole,I64 c.Half]) 1126 ø ø ø ø ø) ø (G7 (d0 (fzQ [(1,.dptr [I64 j]),(2,.dptr [I64 q]),(3,.ptr 1073 0),(4,Ed c)] [(1073,.box 51 [E1 k])] 1126 rfl rfl rfl ⟨⟨_,rfl,.boxEq rfl rfl⟩,þ⟩ rfl (Jr fun d1=>(JLh (E1 [(-1)]) (Hn (xs:=[I64 (-1)]) ø ⟨ø,ø,þ⟩ Gr eD ø ø ø ø) ø (JLh (I64 j) (Gj Ga ø ø ø) ø ?_))))))))
 obtain⟨v3,d2,h⟩:=Hd h
 refine JLh (I64 v3) (Hf d2 ø ø ø) ø ?_
 obtain⟨e,d3,h⟩:=Ge h
 refine hU ø ø ø (zH (args:=[E1 [(-1)],I64 v3]) (L0:=[]) (u:=fun p=>.vec 1128 p 1 e.length) (Lr:=fun p=>[(1128,.vec 3 1 p (e.map I64))]) ø (tC F [(-1)] v3 e d3) G94 ⟨.inl ø,ø,.inl ø,ø,þ⟩ þ ø (fun _=>ø)) ?_
 rintro u_ L_ ⟨d,rfl,rfl⟩
 refine JLm (.vec 1128 d 1 e.length) ø (G7 (d1 ?_))
 obtain⟨d4,a7,h⟩:=bE h
 refine Rh (fun l:(List Int)=>d4 l=some r) (fun l=>[(3,.ptr 1073 0),(5,.vec 1128 d 1 e.length)]) (fun l=>[(1128,.vec 3 1 d (l.map I64)),(1073,.box 51 [E1 k])]) (fun Kj6 ej6=>?_) ?_
 ·
  refine Jr fun d5=>(JLm (I64 0) ø (G7 (d5 (Gi ?_))))
  obtain⟨b8,d6,h⟩:=aF h
  refine H7 (fun v (b:Int×(List Int))=>loop b8 v b=some r) (fun v b=>[(1,.dptr [I64 j]),(2,.dptr [I64 q]),(3,.ptr 1073 0),(4,Ed c),(5,.vec 1128 d 1 e.length),(6,I64 b.1)]) (fun v b=>[(1128,.vec 3 1 d (b.2.map I64)),(1073,.box 51 [E1 k])]) (fun v=>v) F (0,e) h ⟨(.sm ø ø),⟨⟨_,rfl,.vec⟩,fbQ ø ⟨.same rfl,þ⟩,þ⟩,rfl⟩ ?_
  clear h
  intro v b d7 K8 e8
  obtain⟨m8,f0,hm_8,d8,h⟩:=Yu d7
  replace h:=qA d6 h
  refine Js fun d9=>Jr fun a8=>(JLm (I64 b.1) ø (JLh (I64 j) (Gj Ga ø ø ø) ø (JLh (BL (decide (b.1≤j))) (oO ø ø ø) ø (G7 (a8 (JCc ø h (fun h hb=>?_) (fun h hb=>?_)))))))
  ·
   refine Gn (d9 (Js fun a9=>Gi (Jr fun b0=>(JLh (.agg (G1.cs c)) (Gk Qw ø ø ø) ø (JLh (I64 q) (Gj Ga ø ø ø) ø (JLm (I64 b.1) ø ?_))))))
   obtain⟨g,b1,h⟩:=Ge h
   refine JLh (I64 g) (Gq ø (G15 F c q b.1 g b1) G93 ⟨ø,ø,ø,ø,ø,ø,þ⟩) ø (JLm (I64 g) ø (G7 (b0 (Js fun b2=>Jr fun b3=>(JLm (I64 b.1) ø (JLm (I64 b.1) ø (G7 (b3 (Gi ?_)))))))))
   obtain⟨e0,b4,h⟩:=aF h
   refine H7 (fun m (a:Int×(List Int))=>loop e0 m a=some r) (fun m a=>[(1,.dptr [I64 j]),(2,.dptr [I64 q]),(3,.ptr 1073 0),(4,Ed c),(5,.vec 1128 d 1 e.length),(6,I64 b.1),(7,I64 g),(8,I64 a.1)]) (fun m a=>[(1128,.vec 3 1 d (a.2.map I64)),(1073,.box 51 [E1 k])]) (fun m=>m) F (b.1,b.2) h ⟨(.sm ø ø),⟨⟨_,rfl,.vec⟩,fbQ ø ⟨.same rfl,þ⟩,þ⟩,rfl⟩ ?_
   clear h
   intro m a b5 f1 e1
   obtain⟨e2,e9,hm_62,b6,h⟩:=Yu b5
   replace h:=qA b4 h
   refine Js fun b7=>Jr fun b9=>(JLm (I64 a.1) ø (JLh (I64 j) (Gj Ga ø ø ø) ø (JLh (BL (decide (a.1≤j))) (oO ø ø ø) ø (G7 (b9 (JCc ø h (fun h hb=>?_) (fun h hb=>?_)))))))
   ·
    refine Gn (b7 ?_)
    obtain⟨c0,a3,h⟩:=bE h
    refine Rh (fun n:(List Int)=>c0 n=some r) (fun n=>[(1,.dptr [I64 j]),(2,.dptr [I64 q]),(3,.ptr 1073 0),(4,Ed c),(5,.vec 1128 d 1 e.length),(6,I64 b.1),(7,I64 g),(8,I64 a.1)]) (fun n=>[(1128,.vec 3 1 d (n.map I64)),(1073,.box 51 [E1 k])]) (fun Kj65 ej65=>?_) ?_
    ·
     refine Gi (Jr fun c1=>(JLh (E1 k) (bY Hv ø ø ø ø) ø (JLm (I64 a.1) ø (JLm (I64 b.1) ø ?_))))
     obtain⟨e3,c2,h⟩:=Hd h
     refine JLh (I64 e3) (cB c2 ø ø ø) ø ?_
     obtain⟨f2,w,c3,c4,h⟩:=Q8 h
     refine JLh (.dptr [I64 w]) (Gs (f:=I64) (xs:=k) (y:=w) ø ø ø Gr c4 c3) ø (JLh (I64 w) (Gj Ga ø ø ø) ø (JLm (I64 g) ø ?_))
     obtain⟨i,c5,h⟩:=Hd h
     refine JLh (I64 i) (Hf c5 ø ø ø) ø (JLm (I64 i) ø (G7 (c1 (Jr fun c6=>(JLm (.vec 1128 d 1 e.length) ø (JLm (I64 a.1) ø ?_))))))
     obtain⟨o,a4,x,h⟩:=Yr h
     refine JLh (.vptr 1128 d a.1.toNat 0) (R2 (f:=I64) (xs:=a.2) (y:=o) ø ø ø ø Gr x a4) ø (JLh (I64 o) (Zs (f:=I64) (xs:=a.2) (y:=o) Ga ø ø ø x ø ø) ø (JLh (BL (decide (o < 0))) (Ht ø ø ø) ø (JLm (BL (decide (o < 0))) ø (JLo (I64 i) [] ø .scf þ (fun hc=>G3 ø ø) ø (JLo (.vec 1128 d 1 e.length) [] ø .scf þ (fun hc=>G3 ø ø) ø (JLo (I64 a.1) [] ø .scf þ (fun hc=>G3 ø ø) ø ?_))))))
     obtain⟨s,t,h⟩:=Ge h
     refine JLo (.vptr 1128 d a.1.toNat 0) [44,45] ø .scf ⟨Ua,Ua,þ⟩ (fun hc=>R2 (f:=I64) (xs:=a.2) (y:=s) ø ø ø ø Gr (Y0 (Gw hc t)) (eG (Gw hc t))) ø (JLo (I64 s) [46] ø .scf ⟨Ua,þ⟩ (fun hc=>Zs (f:=I64) (xs:=a.2) (y:=s) Ga ø ø ø (Y0 (Gw hc t)) ø ø) ø (JLo (BL (decide (i < s))) [43,47] ø .scf ⟨Ua,Ua,þ⟩ (fun hc=>Ht ø ø ø) ø (JLh (BL ((decide (o < 0))||(decide (i < s)))) (aJ ø ø ø ø) ø (G7 (c6 (JCc ø h (fun h hb=>?_) (fun h hb=>?_)))))))
     ·
      refine G2 (JLm (.vec 1128 d 1 e.length) ø (JLm (I64 a.1) ø (JLm (I64 i) ø ?_)))
      obtain⟨e4,a5,a0,h⟩:=Yr h
      refine JLh (.vptr 1128 d a.1.toNat 0) (R2 (f:=I64) (xs:=a.2) (y:=e4) ø ø ø ø Gr a0 a5) ø (J7 (u:=.junk) (bR (f:=I64) (xs:=a.2) (z:=i) Zy ø ø ø ø (Nt a0).1 ø ø ø ø) (G7 (ej65 _ _ (a.2.set a.1.toNat i) h ⟨(.sm ø ø),⟨⟨_,rfl,.vec⟩,fbQ ø ⟨.same rfl,þ⟩,þ⟩,rfl⟩)))
     ·
      refine Gn (ej65 _ _ a.2 h ⟨(.sm ø ø),⟨⟨_,rfl,.vec⟩,fbQ ø ⟨.same rfl,þ⟩,þ⟩,rfl⟩)
    ·intro n h
     replace h:=app1 a3 h
     refine G2 (JLm (I64 a.1) ø ?_)
     obtain⟨a1,c7,h⟩:=Hd h
     refine JLh (I64 a1) (Hf c7 ø ø ø) ø (JLm (I64 a1) ø (G7 (e1 _ _ e2 (a1,n) (app1 b6 h) (by omega) ⟨(.sm ø ø),⟨⟨_,rfl,.vec⟩,fbQ ø ⟨.same rfl,þ⟩,þ⟩,rfl⟩)))
   ·
    refine H5 (b2 (Jr fun c8=>(JLm (I64 g) ø (JLh (BL (decide (g=0))) (Rk ø ø ø) ø (G7 (c8 (JCc ø h (fun h hb=>?_) (fun h hb=>?_))))))))
    ·
     refine H5 (ej6 _ _ a.2 h ⟨(.sm ø ø),⟨⟨_,ø,.vec⟩,⟨_,ø,.boxL ø ⟨.same ø,þ⟩⟩,þ⟩,ø⟩)
    ·
     refine Gn (a9 (G2 (JLm (I64 b.1) ø ?_)))
     obtain⟨a2,c9,h⟩:=Hd h
     refine JLh (I64 a2) (Hf c9 ø ø ø) ø (JLm (I64 a2) ø (G7 (e8 _ _ m8 (a2,a.2) (app1 d8 h) (by omega) ⟨(.sm ø ø),⟨⟨_,rfl,.vec⟩,fbQ ø ⟨.same rfl,þ⟩,þ⟩,rfl⟩)))
  ·
   refine H5 (ej6 _ _ b.2 h ⟨(.sm ø ø),⟨⟨_,ø,.vec⟩,⟨_,ø,.boxL ø ⟨.same ø,þ⟩⟩,þ⟩,ø⟩)
 ·intro l h
  replace h:=app1 a7 h
  refine G2 (JLm (.vec 1128 d 1 e.length) ø (H40 [(3,.ptr 1073 0),(5,E1 l),(56,E1 l)] [(1073,.box 51 [E1 k])] 1128 rfl rfl ⟨⟨_,rfl,.boxEq rfl rfl⟩,þ⟩ rfl (by exact⟨.conv (.same rfl),.vec,.vec,þ⟩) (J7 (u:=.junk) (Hw (u:=E1 l) (ds:=[E1 l]) nH ø ø ø ø ø ø ø ø) (G7 ?_))))
  obtain rfl:=Nv h
  exact⟨[],[(1073,.box 51 [E1 l])],⟨⟨_,ø,.boxL ø ⟨.same ø,þ⟩⟩,þ⟩,ø,þ,ø,ø⟩

def aI (F:Nat) (s:H2) (l:List G1):Option Int:=
 bnd (aR s) fun h=>
 chk (2*(s.Columns.length:Int)) fun c=>
 chk (c+1) fun i=>
 bnd (iM i) fun b=>
 need (decide (8*b≤281474976710656∧b≤maxLen∧b*1≤16777216)) <|
 each (fun e j (a:(List Int)) d=>
  bnd (eN F e c h a) fun f=>
  d f)
 (fun(a:(List Int))=>
  Jx a c fun g=>
  some g) l 0 (List.replicate b (0:Int))
abbrev M7 (a:Int) (b:Int):List AV:=[.dptr [I64 a],.dptr [I64 b],.ptr 1073 0]
theorem lS (F:Nat) (s:H2) (l:List G1) (r:Int) (h:aI F s l=some r):Pure Ej 78 [.agg (H2.cs s),E4 l] (·=I64 r):=by
 unfold aI at h
 refine Gy [.tmp 4] Tryz.func78 ø ø (Jr fun b2=>(JLh (.ptr 1070 0) (Qr (cs:=(H2.cs s)) 1070 ø ø ø ø ø) ø (JLm (I64 0) ø (G7 (b2 (H1 [(1,E4 l),(2,Ec s)] [] 1070 rfl rfl rfl þ rfl (by exact⟨.conv (.same rfl),.ptr,þ⟩) (Js fun b3=>?_)))))))
 obtain⟨b,i,h⟩:=Ge h
 obtain⟨d,g,h⟩:=Hd h
 refine ZL [6,7,8,9] [[[false,false,false,false],[true,false,false,false],[false,true,false,false],[true,true,false,false]],[[false,false,false,false],[true,false,false,false],[false,true,false,false],[true,true,false,false]],[[false,false,false,false],[true,false,false,false],[false,true,false,false],[true,true,false,false],[true,true,true,false]],[[false,false,false,false],[true,false,false,false],[false,true,false,false],[true,true,false,false],[true,true,true,false]],[[false,false,false,false],[true,false,false,false],[false,true,false,false],[true,true,false,false],[true,true,true,false]],[[false,false,false,false],[true,false,false,false],[false,true,false,false],[true,true,false,false],[true,true,true,false]],[[false,false,false,false],[false,true,false,false]],[[false,false,false,false],[true,false,false,false]],[[true,true,false,false]],[[true,true,true,false]]] [([false,false,false,false],[]),([true,false,false,false],[(1071,.box 3 [.junk])]),([false,true,false,false],[(1072,.box 3 [.junk])]),([true,true,false,false],[(1071,.box 3 [.junk]),(1072,.box 3 [.junk])]),([true,true,true,false],[(1071,.box 3 [I64 b]),(1072,.box 3 [.junk])]),([true,true,true,true],[(1071,.box 3 [I64 b]),(1072,.box 3 [I64 d])])] J9 (by kernel_rfl) rfl rfl ?_
 refine fE (u:=.agg (H2.cs s)) ø ⟨.ro ø ø (Gg (Gk Qa ø ø ø) ø),.ro ø ø (Gg (Gk Qa ø ø ø) ø),.ro ø ø (Gg (Gk Qa ø ø ø) ø),.ro ø ø (Gg (Gk Qa ø ø ø) ø),þ⟩ ?_ ø
 refine fE (u:=I64 b) ø ⟨.ro ø ø (Gg (Gq ø (dR s b i) kW ⟨ø,ø,þ⟩) ø),.ro ø ø (Gg (Gq ø (dR s b i) kW ⟨ø,ø,þ⟩) ø),.ro ø ø (Gg (Gq ø (dR s b i) kW ⟨ø,ø,þ⟩) ø),.ro ø ø (Gg (Gq ø (dR s b i) kW ⟨ø,ø,þ⟩) ø),þ⟩ ?_ ø
 refine fE (u:=Ec s) ø ⟨.ro ø ø (Gg (Gb J1 ø ø ø) ø),.ro ø ø (Gg (Gb J1 ø ø ø) ø),.ro ø ø (Gg (Gb J1 ø ø ø) ø),.ro ø ø (Gg (Gb J1 ø ø ø) ø),.ro ø ø (Gg (Gb J1 ø ø ø) ø),þ⟩ ?_ ø
 refine fE (u:=E5 s.Columns) ø ⟨.ro ø ø (Gg (Gj Jd ø ø ø) ø),.ro ø ø (Gg (Gj Jd ø ø ø) ø),.ro ø ø (Gg (Gj Jd ø ø ø) ø),.ro ø ø (Gg (Gj Jd ø ø ø) ø),.ro ø ø (Gg (Gj Jd ø ø ø) ø),þ⟩ ?_ ø
 refine fE (u:=Ei s.Columns.length) ø ⟨.ro ø ø (Gg (Q4 (f:=Gc.av) (xs:=s.Columns) Ha ø ø) ø),.ro ø ø (Gg (Q4 (f:=Gc.av) (xs:=s.Columns) Ha ø ø) ø),.ro ø ø (Gg (Q4 (f:=Gc.av) (xs:=s.Columns) Ha ø ø) ø),.ro ø ø (Gg (Q4 (f:=Gc.av) (xs:=s.Columns) Ha ø ø) ø),.ro ø ø (Gg (Q4 (f:=Gc.av) (xs:=s.Columns) Ha ø ø) ø),þ⟩ ?_ ø
 refine fE (u:=I64 d) ø ⟨.ro ø ø (Gg (fF g ø ø ø) ø),.ro ø ø (Gg (fF g ø ø ø) ø),.ro ø ø (Gg (fF g ø ø ø) ø),.ro ø ø (Gg (fF g ø ø ø) ø),.ro ø ø (Gg (fF g ø ø ø) ø),þ⟩ ?_ ø
 refine fE (u:=.ptr 1071 0) ø ⟨.w [1071] ø ø (Gg (Q3 1071 1 eD ø ø) ø) ø ø ⟨ø,þ⟩,.w [1072,1071] ø ø (Gg (Q3 1071 1 eD ø ø) ø) ø ø ⟨ø,ø,þ⟩,þ⟩ ?_ ø
 refine fE (u:=.ptr 1072 0) ø ⟨.w [1072] ø ø (Gg (Q3 1072 1 eD ø ø) ø) ø ø ⟨ø,þ⟩,.w [1071,1072] ø ø (Gg (Q3 1072 1 eD ø ø) ø) ø ø ⟨ø,ø,þ⟩,þ⟩ ?_ ø
 refine Hdd (u:=.junk) ø ⟨.w [1071,1072] ø ø (Gg (Hw (u:=I64 b) (ds:=[I64 b]) Zy ø ø ø ø ø ø ø ø) ø) ø ø ⟨ø,ø,þ⟩,þ⟩ (Hdd (u:=.junk) ø ⟨.w [1071,1072] ø ø (Gg (Hw (u:=I64 d) (ds:=[I64 d]) Zy ø ø ø ø ø ø ø ø) ø) ø ø ⟨ø,ø,þ⟩,þ⟩ (H44 (b3 (H1 [(1,E4 l),(5,.dptr [I64 b]),(6,.ptr 1072 0)] [(1072,.box 3 [I64 d])] 1071 rfl rfl rfl ⟨⟨_,rfl,.boxEq rfl rfl⟩,þ⟩ rfl (by exact⟨.conv (.same rfl),.ptr,.conv (.same rfl),þ⟩) (H1 [(1,E4 l),(5,.dptr [I64 b]),(6,.dptr [I64 d])] [] 1072 rfl rfl rfl þ rfl (by exact⟨.conv (.same rfl),.conv (.same rfl),.ptr,þ⟩) (Jr fun b4=>(JLh (I64 d) (Gj Ga ø ø ø) ø ?_)))))))
 obtain⟨v6,b5,h⟩:=Hd h
 refine JLh (I64 v6) (Hf b5 ø ø ø) ø ?_
 obtain⟨k,t,h⟩:=Ge h
 obtain⟨b6,h⟩:=J2 h
 refine JLh (E1 (List.replicate k (0:Int))) (He5 (f:=I64) (n:=k) 0 [E0] ø ø ø Gr aU dI (Qe t) (Qe t) b6 ⟨.inl ø,þ⟩ ø) ø (JLh (.ptr 1073 0) (Q3 1073 1 GU ø ø) ø (J7 (u:=.junk) (Hw (u:=E1 (List.replicate k (0:Int))) (ds:=[E1 (List.replicate k (0:Int))]) nH ø ø ø ø ø ø ø ø) (G7 (b4 (Jr fun b7=>(JLh (.fn 172 (M7 d b)) (oM (cs:=(M7 d b)) ø ø) ø (JLm (.fn 172 (M7 d b)) ø (G7 (b7 (Js fun v=>Jr fun x=>(JLm (E4 l) ø (JLl H6 ø ø ø fun z=>(JLm (I64 0) ø (G7 (x (Gi ?_))))))))))))))))
 obtain⟨b8,a0,a1,q,h⟩:=Jg h
 refine H7 (fun a (e:(List Int))=>each b8 a0 (List.drop a l) a e=some r) (fun a e=>[(6,.dptr [I64 d]),(7,.ptr 1073 0),(8,.fn 172 (M7 d b)),(21,E4 l),(22,Ei l.length),(23,Ei a)]) (fun a e=>[(1073,.box 51 [E1 e])]) (fun a=>l.length - a) 0 (List.replicate k (0:Int)) h ⟨(.sm ø ø),⟨fbQ ø ⟨.same rfl,þ⟩,þ⟩,rfl⟩ ?_
 clear h
 intro a e m c2 b9
 refine Jr fun a2=>(JLh (BL (decide ((a:Int) < (l.length:Int)))) (Ht ø ø ø) ø (G7 (a2 (Js fun a3=>Gm ø (fun hb=>?_) (fun hb=>?_)))))
 ·
  have o:=Q1 hb
  obtain⟨c,c1,a4,a5,h⟩:=J4 m o
  replace h:=Zt a1 h
  refine Gn (a3 (Js fun a6=>Gi (Jr fun a7=>(JLh (Ed c) (Gs (f:=G1.av) (xs:=l) (y:=c) ø ø ø H6 a4 ø) ø (JLh (.agg (G1.cs c)) (Gk Qw ø ø ø) ø (JLh (.ptr 1074 0) (Q3 1074 4 R7 ø ø) ø (J7 (u:=.junk) (Hw (u:=.agg (G1.cs c)) (ds:=[I64 c.G5.Load,I64 c.G5.Discharge,I64 c.Whole,I64 c.Half]) bJ ø ø ø ø ø ø ø ø) (G7 (a7 (fzQ [(6,.dptr [I64 d]),(7,.ptr 1073 0),(8,.fn 172 (M7 d b)),(10,Ed c),(21,E4 l),(22,Ei l.length),(23,Ei a)] [(1073,.box 51 [E1 e])] 1074 rfl rfl rfl ⟨⟨_,rfl,.boxEq rfl rfl⟩,þ⟩ rfl ?_))))))))))
  refine G2 (JLm (.fn 172 (M7 d b)) ø (JLh (.agg (G1.cs c)) (Gk Qw ø ø ø) ø ?_))
  obtain⟨p,a8,h⟩:=Ge h
  refine JLh (.tup []) (Hed (args:=[.agg (G1.cs c)]) (caps:=(M7 d b)) (L0:=[(1073,.box 51 [E1 e])]) (Lr:=[(1073,.box 51 [E1 p])]) ø ø (yS F c d b e p a8) G95 ⟨.inl ø,ø,þ⟩ ø ⟨ø,þ⟩ ø ø ø) ø (G7 (a6 (G2 (JLh (I64 ((a+1:Nat):Int)) (Hf (Hq o z) ø ø ø) ø (JLm (I64 ((a+1:Nat):Int)) ø (G7 (b9 _ _ (a+1) p (app1 a5 h) (by omega) ⟨(.sm ø ø),⟨fbQ ø ⟨.same rfl,þ⟩,þ⟩,rfl⟩)))))))
 ·
  have h:=app1 q (J5 m (Hg hb))
  refine H5 (v (Jr fun a9=>(JLh (E1 e) (bY Hv ø ø ø ø) ø (JLh (I64 d) (Gj Ga ø ø ø) ø ?_))))
  obtain⟨c3,j,b0,b1,h⟩:=Q8 h
  refine JLh (.dptr [I64 j]) (Gs (f:=I64) (xs:=e) (y:=j) ø ø ø Gr b1 b0) ø (JLh (I64 j) (Gj Ga ø ø ø) ø (JLm (I64 j) ø (G7 (a9 (Gt (fin1 I64 h))))))

def gQ (F:Nat) (s:H2) (bx:List Box) (families:List (List G5)) (Rp:(Int×Int)→Prop):Option Prop:=
 bnd (aH s bx) fun p=>
 bif (!p) then
 (some (Rp (0,2)))
 else
 (bnd (R8 bx) fun q=>
  each (fun d r (a:Int×(Hj G5 Int)) f=>
   bnd (bW q d) fun c=>
   bif decide (c.2≠0) then
   (some (Rp (0,c.2)))
   else
   (bnd (aI F s c.1) fun i=>
    chk (a.1+i) fun j=>
    each (fun e t (b:(Hj G5 Int)) g=>
     bnd (some (Hj.get b e 0)) fun k=>
     chk (k+1) fun m=>
     g (Hj.put b e m))
    (fun(b:(Hj G5 Int))=>
     f (j,b)) d 0 a.2))
  (fun(a:Int×(Hj G5 Int))=>
   YL (fun(n:G5×Int) (o:Unit) h=>
    bif decide (1 < n.2) then
    (lft (some (Rp (0,271))))
    else
    (h ()))
   (fun(o:Unit)=>
    some (Rp (a.1,0))) (Hj.l a.2) ()) families 0 (0,(Hj.empty:Hj G5 Int)))
def qK (F:Nat) (s:H2) (bx:List Box) (families:List (List G5)):Option (Int×Int):=
 bnd (aH s bx) fun p=>
 bif (!p) then
 (some (id (0,2)))
 else
 (bnd (R8 bx) fun q=>
  each (fun d r (a:Int×(Hj G5 Int)) f=>
   bnd (bW q d) fun c=>
   bif decide (c.2≠0) then
   (some (id (0,c.2)))
   else
   (bnd (aI F s c.1) fun i=>
    chk (a.1+i) fun j=>
    each (fun e t (b:(Hj G5 Int)) g=>
     bnd (some (Hj.get b e 0)) fun k=>
     chk (k+1) fun m=>
     g (Hj.put b e m))
    (fun(b:(Hj G5 Int))=>
     f (j,b)) d 0 a.2))
  (fun(a:Int×(Hj G5 Int))=>
   wP (fun(n:G5×Int) (o:Unit) h=>
    bif decide (1 < n.2) then
    (lft (some (id (0,271))))
    else
    (h ()))
   (fun(o:Unit)=>
    some (id (a.1,0))) (Hj.l a.2) ()) families 0 (0,(Hj.empty:Hj G5 Int)))
abbrev M8 (a:(Hj G5 Int)):Loc:=[(1051,MP 237 G5.kv I64 a)]
theorem QH (F:Nat) (s:H2) (bx:List Box) (families:List (List G5)) (Rp:(Int×Int)→Prop) (p:Prop) (h:gQ F s bx families Rp=some p) (hp:p):Pure Ej 69 [.agg (H2.cs s),E3 bx,LS 1 (E2) families] (fun av=>∃ r,Rp r∧av=.tup [I64 r.1,I64 r.2]):=by
 unfold gQ at h
 refine Gy [.tmp 6,.tmp 7] Tryz.func69 ø ø (Jr fun f7=>(JLh (.ptr 1049 0) (Qr (cs:=(H2.cs s)) 1049 ø ø ø ø ø) ø (JLm (I64 0) ø (JLm (I64 0) ø (G7 (f7 (H1 [(1,E3 bx),(2,LS 1 (E2) families),(3,Ec s)] [] 1049 rfl rfl rfl þ rfl (by exact⟨.conv (.same rfl),.conv (.same rfl),.ptr,þ⟩) (Js fun f8=>Jr fun f9=>(JLh (.agg (H2.cs s)) (Gk Qa ø ø ø) ø (JLm (E3 bx) ø ?_))))))))))
 obtain⟨r4,g0,h⟩:=Ge h
 refine JLh (BL r4) (Gq ø (lR s bx r4 g0) wK ⟨ø,ø,ø,ø,þ⟩) ø (JLh (BL (!r4)) (Ym (b:=r4) ø ø) ø (G7 (f9 (JCc ø h (fun h hb=>?_) (fun h hb=>?_)))))
 ·
  refine Jr fun g1=>(JLm (I64 0) ø (JLm (I64 2) ø (G7 (g1 (Gt (⟨[I64 0,I64 2],[],þ,ø,⟨⟨_,ø,.conv (.same ø)⟩,⟨_,ø,.conv (.same ø)⟩,þ⟩,ø,(0,2),Eq.mpr (Nv h) hp,ø⟩))))))
 ·
  refine Gn (f8 (Jr fun g2=>(JLm (E3 bx) ø ?_)))
  obtain⟨x,g3,h⟩:=Ge h
  refine JLh (E4 x) (Gq ø (kJ.down bx x g3) rQ ⟨ø,ø,þ⟩) ø (JLm (I64 0) ø (JLm (E4 x) ø (G7 (g2 (Jr fun g4=>(JLh (.mp 1051) (sU 1051 G5.kv I64 ø ø) ø (JLm (.mp 1051) ø (G7 (g4 (Js fun g5=>Jr fun b9=>(JLm (LS 1 (E2) families) ø (JLl Rj ø ø ø fun c0=>(JLm (I64 0) ø (G7 (b9 (Gi ?_))))))))))))))))
  obtain⟨g6,c1,c2,b4,h⟩:=Jg h
  refine H7 (fun k (g:Int×(Hj G5 Int))=>each g6 c1 (List.drop k families) k g=some p) (fun k g=>[(3,Ec s),(8,I64 g.1),(9,E4 x),(10,.mp 1051),(26,LS 1 (E2) families),(27,Ei families.length),(28,Ei k)]) (fun k g=>[(1051,MP 237 G5.kv I64 g.2)]) (fun k=>families.length - k) 0 (0,(Hj.empty:Hj G5 Int)) h ⟨(.sm ø ø),⟨fmQ ø,þ⟩,rfl⟩ ?_
  clear h
  intro k g a2 h6 g7
  refine Jr fun c3=>(JLh (BL (decide ((k:Int) < (families.length:Int)))) (Ht ø ø ø) ø (G7 (c3 (Js fun c4=>Gm ø (fun hb=>?_) (fun hb=>?_)))))
  ·
   have a3:=Q1 hb
   obtain⟨i,h3,c5,c6,h⟩:=J4 a2 a3
   replace h:=Zt c2 h
   refine Gn (c4 (Js fun c7=>Gi (Jr fun c8=>(JLh (.dptr [E2 i]) (Gs (f:=(E2)) (xs:=families) (y:=i) ø ø ø Rj c5 ø) ø (JLh (E2 i) (Gj bK ø ø ø) ø (JLm (E2 i) ø (G7 (c8 (Jr fun c9=>(JLm (E4 x) ø (JLm (E2 i) ø ?_)))))))))))
   obtain⟨j,d0,h⟩:=Ge h
   refine JLh (.tup [E4 j.1,I64 j.2]) (Gq ø (qX x i j d0) HR ⟨ø,ø,ø,ø,þ⟩) ø (JLm (.tup [E4 j.1,I64 j.2]) ø (JLh (E4 j.1) (Hu ø ø ø) ø (JLh (I64 j.2) (Hu ø ø ø) ø (JLm (E4 j.1) ø (JLm (I64 j.2) ø (G7 (c9 (Js fun d1=>Jr fun d2=>(JLm (I64 j.2) ø (JLh (BL (decide (j.2≠0))) (dX ø ø ø) ø (G7 (d2 (JCc ø h (fun h hb=>?_) (fun h hb=>?_))))))))))))))
   ·
    refine Jr fun d3=>(JLm (I64 j.2) ø (JLm (I64 0) ø (JLm (I64 j.2) ø (G7 (d3 (Gt (⟨[I64 0,I64 j.2],[],þ,ø,⟨⟨_,ø,.conv (.same ø)⟩,⟨_,ø,.conv (.same ø)⟩,þ⟩,ø,(0,j.2),Eq.mpr (Nv h) hp,ø⟩)))))))
   ·
    refine Gn (d1 (Jr fun d4=>(JLm (I64 g.1) ø (JLh (.agg (H2.cs s)) (Gk Qa ø ø ø) ø (JLm (E4 j.1) ø ?_)))))
    obtain⟨b7,d5,h⟩:=Ge h
    refine JLh (I64 b7) (Gq ø (lS F s j.1 b7 d5) wJ ⟨ø,ø,ø,ø,þ⟩) ø ?_
    obtain⟨w,d6,h⟩:=Hd h
    refine JLh (I64 w) (Hf d6 ø ø ø) ø (JLm (I64 w) ø (G7 (d4 (Jr fun d7=>(JLm (E2 i) ø (JLl Hx ø ø ø fun d8=>(JLm (I64 0) ø (G7 (d7 (Gi ?_))))))))))
    obtain⟨g8,d9,e0,b5,h⟩:=Jg h
    refine H7 (fun n (d:(Hj G5 Int))=>each g8 d9 (List.drop n i) n d=some p) (fun n d=>[(3,Ec s),(8,I64 w),(9,E4 x),(10,.mp 1051),(26,LS 1 (E2) families),(27,Ei families.length),(28,Ei k),(46,E2 i),(47,Ei i.length),(48,Ei n)]) (fun n d=>(M8 d)) (fun n=>i.length - n) 0 g.2 h ⟨(.sm ø ø),⟨fmQ ø,þ⟩,rfl⟩ ?_
    clear h
    intro n d a4 h7 g9
    refine Jr fun e1=>(JLh (BL (decide ((n:Int) < (i.length:Int)))) (Ht ø ø ø) ø (G7 (e1 (Js fun e2=>Gm ø (fun hb=>?_) (fun hb=>?_)))))
    ·
     have a5:=Q1 hb
     obtain⟨c,h4,e3,e4,h⟩:=J4 a4 a5
     replace h:=Zt e0 h
     refine Gn (e2 (Js fun e5=>Gi (Jr fun e6=>(JLh (.dptr [I64 c.Load,I64 c.Discharge]) (Gs (f:=G5.av) (xs:=i) (y:=c) ø ø ø Hx e3 ø) ø (JLh (.agg [I64 c.Load,I64 c.Discharge]) (Gk Hm ø ø ø) ø (JLh (.ptr 1050 0) (Q3 1050 2 Z1 ø ø) ø (J7 (u:=.junk) (Hw (u:=.agg [I64 c.Load,I64 c.Discharge]) (ds:=[I64 c.Load,I64 c.Discharge]) cL ø ø ø ø ø ø ø ø) (G7 (e6 ?_)))))))))
     refine fzQ [(3,Ec s),(8,I64 w),(9,E4 x),(10,.mp 1051),(16,.dptr [I64 c.Load,I64 c.Discharge]),(26,LS 1 (E2) families),(27,Ei families.length),(28,Ei k),(46,E2 i),(47,Ei i.length),(48,Ei n)] (M8 d) 1050 rfl rfl rfl ⟨fmQ ø,þ⟩ rfl ?_
     refine Zh (l':=[(3,Ec s),(8,I64 w),(9,E4 x),(10,.mp 1051),(16,.dptr [I64 c.Load,I64 c.Discharge]),(26,LS 1 (E2) families),(27,Ei families.length),(28,Ei k),(46,E2 i),(47,Ei i.length),(48,Ei n)]) (L':=(M8 d)) ⟨(.sm ø ø),⟨fmQ ø,þ⟩,rfl⟩ ?_
     obtain⟨h0,a6,h⟩:=Ge h
     obtain⟨a0,a7,h⟩:=Hd h
     refine Jo [4,6] [0,0,0,0,0,1,0] [0,0,1,1,0,1,0] [(M8 d),((1051,MI 237 G5.kv I64 d c 0)::(M8 d)),((1051,MP 237 G5.kv I64 (Hj.put d c a0))::((1051,MI 237 G5.kv I64 d c 0)::(M8 d)))] J9 (by kernel_rfl) rfl rfl ?_
     refine G9 (u:=.mp 1051) ø ø ⟨Gg (G3 ø ø) ø,þ⟩ (G9 (u:=.agg [I64 c.Load,I64 c.Discharge]) ø ø ⟨Gg (Gk Hm ø ø ø) ø,þ⟩ (G9 (u:=I64 h0) ø ø ⟨Gg (((Nv a6) ▸ oN (av:=I64) (m:=d) (a:=c) 0 E0 ø ø ø ø wC rM mC ø)) ø,Gg (((Nv a6) ▸ xE (av:=I64) (m:=d) (a:=c) 0 E0 ø ø ø ø wC rM mC ø)) ø,þ⟩ (G9 (u:=I64 a0) ø ø ⟨Gg (Hf a7 ø ø ø) ø,Gg (Hf a7 ø ø ø) ø,þ⟩ (D_w (u:=.tup [.junk,I64 (cA (Hj.l d) c:Int)]) ø ø ø ø (Gg (uT (m:=d) (a:=c) 0 E0 ø ø ø ø wC rM mC ø) ø) (G9 (u:=I64 (cA (Hj.l d) c:Int)) ø ø ⟨Gg (Hu ø ø ø) ø,þ⟩ (G70 (u:=.junk) ø ø ø ø (Gg (qM (m:=d) (a:=c) (v:=a0) 0 ø ø ø ø ø ø) ø) (Ri ?_)))))))
     refine e5 (G2 (JLh (I64 ((n+1:Nat):Int)) (Hf (Hq a5 d8) ø ø ø) ø (JLm (I64 ((n+1:Nat):Int)) ø (G7 (g9 _ _ (n+1) (Hj.put d c a0) (app1 e4 h) (by omega) ⟨(.sm ø ø),⟨fmQ ø,þ⟩,rfl⟩)))))
    ·
     have h:=app1 b5 (J5 a4 (Hg hb))
     refine H5 (c7 (G2 (JLh (I64 ((k+1:Nat):Int)) (Hf (Hq a3 c0) ø ø ø) ø (JLm (I64 ((k+1:Nat):Int)) ø (G7 (g7 _ _ (k+1) (w,d) (app1 c6 h) (by omega) ⟨(.sm ø ø),⟨fmQ ø,þ⟩,rfl⟩))))))
  ·
   have h:=app1 b4 (J5 a2 (Hg hb))
   refine H5 (g5 (Js fun e7=>Jr fun e8=>(JLm (.mp 1051) ø (JLh (.it 1052) (zB 1052 (m:=g.2) ø ø ø ø rM) ø (G7 (e8 (Gi ?_)))))))
   obtain⟨h1,e9,f0,b6,h⟩:=yI h
   refine yX (Hj.size g.2) (fun t (a1:Unit)=>MInv h1 e9 (Hj.l g.2) t a1) (fun t a1=>[(8,I64 g.1),(61,.it 1052)]) (fun t a1=>[(1051,MP 237 G5.kv I64 g.2),(1052,.iter (.mp 1051) (Hj.size g.2) t)]) () (MInv.start h hp) ⟨(.sm ø ø),⟨⟨_,ø,.map⟩,⟨_,ø,.iter ø⟩,þ⟩,ø⟩ ?_
   clear h hp
   intro t a1 a8 h8 h2
   refine Jr fun a9=>hU ø ø ø (QU (m:=g.2) ø ø ø ø) ?_
   intro u_ L_ hn_
   rcases hn_ with ⟨b8,o,z,b0,rfl,rfl⟩ | ⟨f1,rfl,rfl⟩
   ·
    obtain⟨h9,h,b1,b2⟩:=a8.step z b0
    replace h:=vM f0 h
    refine JLh (BL true) (Hu ø ø ø) ø (G7 (a9 (Js fun f2=>yY ø (Gn (f2 (Gi (Jr fun f3=>(JLh (.tup [.agg [I64 o.1.Load,I64 o.1.Discharge],I64 o.2]) (zF (kv:=G5.kv) (av:=I64) (m:=g.2) (q:=b8) (seen:=t) (e:=o) ø ø ø ø z) ø (JLh (I64 o.2) (Hu ø ø ø) ø (JLm (I64 o.2) ø (G7 (f3 (Jr fun f4=>(JLm (I64 o.2) ø (JLh (BL (decide (1 < o.2))) (Ya ø ø ø) ø (G7 (f4 (JCc ø h (fun h hb=>?_) (fun h hb=>?_)))))))))))))))))))
    ·
     refine Jr fun f5=>(JLm (I64 0) ø (JLm (I64 271) ø (G7 (f5 (Gt ?_)))))
     obtain⟨y_,hy_,hl_⟩:=H61 h
     exact⟨[I64 0,I64 271],[],þ,ø,⟨⟨_,ø,.conv (.same ø)⟩,⟨_,ø,.conv (.same ø)⟩,þ⟩,ø,(0,271),Eq.mpr (Nv hl_) (b1 y_ hy_),ø⟩
    ·
     refine Gn (h2 _ _ (t++[b8]) () (b2 _ (Nv h).symm) (uU (Nt z).1 b0) ⟨(.sm ø ø),⟨⟨_,ø,.map⟩,⟨_,ø,.iter ø⟩,þ⟩,ø⟩)
   ·
    obtain⟨p_,h,hp⟩:=a8.done f1
    replace h:=app1 b6 h
    refine JLh (BL false) (Hu ø ø ø) ø (G7 (a9 (Js fun h5=>uR ø (H5 (e7 (Jr fun f6=>(JLm (I64 g.1) ø (JLm (I64 g.1) ø (JLm (I64 0) ø (G7 (f6 (Gt (⟨[I64 g.1,I64 0],[],þ,ø,⟨⟨_,ø,.conv (.same ø)⟩,⟨_,ø,.conv (.same ø)⟩,þ⟩,ø,(g.1,0),Eq.mpr (Nv h) hp,ø⟩)))))))))))))
theorem QI (S_:Nat→(H2)→(List Box)→(List (List G5))→Option (Int×Int)) (hS_:∀ F s bx families r,S_ F s bx families=some r→∃ p:Prop,gQ F s bx families (fun r_=>r_=r)=some p∧p) (F:Nat) (s:H2) (bx:List Box) (families:List (List G5)) (r:Int×Int) (h:S_ F s bx families=some r):Pure Ej 69 [.agg (H2.cs s),E3 bx,LS 1 (E2) families] (·=.tup [I64 r.1,I64 r.2]):=by
 obtain⟨p,a,b⟩:=hS_ F s bx families r h
 exact(QH F s bx families _ p a b).monoP (fun av hh=>by obtain⟨r_,rfl,ha⟩:=hh; exact ha)

def dW (F:Nat) (s:H2) (bx:List Box) (l:List G5):Option (Int×Int):=
 bnd (aH s bx) fun c=>
 bif (!c) then
 (some (0,2))
 else
 (bnd (R8 bx) fun d=>
  bnd (bW d l) fun a=>
  bif decide (a.2≠0) then
  (some (0,a.2))
  else
  (bnd (aI F s a.1) fun b=>
   some (b,0)))
theorem fX (F:Nat) (s:H2) (bx:List Box) (l:List G5) (r:Int×Int) (h:dW F s bx l=some r):Pure Ej 67 [.agg (H2.cs s),E3 bx,E2 l] (·=.tup [I64 r.1,I64 r.2]):=by
 unfold dW at h
 refine Gy [.tmp 6,.tmp 7] Tryz.func67 ø ø (Jr fun k=>(JLh (.ptr 1045 0) (Qr (cs:=(H2.cs s)) 1045 ø ø ø ø ø) ø (JLm (I64 0) ø (JLm (I64 0) ø (G7 (k (H1 [(1,E3 bx),(2,E2 l),(3,Ec s)] [] 1045 rfl rfl rfl þ rfl (by exact⟨.conv (.same rfl),.conv (.same rfl),.ptr,þ⟩) (Js fun m=>Jr fun n=>(JLh (.agg (H2.cs s)) (Gk Qa ø ø ø) ø (JLm (E3 bx) ø ?_))))))))))
 obtain⟨d,o,h⟩:=Ge h
 refine JLh (BL d) (Gq ø (lR s bx d o) wK ⟨ø,ø,ø,ø,þ⟩) ø (JLh (BL (!d)) (Ym (b:=d) ø ø) ø (G7 (n (JCc ø h (fun h hb=>?_) (fun h hb=>?_)))))
 ·
  refine Jr fun p=>(JLm (I64 0) ø (JLm (I64 2) ø (G7 (p (Gt (⟨[I64 0,I64 2],[],þ,ø,⟨⟨_,ø,.conv (.same ø)⟩,⟨_,ø,.conv (.same ø)⟩,þ⟩,ø,congrArg (fun r:Int×Int=>(.tup [I64 r.1,I64 r.2]:AV)) (Nv h)⟩))))))
 ·
  refine Gn (m (Jr fun q=>(JLm (E3 bx) ø ?_)))
  obtain⟨e,t,h⟩:=Ge h
  refine JLh (E4 e) (Gq ø (kJ.down bx e t) rQ ⟨ø,ø,þ⟩) ø (JLm (E2 l) ø ?_)
  obtain⟨a,u,h⟩:=Ge h
  refine JLh (.tup [E4 a.1,I64 a.2]) (Gq ø (qX e l a u) HR ⟨ø,ø,ø,ø,þ⟩) ø (JLm (.tup [E4 a.1,I64 a.2]) ø (JLh (E4 a.1) (Hu ø ø ø) ø (JLh (I64 a.2) (Hu ø ø ø) ø (JLm (E4 a.1) ø (JLm (I64 a.2) ø (G7 (q (Js fun v=>Jr fun f=>(JLm (I64 a.2) ø (JLh (BL (decide (a.2≠0))) (dX ø ø ø) ø (G7 (f (JCc ø h (fun h hb=>?_) (fun h hb=>?_))))))))))))))
  ·
   refine Jr fun g=>(JLm (I64 a.2) ø (JLm (I64 0) ø (JLm (I64 a.2) ø (G7 (g (Gt (⟨[I64 0,I64 a.2],[],þ,ø,⟨⟨_,ø,.conv (.same ø)⟩,⟨_,ø,.conv (.same ø)⟩,þ⟩,ø,congrArg (fun r:Int×Int=>(.tup [I64 r.1,I64 r.2]:AV)) (Nv h)⟩)))))))
  ·
   refine Gn (v (Jr fun i=>(JLh (.agg (H2.cs s)) (Gk Qa ø ø ø) ø (JLm (E4 a.1) ø ?_))))
   obtain⟨c,j,h⟩:=Ge h
   refine JLh (I64 c) (Gq ø (lS F s a.1 c j) wJ ⟨ø,ø,ø,ø,þ⟩) ø (JLm (I64 c) ø (JLm (I64 0) ø (G7 (i (Gt (⟨[I64 c,I64 0],[],þ,ø,⟨⟨_,ø,.conv (.same ø)⟩,⟨_,ø,.conv (.same ø)⟩,þ⟩,ø,congrArg (fun r:Int×Int=>(.tup [I64 r.1,I64 r.2]:AV)) (Nv h)⟩))))))
end
end Go.Proofs.YthkihfoleenlmaaGreat
