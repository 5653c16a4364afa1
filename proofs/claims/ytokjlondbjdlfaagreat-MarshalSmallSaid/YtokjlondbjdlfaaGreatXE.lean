/- Walks of functions. -/
import Derived.Test.YtokjlondbjdlfaaGreatXEa
set_option maxRecDepth 100000
set_option maxHeartbeats 1000000
set_option linter.unusedVariables false
set_option linter.unusedSimpArgs false
namespace Go.Proofs.YtokjlondbjdlfaaGreat
open Go.RowKit
noncomputable section
open XAF
open XBF
open XCF
open XDF
open XEF

def Q8 (F:Nat) (y:Gs) (order:List Int) (from_:Int) (box:Int):Option Int:=
 chk ((y.Stacks.length:Int) - 1) fun l=>
 loop (fun f (a:Int×Int)=>
  bif decide (0≤a.2) then
  (jp (fun d=>
    Qx y.Stacks a.2 fun g=>
    bnd (R8 g order) fun b=>
    bnd (bif decide (a.2≠from_) then Qx y.Stacks a.2 some else some default) fun c=>
    bnd (bif ((decide (a.2≠from_))&&(decide ((c.length:Int) < y.Height))) then Jd order box else some default) fun e=>
    bnd (bif ((((decide (a.2≠from_))&&(decide ((c.length:Int) < y.Height)))&&(decide (e≤b)))&&!(decide (a.1 < 0))) then Qx y.Stacks a.1 some else some default) fun h=>
    bnd (bif ((((decide (a.2≠from_))&&(decide ((c.length:Int) < y.Height)))&&(decide (e≤b)))&&!(decide (a.1 < 0))) then R8 h order else some default) fun i=>
    bif ((((decide (a.2≠from_))&&(decide ((c.length:Int) < y.Height)))&&(decide (e≤b)))&&((decide (a.1 < 0))||(decide (b≤i)))) then
    (d a.2)
    else
    (d a.1)) fun(j:Int)=>
   chk (a.2 - 1) fun k=>
   f (j,k))
  else
  (some a.1)) F ((-1),l)
theorem Ge8 (F:Nat) (y:Gs) (order:List Int) (from_:Int) (box:Int) (r:Int) (h:Q8 F y order from_ box=some r):Pure E8 52 [.agg [LS 1 (E1) y.Stacks,I64 y.Height],E1 order,I64 from_,I64 box] (·=I64 r):=by
 unfold Q8 at h
 refine Hj [.tmp 8] Tryz.func52 O O (Jr fun a7=>(JLh (.ptr 1083 0) (Qw (cs:=[LS 1 (E1) y.Stacks,I64 y.Height]) 1083 O O O O O) O (JLm (I64 0) O (G6 (a7 (fzQ [(1,E1 order),(2,I64 from_),(3,I64 box),(4,.dptr [LS 1 (E1) y.Stacks,I64 y.Height])] [] 1083 rfl rfl rfl ø rfl (Jr fun a8=>(JLm (I64 (-1)) O (G6 (a8 (Js fun a9=>Jr fun b0=>(JLh (.dptr [LS 1 (E1) y.Stacks,I64 y.Height]) (H1 H3 O O O) O (JLh (LS 1 (E1) y.Stacks) (Gr Gv O O O) O (JLl Ge O O O fun b5=>?_))))))))))))))
 obtain⟨n,b1,h⟩:=Je h
 refine JLh (I64 n) (G07 b1 O O O) O (JLm (I64 n) O (G6 (b0 (Gf ?_))))
 obtain⟨b2,o,h⟩:=G0e h
 refine Ha (fun e (a:Int×Int)=>loop b2 e a=some r) (fun e a=>[(1,E1 order),(2,I64 from_),(3,I64 box),(4,.dptr [LS 1 (E1) y.Stacks,I64 y.Height]),(9,I64 a.1),(10,I64 a.2)]) (fun e a=>[]) (fun e=>e) F ((-1),n) h ⟨(.sm O O),ø,rfl⟩ ?_
 clear h
 intro e a p b7 b3
 obtain⟨b4,b6,hm_29,q,h⟩:=Z7 p
 replace h:=H65 o h
 refine Js fun s=>Jr fun t=>(JLm (I64 a.2) O (JLh (BL (decide (0≤a.2))) (G6b O O O) O (G6 (t (JCc O h (fun h hb=>?_) (fun h hb=>?_))))))
 ·
  refine Gk (s ?_)
  obtain⟨u,m,h⟩:=G23 h
  refine Zr (fun g:Int=>u g=some r) (fun g=>[(1,E1 order),(2,I64 from_),(3,I64 box),(4,.dptr [LS 1 (E1) y.Stacks,I64 y.Height]),(9,I64 g),(10,I64 a.2)]) (fun g=>[]) (fun Kj32 ej32=>?_) ?_
  ·
   refine Gf (Jr fun v=>(JLh (.dptr [LS 1 (E1) y.Stacks,I64 y.Height]) (H1 H3 O O O) O (JLh (LS 1 (E1) y.Stacks) (Gr Gv O O O) O (JLm (I64 a.2) O ?_))))
   obtain⟨b8,k,w,x,h⟩:=Rf h
   refine JLh (.dptr [E1 k]) (Gz (f:=(E1)) (xs:=y.Stacks) (y:=k) O O O Ge x w) O (JLh (E1 k) (Gr H5 O O O) O (JLm (E1 order) O ?_))
   obtain⟨b,z,h⟩:=Gd h
   refine JLh (I64 b) (Gu O (G53 k order b z) J05 ⟨O,O,O,O,ø⟩) O (JLm (I64 b) O (G6 (v (Js fun a0=>?_))))
   obtain⟨c,a1,h⟩:=Gd h
   obtain⟨d,a2,h⟩:=Gd h
   obtain⟨i,a3,h⟩:=Gd h
   obtain⟨j,a4,h⟩:=Gd h
   refine JC_d0 Jg (by kernel_rfl) (Dq (I64 a.2) (G3 O O) O (Dq (I64 from_) (G3 O O) O (Dq (BL (decide (a.2≠from_))) (G1c O O O) O (Dq (BL (decide (a.2≠from_))) (G3 O O) O (Do (.dptr [LS 1 (E1) y.Stacks,I64 y.Height]) [] O .sct ø (fun hc=>H1 H3 O O O) O (Do (LS 1 (E1) y.Stacks) [31] O .sct ⟨Ua,ø⟩ (fun hc=>Gr Gv O O O) O (Do (I64 a.2) [] O .sct ø (fun hc=>G3 O O) O (Do (.dptr [E1 c]) [32,33] O .sct ⟨Ua,Ua,ø⟩ (fun hc=>(match G66 (H6 hc a1) with | ⟨_,hm_,hy_⟩=>Gz (f:=(E1)) (xs:=y.Stacks) (y:=c) O O O Ge hy_ hm_)) O (Do (E1 c) [34] O .sct ⟨Ua,ø⟩ (fun hc=>Gr H5 O O O) O (Do (E7 c.length) [35] O .sct ⟨Ua,ø⟩ (fun hc=>Re (f:=I64) (xs:=c) G8 O O) O (Do (.dptr [I64 y.Height]) [] O .sct ø (fun hc=>H1 G2c O O O) O (Do (I64 y.Height) [37] O .sct ⟨Ua,ø⟩ (fun hc=>Gr Gj O O O) O (Do (BL (decide ((c.length:Int) < y.Height))) [36,38] O .sct ⟨Ua,Ua,ø⟩ (fun hc=>J2 O O O) O ?_)))))))))))))
   refine Dq (BL ((decide (a.2≠from_))&&(decide ((c.length:Int) < y.Height)))) (Yy O O O O) O (Dq (BL ((decide (a.2≠from_))&&(decide ((c.length:Int) < y.Height)))) (G3 O O) O (Do (I64 b) [] O .sct ø (fun hc=>G3 O O) O (Do (E1 order) [] O .sct ø (fun hc=>G3 O O) O (Do (I64 box) [] O .sct ø (fun hc=>G3 O O) O (Do (I64 d) [43,44] O .sct ⟨Ua,Ua,ø⟩ (fun hc=>Gu (args:=[E1 order,I64 box]) O (Jk order box d (H6 hc a2)) G0a ⟨O,O,O,O,ø⟩) O (Do (BL (decide (d≤b))) [42,45] O .sct ⟨Ua,Ua,ø⟩ (fun hc=>G6b O O O) O (Dq (BL (((decide (a.2≠from_))&&(decide ((c.length:Int) < y.Height)))&&(decide (d≤b)))) (Yy O O O O) O (Dq (BL (((decide (a.2≠from_))&&(decide ((c.length:Int) < y.Height)))&&(decide (d≤b)))) (G3 O O) O (Do (I64 a.1) [] O .sct ø (fun hc=>G3 O O) O (Do (BL (decide (a.1 < 0))) [49] O .sct ⟨Ua,ø⟩ (fun hc=>J2 O O O) O (Do (BL (decide (a.1 < 0))) [50] O .sct ⟨Ua,ø⟩ (fun hc=>G3 O O) O (Do (I64 b) [] O .optf ø (fun hc=>G3 O O) O (Do (.dptr [LS 1 (E1) y.Stacks,I64 y.Height]) [] O .optf ø (fun hc=>H1 H3 O O O) O ?_)))))))))))))
   refine Do (LS 1 (E1) y.Stacks) [53] O .optf ⟨Ua,ø⟩ (fun hc=>Gr Gv O O O) O (Do (I64 a.1) [] O .optf ø (fun hc=>G3 O O) O (Do (.dptr [E1 i]) [54,55] O .optf ⟨Ua,Ua,ø⟩ (fun hc=>(match G66 (H6 hc a3) with | ⟨_,hm_,hy_⟩=>Gz (f:=(E1)) (xs:=y.Stacks) (y:=i) O O O Ge hy_ hm_)) O (Do (E1 i) [56] O .optf ⟨Ua,ø⟩ (fun hc=>Gr H5 O O O) O (Do (E1 order) [] O .optf ø (fun hc=>G3 O O) O (Do (I64 j) [57,58] O .optf ⟨Ua,Ua,ø⟩ (fun hc=>Gu (args:=[E1 i,E1 order]) O (G53 i order j (H6 hc a4)) J05 ⟨O,O,O,O,ø⟩) O (Do (BL (decide (b≤j))) [52,59] O .optf ⟨Ua,Ua,ø⟩ (fun hc=>R0f O O O) O (Dg (.opt (((decide (a.2≠from_))&&(decide ((c.length:Int) < y.Height)))&&(decide (d≤b))) (BL ((decide (a.1 < 0))||(decide (b≤j))))) (H9 [(51,BL (decide (a.1 < 0))),(60,_)] O O O .sct ⟨.all id,.part,ø⟩ (fun hc=>G17 O O O O) O) O (Dq (BL ((((decide (a.2≠from_))&&(decide ((c.length:Int) < y.Height)))&&(decide (d≤b)))&&((decide (a.1 < 0))||(decide (b≤j))))) (Yy O O O O) O (Dnil ?_)))))))))
   refine a0 (JCc O h (fun h hb=>?_) (fun h hb=>?_))
   ·
    refine G1 (JLm (I64 a.2) O (JLm (I64 a.2) O (G6 (ej32 _ _ a.2 h ⟨(.sm O O),ø,rfl⟩))))
   ·
    refine Gk (ej32 _ _ a.1 h ⟨(.sm O O),ø,rfl⟩)
  ·intro g h
   replace h:=app1 m h
   refine G1 (JLm (I64 a.2) O ?_)
   obtain⟨l,a5,h⟩:=Je h
   refine JLh (I64 l) (G07 a5 O O O) O (JLm (I64 l) O (G6 (b3 _ _ b4 (g,l) (app1 q h) (by omega) ⟨(.sm O O),ø,rfl⟩)))
 ·
  refine Hd (a9 (Jr fun a6=>(JLm (I64 a.1) O (JLm (I64 a.1) O (G6 (a6 (H0 (fin1 I64 h))))))))

def Rq (F:Nat) (y:Gs) (order:List Int):Option (G7×Bool):=
 bnd (J1 F y order) fun k=>
 each (fun c l (a:Int×Int×Int) h=>
  jp (fun d=>
   bnd (Rr F y c) fun b=>
   Qx y.Stacks b.1 fun i=>
   chk ((i.length:Int) - 1) fun f=>
   bnd (bif ((!(decide (b.2.1≠f)))&&(decide (0 < a.1))) then Y7 order c a.1 else some default) fun j=>
   bif ((decide (b.2.1≠f))||((decide (0 < a.1))&&(!j))) then
   (d (a.1,a.2.1,a.2.2))
   else
   (bnd (Q8 F y order b.1 c) fun g=>
    bif decide (0≤g) then
    (d (c,b.1,g))
    else
    (d (a.1,a.2.1,a.2.2)))) fun(e:Int×Int×Int)=>
  h (e.1,e.2.1,e.2.2))
 (fun(a:Int×Int×Int)=>
  some ((G7.mk a.2.1 a.2.2),decide (0 < a.1))) k 0 (0,0,0)
theorem Gf9 (F:Nat) (y:Gs) (order:List Int) (r:G7×Bool) (h:Rq F y order=some r):Pure E8 25 [.agg [LS 1 (E1) y.Stacks,I64 y.Height],E1 order] (·=.tup [.agg [I64 r.1.From,I64 r.1.To],BL r.2]):=by
 unfold Rq at h
 refine Hj [.cell 4 55,.tmp 5] Tryz.func25 O O (Jr fun b7=>(JLh (.ptr 1053 0) (Qw (cs:=[LS 1 (E1) y.Stacks,I64 y.Height]) 1053 O O O O O) O (JLh (.ptr 1054 0) (Gc9 1054 [I64 0,I64 0] [E0,E0] Gb5 (zzQ O) O O) O (JLm (BL false) O (G6 (b7 (H7 [(1,E1 order),(2,.dptr [LS 1 (E1) y.Stacks,I64 y.Height]),(4,.ptr 1054 0)] [(1054,.box 55 [I64 0,I64 0])] 1053 rfl rfl rfl ⟨⟨_,rfl,.boxEq rfl rfl⟩,ø⟩ rfl (by exact⟨.conv (.same rfl),.ptr,.conv (.same rfl),ø⟩) (Jr fun b8=>(JLh (.agg [LS 1 (E1) y.Stacks,I64 y.Height]) (Gt Hg O O O) O (JLm (E1 order) O ?_))))))))))
 obtain⟨j,b9,h⟩:=Gd h
 refine JLh (E1 j) (Gu O (Yr F y order j b9) Gb8 ⟨O,O,O,O,ø⟩) O (JLm (E1 j) O (G6 (b8 (Jr fun c0=>(JLm (I64 0) O (G6 (c0 (Jr fun c1=>(JLh (.ptr 1055 0) (Gc9 1055 [I64 0,I64 0] [E0,E0] Gb5 (zzQ O) O O) O (G6 (c1 (Js fun c2=>Jr fun c3=>(JLm (I64 0) O (G6 (c3 (Gf ?_))))))))))))))))
 obtain⟨b4,t,v,q,h⟩:=J7 h
 refine Ha (fun d (a:Int×Int×Int)=>each b4 t (List.drop d j) d a=some r) (fun d a=>[(1,E1 order),(2,.dptr [LS 1 (E1) y.Stacks,I64 y.Height]),(4,.ptr 1054 0),(6,E1 j),(7,I64 a.1),(8,.ptr 1055 0),(9,E7 d)]) (fun d a=>[(1054,.box 55 [I64 0,I64 0]),(1055,.box 55 [I64 a.2.1,I64 a.2.2])]) (fun d=>j.length - d) 0 (0,0,0) h ⟨(.sm O O),⟨fbQ O (.sm O O),fbQ O (.sm O O),ø⟩,rfl⟩ ?_
 clear h
 intro d a o c5 b5
 refine Js fun w=>Jr fun x=>(JLm (E7 d) O (JLm (E1 j) O (JLl G8 O O O fun b6=>(JLh (BL (decide ((d:Int) < (j.length:Int)))) (J2 O O O) O (G6 (x (Gi O (fun hb=>?_) (fun hb=>?_))))))))
 ·
  have p:=Jp hb
  obtain⟨e,c4,l,z,h⟩:=Hw o p
  replace h:=Yw v h
  refine Gk (w ?_)
  obtain⟨a0,s,h⟩:=G23 h
  refine Zr (fun i:Int×Int×Int=>a0 i=some r) (fun i=>[(1,E1 order),(2,.dptr [LS 1 (E1) y.Stacks,I64 y.Height]),(4,.ptr 1054 0),(6,E1 j),(7,I64 i.1),(8,.ptr 1055 0),(9,E7 d)]) (fun i=>[(1054,.box 55 [I64 0,I64 0]),(1055,.box 55 [I64 i.2.1,I64 i.2.2])]) (fun Kj121 ej121=>?_) ?_
  ·
   refine Gf (Js fun a1=>R0 (l':=[(1,E1 order),(2,.dptr [LS 1 (E1) y.Stacks,I64 y.Height]),(4,.ptr 1054 0),(6,E1 j),(7,I64 a.1),(8,.ptr 1055 0),(9,E7 d)]) (L':=[(1054,.box 55 [I64 0,I64 0]),(1055,.box 55 [I64 a.2.1,I64 a.2.2])]) ⟨(.sm O O),⟨fbQ O (.sm O O),fbQ O (.sm O O),ø⟩,rfl⟩ ?_)
   obtain⟨c,a2,h⟩:=Gd h
   refine JC_d0 Jg (by kernel_rfl) (Dq (.agg [LS 1 (E1) y.Stacks,I64 y.Height]) (Gt Hg O O O) O (Dq (E1 j) (G3 O O) O (Dq (E7 d) (G3 O O) O (Dq (.dptr [I64 e]) (Gz (f:=I64) (xs:=j) (y:=e) O O O G8 l O) O (Dq (I64 e) (Gr Gj O O O) O (Dq (.tup [I64 c.1,I64 c.2.1,BL c.2.2]) (Gu (args:=[.agg [LS 1 (E1) y.Stacks,I64 y.Height],I64 e]) O (G68 F y e c a2) J0c ⟨O,O,O,O,ø⟩) O (Dq (.tup [I64 c.1,I64 c.2.1,BL c.2.2]) (G3 O O) O (Dq (I64 c.1) (Gw O O O) O (Dq (I64 c.2.1) (Gw O O O) O (Dq (BL c.2.2) (Gw O O O) O (Dq (I64 c.1) (G5 O O) O (Dq (I64 c.2.1) (G5 O O) O (Dq (BL c.2.2) (G5 O O) O (Dnil (a1 (Js fun a3=>?_))))))))))))))))
   refine Jr fun a4=>(JLm (I64 c.2.1) O (JLh (.dptr [LS 1 (E1) y.Stacks,I64 y.Height]) (H1 H3 O O O) O (JLh (LS 1 (E1) y.Stacks) (Gr Gv O O O) O (JLm (I64 c.1) O ?_))))
   obtain⟨c6,n,a5,a6,h⟩:=Rf h
   refine JLh (.dptr [E1 n]) (Gz (f:=(E1)) (xs:=y.Stacks) (y:=n) O O O Ge a6 a5) O (JLh (E1 n) (Gr H5 O O O) O (JLl G8 O O O fun c7=>?_))
   obtain⟨m,a7,h⟩:=Je h
   refine JLh (I64 m) (G07 a7 O O O) O (JLh (BL (decide (c.2.1≠m))) (G1c O O O) O (JLm (BL (decide (c.2.1≠m))) O (JLo (I64 a.1) [] O .scf ø (fun hc=>G3 O O) O (JLo (BL (decide (0 < a.1))) [43] O .scf ⟨Ua,ø⟩ (fun hc=>G08 O O O) O (JLo (BL (decide (0 < a.1))) [44] O .scf ⟨Ua,ø⟩ (fun hc=>G3 O O) O (JLo (E1 order) [] O .optt ø (fun hc=>G3 O O) O (JLo (E1 j) [] O .optt ø (fun hc=>G3 O O) O (JLo (E7 d) [] O .optt ø (fun hc=>G3 O O) O (JLo (.dptr [I64 e]) [47,48] O .optt ⟨Ua,Ua,ø⟩ (fun hc=>Gz (f:=I64) (xs:=j) (y:=e) O O O G8 l O) O (JLo (I64 e) [49] O .optt ⟨Ua,ø⟩ (fun hc=>Gr Gj O O O) O (JLo (I64 a.1) [] O .optt ø (fun hc=>G3 O O) O ?_)))))))))))
   obtain⟨k,a8,h⟩:=Gd h
   refine JLo (BL k) [46,50,51] O .optt ⟨Ua,Ua,Ua,ø⟩ (fun hc=>Gu (args:=[E1 order,I64 e,I64 a.1]) O (Ge9 order e a.1 k (H6 hc a8)) Q0e ⟨O,O,O,O,O,O,ø⟩) O (JLo (BL (!k)) [52] O .optt ⟨Ua,ø⟩ (fun hc=>Y4 (b:=k) O O) O (Gm (u:=BL ((decide (0 < a.1))&&(!k))) [(45,BL (decide (0 < a.1))),(53,_)] O O O .scf ⟨.all id,.part,ø⟩ (fun hc=>Yy O O O O) ?_))
   refine JLh (BL ((decide (c.2.1≠m))||((decide (0 < a.1))&&(!k)))) (G17 O O O O) O (G6 (a4 (JCc O h (fun h hb=>?_) (fun h hb=>?_))))
   ·
    refine Hd (ej121 _ _ (a.1,a.2.1,a.2.2) h ⟨(.sm O O),⟨fbQ O (.sm O O),fbQ O (.sm O O),ø⟩,rfl⟩)
   ·
    refine Gk (a3 (Js fun a9=>R0 (l':=[(1,E1 order),(2,.dptr [LS 1 (E1) y.Stacks,I64 y.Height]),(4,.ptr 1054 0),(6,E1 j),(7,I64 a.1),(8,.ptr 1055 0),(9,E7 d),(10,I64 c.1)]) (L':=[(1054,.box 55 [I64 0,I64 0]),(1055,.box 55 [I64 a.2.1,I64 a.2.2])]) ⟨(.sm O O),⟨fbQ O (.sm O O),fbQ O (.sm O O),ø⟩,rfl⟩ ?_))
    obtain⟨g,b0,h⟩:=Gd h
    refine JC_d0 Jg (by kernel_rfl) (Dq (.agg [LS 1 (E1) y.Stacks,I64 y.Height]) (Gt Hg O O O) O (Dq (E1 order) (G3 O O) O (Dq (I64 c.1) (G3 O O) O (Dq (E1 j) (G3 O O) O (Dq (E7 d) (G3 O O) O (Dq (.dptr [I64 e]) (Gz (f:=I64) (xs:=j) (y:=e) O O O G8 l O) O (Dq (I64 e) (Gr Gj O O O) O (Dq (I64 g) (Gu (args:=[.agg [LS 1 (E1) y.Stacks,I64 y.Height],E1 order,I64 c.1,I64 e]) O (Ge8 F y order c.1 e g b0) Q0d ⟨O,O,O,O,O,O,O,O,ø⟩) O (Dq (I64 g) (G5 O O) O (Dnil (a9 (Jr fun b1=>(JLm (I64 g) O (JLh (BL (decide (0≤g))) (G6b O O O) O (G6 (b1 (JCc O h (fun h hb=>?_) (fun h hb=>?_))))))))))))))))))
    ·
     refine Jr fun b2=>(JLm (E1 j) O (JLm (E7 d) O (JLh (.dptr [I64 e]) (Gz (f:=I64) (xs:=j) (y:=e) O O O G8 l O) O (JLh (I64 e) (Gr Gj O O O) O (JLm (I64 e) O (G6 (b2 (G1 (JLm (I64 c.1) O (JLm (I64 g) O (JLh (.agg [I64 c.1,I64 g]) (Jf (cs:=[I64 c.1,I64 g]) [(0,1),(1,1)] [I64 0,I64 0] [E0,E0] H03 Gb5 (zzQ O) O O) O (Jb (u:=.junk) (Hu (u:=.agg [I64 c.1,I64 g]) (ds:=[I64 c.1,I64 g]) H02 O O O O O O O O) (G6 (ej121 _ _ (e,c.1,g) h ⟨(.sm O O),⟨fbQ O (.sm O O),fbQ O (.sm O O),ø⟩,rfl⟩))))))))))))))
    ·
     refine Gk (ej121 _ _ (a.1,a.2.1,a.2.2) h ⟨(.sm O O),⟨fbQ O (.sm O O),fbQ O (.sm O O),ø⟩,rfl⟩)
  ·intro i h
   replace h:=app1 s h
   refine G1 (JLm (E7 d) O (JLh (I64 ((d+1:Nat):Int)) (Hz (Hi p b6) O O O) O (JLm (I64 ((d+1:Nat):Int)) O (G6 (b5 _ _ (d+1) (i.1,i.2.1,i.2.2) (app1 z h) (by omega) ⟨(.sm O O),⟨fbQ O (.sm O O),fbQ O (.sm O O),ø⟩,rfl⟩)))))
 ·
  have h:=app1 q (Hx o (Hc hb))
  refine Hd (c2 (Jr fun b3=>(JLh (.agg [I64 a.2.1,I64 a.2.2]) (Jc G10 O O O O) O (JLm (I64 a.1) O (JLh (BL (decide (0 < a.1))) (G08 O O O) O (Jb (u:=.junk) (Hu (u:=.agg [I64 a.2.1,I64 a.2.2]) (ds:=[I64 a.2.1,I64 a.2.2]) H02 O O O O O O O O) (JLm (BL (decide (0 < a.1))) O (G6 (b3 (H7 [(4,.ptr 1054 0),(5,BL (decide (0 < a.1)))] [(1054,.box 55 [I64 a.2.1,I64 a.2.2])] 1055 rfl rfl rfl ⟨⟨_,rfl,.boxEq rfl rfl⟩,ø⟩ rfl (by exact⟨.conv (.same rfl),.conv (.same rfl),ø⟩) (H0 ?_)))))))))))
  exact⟨[.agg [I64 a.2.1,I64 a.2.2],BL (decide (0 < a.1))],[],ø,O,⟨⟨_,⟨_,_,_,_,O,O,O,.inl ⟨G10,O⟩⟩,.conv (.same O)⟩,⟨_,O,.conv (.same O)⟩,ø⟩,O,congrArg (fun r:G7×Bool=>(.tup [.agg [I64 r.1.From,I64 r.1.To],BL r.2]:AV)) (Ez h)⟩

def He (F:Nat) (y:Gs) (order:List Int):Option ((List G7)×Int):=
 bnd (Q9 F y order) fun f=>
 bif (!f) then
 (some ([],2))
 else
 (loop (fun d (a:(List G7)×(List (List Int))×Int)=>
   bnd (J1 F (Gs.mk a.2.1 a.2.2) order) fun e=>
   bif decide (0 < (e.length:Int)) then
   (bnd (Rq F (Gs.mk a.2.1 a.2.2) order) fun b=>
    bif (!b.2) then
    (some ([],360))
    else
    (need (decide ((a.1.length+[b.1].length)*16≤140737488355328∧a.1.length+[b.1].length≤maxLen)) <|
     bnd (Jx F (Gs.mk a.2.1 a.2.2) b.1) fun c=>
     d ((a.1++[b.1]),c.1.Stacks,c.1.Height)))
   else
   (some (a.1,0))) F ([],y.Stacks,y.Height))
theorem G3f (F:Nat) (y:Gs) (order:List Int) (r:(List G7)×Int) (h:He F y order=some r):Pure E8 6 [.agg [LS 1 (E1) y.Stacks,I64 y.Height],E1 order] (·=.tup [E3 r.1,I64 r.2]):=by
 unfold He at h
 refine Hj [.tmp 4,.tmp 5] Tryz.func6 O O (Jr fun a1=>(JLh (.ptr 1012 0) (Qw (cs:=[LS 1 (E1) y.Stacks,I64 y.Height]) 1012 O O O O O) O (JLh (E3 ([]:List G7)) (Jo 2 O O) O (JLm (I64 0) O (G6 (a1 (Js fun a2=>Jr fun a3=>(JLh (.agg [LS 1 (E1) y.Stacks,I64 y.Height]) (Jc Hg O O O O) O (JLm (E1 order) O ?_)))))))))
 obtain⟨i,a4,h⟩:=Gd h
 refine JLh (BL i) (Gu O (Yq F y order i a4) H06 ⟨O,O,O,O,ø⟩) O (JLh (BL (!i)) (Y4 (b:=i) O O) O (G6 (a3 (JCc O h (fun h hb=>?_) (fun h hb=>?_)))))
 ·
  refine Jr fun a5=>(JLh (E3 ([]:List G7)) (Jo 2 O O) O (JLm (I64 2) O (G6 (a5 (H7 [(4,E3 ([]:List G7)),(5,I64 2)] [] 1012 rfl rfl rfl ø rfl (by exact⟨.conv (.same rfl),.conv (.same rfl),ø⟩) (H0 (⟨[E3 ([]:List G7),I64 2],[],ø,O,⟨⟨_,O,.conv (.same O)⟩,⟨_,O,.conv (.same O)⟩,ø⟩,O,congrArg (fun r:(List G7)×Int=>(.tup [E3 r.1,I64 r.2]:AV)) (Ez h)⟩)))))))
 ·
  refine Gk (a2 (Jr fun a6=>(JLh (OW 1013 2 G7.av ([]:List G7)) (Ga2 1013 55 2 O O O) O (G6 (a6 (Js fun a7=>Gf ?_))))))
  obtain⟨a8,j,h⟩:=G0e h
  refine Ha (fun e (a:(List G7)×(List (List Int))×Int)=>loop a8 e a=some r) (fun e a=>[(1,E1 order),(2,.ptr 1012 0),(6,OW 1013 2 G7.av a.1)]) (fun e a=>[(1013,.spare 55 2 a.1.length a.1.length),(1012,.box 30 [LS 1 (E1) a.2.1,I64 a.2.2])]) (fun e=>e) F ([],y.Stacks,y.Height) h ⟨(.sm O O),⟨⟨_,O,.same⟩,⟨_,O,.boxL O (.sm O O)⟩,ø⟩,O⟩ ?_
  clear h
  intro e a k b3 a9
  obtain⟨b0,b1,hm_38,l,h⟩:=Z7 k
  replace h:=H65 j h
  refine Js fun m=>Jr fun n=>(JLh (.agg [LS 1 (E1) a.2.1,I64 a.2.2]) (Jc Hg O O O O) O (JLm (E1 order) O ?_))
  obtain⟨g,o,h⟩:=Gd h
  refine JLh (E1 g) (Gu O (Yr F (Gs.mk a.2.1 a.2.2) order g o) Gb8 ⟨O,O,O,O,ø⟩) O (JLl G8 O O O fun b2=>(JLh (BL (decide (0 < (g.length:Int)))) (G08 O O O) O (G6 (n (JCc O h (fun h hb=>?_) (fun h hb=>?_))))))
  ·
   refine Gk (m (Gf (Jr fun p=>(JLh (.agg [LS 1 (E1) a.2.1,I64 a.2.2]) (Jc Hg O O O O) O (JLm (E1 order) O ?_)))))
   obtain⟨c,q,h⟩:=Gd h
   refine JLh (.tup [.agg [I64 c.1.From,I64 c.1.To],BL c.2]) (Gu O (Gf9 F (Gs.mk a.2.1 a.2.2) order c q) Q1c ⟨O,O,O,O,ø⟩) O (JLm (.tup [.agg [I64 c.1.From,I64 c.1.To],BL c.2]) O (JLh (.agg [I64 c.1.From,I64 c.1.To]) (Gw O O O) O (JLh (BL c.2) (Gw O O O) O (JLh (.ptr 1014 0) (Ji 1014 2 G97 O O) O (Jb (u:=.junk) (Hu (u:=.agg [I64 c.1.From,I64 c.1.To]) (ds:=[I64 c.1.From,I64 c.1.To]) H02 O O O O O O O O) (JLm (BL c.2) O (G6 (p ?_))))))))
   refine fzQ [(1,E1 order),(2,.ptr 1012 0),(6,OW 1013 2 G7.av a.1),(7,.dptr [I64 c.1.From,I64 c.1.To]),(8,BL c.2)] [(1013,.spare 55 2 a.1.length a.1.length),(1012,.box 30 [LS 1 (E1) a.2.1,I64 a.2.2])] 1014 rfl rfl rfl ⟨⟨_,rfl,.same⟩,⟨_,rfl,.boxEq rfl rfl⟩,ø⟩ rfl (Js fun s=>Jr fun t=>(JLm (BL c.2) O (JLh (BL (!c.2)) (Y4 (b:=c.2) O O) O (G6 (t (JCc O h (fun h hb=>?_) (fun h hb=>?_)))))))
   ·
    refine Jr fun v=>(JLh (E3 ([]:List G7)) (Jo 2 O O) O (JLm (I64 360) O (G6 (v (H7 [(4,E3 ([]:List G7)),(5,I64 360)] [(1013,.spare 55 2 a.1.length a.1.length)] 1012 rfl rfl rfl ⟨⟨_,rfl,.same⟩,ø⟩ rfl (by exact⟨.conv (.same rfl),.conv (.same rfl),ø⟩) (H0 (⟨[E3 ([]:List G7),I64 360],[],ø,O,⟨⟨_,O,.conv (.same O)⟩,⟨_,O,.conv (.same O)⟩,ø⟩,O,congrArg (fun r:(List G7)×Int=>(.tup [E3 r.1,I64 r.2]:AV)) (Ez h)⟩)))))))
   ·
    refine Gk (s (Jr fun w=>(JLm (OW 1013 2 G7.av a.1) O (JLh (.agg [I64 c.1.From,I64 c.1.To]) (Gt G10 O O O) O (JLh (E3 [c.1]) (H4 (xs:=[.agg [I64 c.1.From,I64 c.1.To]]) O ⟨O,O,ø⟩ Rk G97 O O O O) O ?_)))))
    obtain⟨x,h⟩:=Ho h
    refine JLh (OW 1013 2 G7.av (a.1++[c.1])) (R3 (f:=G7.av) (xs:=a.1) (ys:=[c.1]) O O O O Rk H75 x (fun _=>O) (.inl O) O) O (JLm (OW 1013 2 G7.av (a.1++[c.1])) O (G6 (w (G1 (JLh (.agg [LS 1 (E1) a.2.1,I64 a.2.2]) (Jc Hg O O O O) O (JLh (.agg [I64 c.1.From,I64 c.1.To]) (Gt G10 O O O) O ?_))))))
    obtain⟨d,z,h⟩:=Gd h
    refine JLh (.tup [.agg [LS 1 (E1) d.1.Stacks,I64 d.1.Height],I64 d.2]) (Gu O (Ys F (Gs.mk a.2.1 a.2.2) c.1 d z) H05 ⟨O,O,O,O,ø⟩) O (JLm (.tup [.agg [LS 1 (E1) d.1.Stacks,I64 d.1.Height],I64 d.2]) O (JLh (.agg [LS 1 (E1) d.1.Stacks,I64 d.1.Height]) (Gw O O O) O (JLh (I64 d.2) (Gw O O O) O (Jb (u:=.junk) (Hu (u:=.agg [LS 1 (E1) d.1.Stacks,I64 d.1.Height]) (ds:=[LS 1 (E1) d.1.Stacks,I64 d.1.Height]) Qc O O O O O O O O) (G6 (a9 _ _ b0 ((a.1++[c.1]),d.1.Stacks,d.1.Height) (app1 l h) (by omega) ⟨(.sm O O),⟨⟨_,rfl,.same⟩,fbQ O (.sm O O),ø⟩,rfl⟩))))))
  ·
   refine Hd (a7 (Jr fun a0=>(JLm (OW 1013 2 G7.av a.1) O (JLm (OW 1013 2 G7.av a.1) O (JLm (I64 0) O (G6 (a0 (H7 [(4,OW 1013 2 G7.av a.1),(5,I64 0)] [(1013,.spare 55 2 a.1.length a.1.length)] 1012 rfl rfl rfl ⟨⟨_,rfl,.same⟩,ø⟩ rfl (by exact⟨.conv (.same rfl),.conv (.same rfl),ø⟩) (H0 (⟨[E3 a.1,I64 0],[],ø,O,⟨⟨_,O,.conv (.list O)⟩,⟨_,O,.conv (.same O)⟩,ø⟩,O,congrArg (fun r:(List G7)×Int=>(.tup [E3 r.1,I64 r.2]:AV)) (Ez h)⟩))))))))))


theorem Gec (F:Nat) (y:Gs) (order:List Int) (r:(List Int)) (h:J1 F y order=some r):Jz E8 24 [.agg [LS 1 (E1) y.Stacks,I64 y.Height],E1 order] [] (fun av L'=>∃ p:Nat,av=.vec 1052 p 1 r.length∧L'=[(1052,.vec 3 1 p (r.map I64))]):=by
 unfold J1 at h
 refine G0c [] [.tmp 4] Tryz.func24 O O (H6f O) (Jr fun c8=>(JLh (.ptr 1050 0) (Qw (cs:=[LS 1 (E1) y.Stacks,I64 y.Height]) 1050 O O O O O) O (JLh (.vec 1051 (([]:List Int).length) 1 (([]:List Int).length)) (H48 1051 3 1 O O O) O (G6 (c8 (H7 [(1,E1 order),(2,.dptr [LS 1 (E1) y.Stacks,I64 y.Height])] [(1051,.vec 3 1 (([]:List Int).length) (([]:List Int).map I64))] 1050 rfl rfl rfl ⟨⟨_,rfl,.vec⟩,ø⟩ rfl (by exact⟨.conv (.same rfl),.ptr,ø⟩) (Jr fun c9=>(JLh (.vec 1052 (([]:List Int).length) 1 (([]:List Int).length)) (H48 1052 3 1 O O O) O (G6 (c9 (Js fun d0=>Jr fun d1=>(JLm (I64 0) O (G6 (d1 (Gf ?_)))))))))))))))
 obtain⟨b5,d2,d3,a2,h⟩:=J7 h
 refine Ha (fun e (g:(List Int))=>each b5 d2 (List.drop e y.Stacks) e g=some r) (fun e g=>[(1,E1 order),(2,.dptr [LS 1 (E1) y.Stacks,I64 y.Height]),(5,.vec 1052 g.length 1 g.length),(6,E7 e)]) (fun e g=>[(1051,.vec 3 1 (([]:List Int).length) (([]:List Int).map I64)),(1052,.vec 3 1 g.length (g.map I64))]) (fun e=>y.Stacks.length - e) 0 [] h ⟨(.sm O O),⟨⟨_,rfl,.vec⟩,⟨_,rfl,.vec⟩,ø⟩,rfl⟩ ?_
 clear h
 intro e g a0 K5 e5
 refine Js fun d4=>Jr fun d5=>(JLm (E7 e) O (JLh (.dptr [LS 1 (E1) y.Stacks,I64 y.Height]) (H1 H3 O O O) O (JLh (LS 1 (E1) y.Stacks) (Gr Gv O O O) O (JLl Ge O O O fun a3=>(JLh (BL (decide ((e:Int) < (y.Stacks.length:Int)))) (J2 O O O) O (G6 (d5 (Gi O (fun hb=>?_) (fun hb=>?_)))))))))
 ·
  have a1:=Jp hb
  obtain⟨j,e8,o,d6,h⟩:=Hw a0 a1
  replace h:=Yw d3 h
  refine Gk (d4 (Js fun d7=>Gf (Jr fun d8=>(JLm (I64 0) O (G6 (d8 (Gf ?_)))))))
  obtain⟨d9,a4,a5,w,h⟩:=J7 h
  refine Ha (fun b (a:(List Int))=>each d9 a4 (List.drop b j) b a=some r) (fun b a=>[(1,E1 order),(2,.dptr [LS 1 (E1) y.Stacks,I64 y.Height]),(5,.vec 1052 a.length 1 a.length),(6,E7 e),(7,E7 b)]) (fun b a=>[(1051,.vec 3 1 (([]:List Int).length) (([]:List Int).map I64)),(1052,.vec 3 1 a.length (a.map I64))]) (fun b=>j.length - b) 0 g h ⟨(.sm O O),⟨⟨_,rfl,.vec⟩,⟨_,rfl,.vec⟩,ø⟩,rfl⟩ ?_
  clear h
  intro b a q e9 e0
  refine Js fun a6=>Jr fun a7=>(JLm (E7 b) O (JLh (.dptr [LS 1 (E1) y.Stacks,I64 y.Height]) (H1 H3 O O O) O (JLh (LS 1 (E1) y.Stacks) (Gr Gv O O O) O (JLm (E7 e) O (JLh (.dptr [E1 j]) (Gz (f:=(E1)) (xs:=y.Stacks) (y:=j) O O O Ge o O) O (JLh (E1 j) (Gr H5 O O O) O (JLl G8 O O O fun a8=>(JLh (BL (decide ((b:Int) < (j.length:Int)))) (J2 O O O) O (G6 (a7 (Gi O (fun hb=>?_) (fun hb=>?_))))))))))))
  ·
   have s:=Jp hb
   obtain⟨c,e6,t,a9,h⟩:=Hw q s
   replace h:=Yw a5 h
   refine Gk (a6 ?_)
   obtain⟨b0,x,h⟩:=G23 h
   refine Zr (fun k:(List Int)=>b0 k=some r) (fun k=>[(1,E1 order),(2,.dptr [LS 1 (E1) y.Stacks,I64 y.Height]),(5,.vec 1052 k.length 1 k.length),(6,E7 e),(7,E7 b)]) (fun k=>[(1051,.vec 3 1 (([]:List Int).length) (([]:List Int).map I64)),(1052,.vec 3 1 k.length (k.map I64))]) (fun Kj13 ej13=>?_) ?_
   ·
    refine Gf (Jr fun b1=>(JLm (BL false) O (G6 (b1 (Js fun b2=>Jr fun b3=>(JLm (I64 0) O (G6 (b3 (Gf ?_)))))))))
    obtain⟨b4,h⟩:=Ho h
    obtain⟨e1,b6,b7,z,h⟩:=Ga9 h
    refine Ha (fun d (i:Bool)=>upto e1 b6 ((b:Int).toNat - d) d i=some r) (fun d i=>[(1,E1 order),(2,.dptr [LS 1 (E1) y.Stacks,I64 y.Height]),(5,.vec 1052 a.length 1 a.length),(6,E7 e),(7,E7 b),(8,BL i),(9,E7 d)]) (fun d i=>[(1051,.vec 3 1 (([]:List Int).length) (([]:List Int).map I64)),(1052,.vec 3 1 a.length (a.map I64))]) (fun d=>(b:Int).toNat - d) 0 false h ⟨(.sm O O),⟨⟨_,rfl,.vec⟩,⟨_,rfl,.vec⟩,ø⟩,rfl⟩ ?_
    clear h
    intro d i u f0 e2
    refine Js fun b8=>Jr fun b9=>(JLm (E7 d) O (JLm (E7 b) O (JLh (BL (decide ((d:Int) < (b:Int)))) (J2 O O O) O (G6 (b9 (Gi O (fun hb=>?_) (fun hb=>?_)))))))
    ·
     have v:=G73 hb
     obtain⟨e7,c0,h⟩:=G6e u v
     replace h:=J9e b7 h
     refine Gk (b8 (Js fun c1=>Gf (R0 (l':=[(1,E1 order),(2,.dptr [LS 1 (E1) y.Stacks,I64 y.Height]),(5,.vec 1052 a.length 1 a.length),(6,E7 e),(7,E7 b),(8,BL i),(9,E7 d)]) (L':=[(1051,.vec 3 1 (([]:List Int).length) (([]:List Int).map I64)),(1052,.vec 3 1 a.length (a.map I64))]) ⟨(.sm O O),⟨⟨_,rfl,.vec⟩,⟨_,rfl,.vec⟩,ø⟩,rfl⟩ ?_)))
     obtain⟨n,c2,h⟩:=Gd h
     obtain⟨l,c3,h⟩:=Gd h
     obtain⟨m,c4,h⟩:=Gd h
     refine JC_d0 Jg (by kernel_rfl) (Dq (BL i) (G3 O O) O (Dq (BL i) (G3 O O) O (Do (E1 order) [] O .scf ø (fun hc=>G3 O O) O (Do (.dptr [LS 1 (E1) y.Stacks,I64 y.Height]) [] O .scf ø (fun hc=>H1 H3 O O O) O (Do (LS 1 (E1) y.Stacks) [35] O .scf ⟨Ua,ø⟩ (fun hc=>Gr Gv O O O) O (Do (E7 e) [] O .scf ø (fun hc=>G3 O O) O (Do (.dptr [E1 j]) [36,37] O .scf ⟨Ua,Ua,ø⟩ (fun hc=>Gz (f:=(E1)) (xs:=y.Stacks) (y:=j) O O O Ge o O) O (Do (E1 j) [38] O .scf ⟨Ua,ø⟩ (fun hc=>Gr H5 O O O) O (Do (E7 d) [] O .scf ø (fun hc=>G3 O O) O (Do (.dptr [I64 n]) [39,40] O .scf ⟨Ua,Ua,ø⟩ (fun hc=>(match G66 (H6 hc c2) with | ⟨_,hm_,hy_⟩=>Gz (f:=I64) (xs:=j) (y:=n) O O O G8 hy_ hm_)) O (Do (I64 n) [41] O .scf ⟨Ua,ø⟩ (fun hc=>Gr Gj O O O) O (Do (I64 l) [34,42] O .scf ⟨Ua,Ua,ø⟩ (fun hc=>Gu (args:=[E1 order,I64 n]) O (Jk order n l (H6 hc c3)) G0a ⟨O,O,O,O,ø⟩) O (Do (E1 order) [] O .scf ø (fun hc=>G3 O O) O ?_)))))))))))))
     refine Do (.dptr [LS 1 (E1) y.Stacks,I64 y.Height]) [] O .scf ø (fun hc=>H1 H3 O O O) O (Do (LS 1 (E1) y.Stacks) [45] O .scf ⟨Ua,ø⟩ (fun hc=>Gr Gv O O O) O (Do (E7 e) [] O .scf ø (fun hc=>G3 O O) O (Do (.dptr [E1 j]) [46,47] O .scf ⟨Ua,Ua,ø⟩ (fun hc=>Gz (f:=(E1)) (xs:=y.Stacks) (y:=j) O O O Ge o O) O (Do (E1 j) [48] O .scf ⟨Ua,ø⟩ (fun hc=>Gr H5 O O O) O (Do (E7 b) [] O .scf ø (fun hc=>G3 O O) O (Do (.dptr [I64 c]) [49,50] O .scf ⟨Ua,Ua,ø⟩ (fun hc=>Gz (f:=I64) (xs:=j) (y:=c) O O O G8 t O) O (Do (I64 c) [51] O .scf ⟨Ua,ø⟩ (fun hc=>Gr Gj O O O) O (Do (I64 m) [44,52] O .scf ⟨Ua,Ua,ø⟩ (fun hc=>Gu (args:=[E1 order,I64 c]) O (Jk order c m (H6 hc c4)) G0a ⟨O,O,O,O,ø⟩) O (Do (BL (decide (l < m))) [43,53] O .scf ⟨Ua,Ua,ø⟩ (fun hc=>J2 O O O) O (Dq (BL (i||(decide (l < m)))) (G17 O O O O) O (Dq (BL (i||(decide (l < m)))) (G5 O O) O (Dnil ?_))))))))))))
     refine c1 (G1 (JLm (E7 d) O (JLh (I64 ((d+1:Nat):Int)) (Hz (Hi v (G45 b4)) O O O) O (JLm (I64 ((d+1:Nat):Int)) O (G6 (e2 _ _ (d+1) (i||(decide (l < m))) (app1 c0 h) (by omega) ⟨(.sm O O),⟨⟨_,rfl,.vec⟩,⟨_,rfl,.vec⟩,ø⟩,rfl⟩))))))
    ·
     have h:=app1 z (G6f u (Zc hb))
     refine Hd (b2 (Jr fun c5=>(JLm (BL i) O (G6 (c5 (JCc O h (fun h hb=>?_) (fun h hb=>?_)))))))
     ·
      refine G1 (JLm (.vec 1052 a.length 1 a.length) O (JLh (.dptr [LS 1 (E1) y.Stacks,I64 y.Height]) (H1 H3 O O O) O (JLh (LS 1 (E1) y.Stacks) (Gr Gv O O O) O (JLm (E7 e) O (JLh (.dptr [E1 j]) (Gz (f:=(E1)) (xs:=y.Stacks) (y:=j) O O O Ge o O) O (JLh (E1 j) (Gr H5 O O O) O (JLm (E7 b) O (JLh (.dptr [I64 c]) (Gz (f:=I64) (xs:=j) (y:=c) O O O G8 t O) O (JLh (I64 c) (Gr Gj O O O) O (JLh (E1 [c]) (H4 (xs:=[I64 c]) O ⟨O,O,ø⟩ G8 J6 O O O O) O ?_))))))))))
      obtain⟨c6,h⟩:=Ho h
      refine JLh (.vec 1052 ((a++[c]).length) 1 ((a++[c]).length)) (G5d (f:=I64) (xs:=a) (ys:=[c]) (ver:=a.length) (ver1:=(a++[c]).length) rfl rfl rfl rfl G8 Ro c6 (fun _=>rfl) (.inl rfl) (by simp)) O (JLm (.vec 1052 ((a++[c]).length) 1 ((a++[c]).length)) O (G6 (ej13 _ _ (a++[c]) h ⟨(.sm O O),⟨⟨_,rfl,.vec⟩,⟨_,rfl,.vec⟩,ø⟩,rfl⟩)))
     ·
      refine Gk (ej13 _ _ a h ⟨(.sm O O),⟨⟨_,rfl,.vec⟩,⟨_,rfl,.vec⟩,ø⟩,rfl⟩)
   ·intro k h
    replace h:=app1 x h
    refine G1 (JLm (E7 b) O (JLh (I64 ((b+1:Nat):Int)) (Hz (Hi s a8) O O O) O (JLm (I64 ((b+1:Nat):Int)) O (G6 (e0 _ _ (b+1) k (app1 a9 h) (by omega) ⟨(.sm O O),⟨⟨_,rfl,.vec⟩,⟨_,rfl,.vec⟩,ø⟩,rfl⟩)))))
  ·
   have h:=app1 w (Hx q (Hc hb))
   refine Hd (d7 (G1 (JLm (E7 e) O (JLh (I64 ((e+1:Nat):Int)) (Hz (Hi a1 a3) O O O) O (JLm (I64 ((e+1:Nat):Int)) O (G6 (e5 _ _ (e+1) a (app1 d6 h) (by omega) ⟨(.sm O O),⟨⟨_,rfl,.vec⟩,⟨_,rfl,.vec⟩,ø⟩,rfl⟩)))))))
 ·
  have h:=app1 a2 (Hx a0 (Hc hb))
  refine Hd (d0 (Jr fun c7=>(JLm (.vec 1052 g.length 1 g.length) O (JLm (.vec 1052 g.length 1 g.length) O (G6 (c7 (Ja4 4 O O (fun hn_=>H0 ?_))))))))
  obtain rfl:=Ez h
  exact⟨[.vec 1052 g.length 1 g.length],[(1052,.vec 3 1 g.length (g.map I64))],⟨⟨_,O,.vec⟩,ø⟩,O,⟨⟨_,O,.conv (.same O)⟩,ø⟩,g.length,congrArg (fun n_:Nat=>(.vec 1052 g.length 1 n_:AV)) (hn_.trans (Kn _)),O⟩

def R4 (F:Nat) (y:Gs) (order:List Int):Option ((List Int)×Int):=
 bnd (Q9 F y order) fun n=>
 bif (!n) then
 (some ([],2))
 else
 (bnd (J1 F y order) fun o=>
  loop (fun e (b:Int×(List Int))=>
   bif decide (b.1 < (b.2.length:Int)) then
   (loop (fun f (a:Int×(List Int))=>
     bnd (bif decide (0 < a.1) then Qx a.2 a.1 some else some default) fun g=>
     bnd (bif decide (0 < a.1) then chk (a.1 - 1) some else some 0) fun h=>
     bnd (bif decide (0 < a.1) then Qx a.2 h some else some default) fun i=>
     bif ((decide (0 < a.1))&&(decide (g < i))) then
     (chk (a.1 - 1) fun c=>
      chk (a.1 - 1) fun j=>
      Qx a.2 j fun d=>
      Qx a.2 a.1 fun k=>
      Qx a.2 a.1 fun p=>
      Qx (a.2.set a.1.toNat d) c fun q=>
      chk (a.1 - 1) fun l=>
      f (l,((a.2.set a.1.toNat d).set c.toNat k)))
     else
     (chk (b.1+1) fun m=>
      e (m,a.2))) F (b.1,b.2))
   else
   (some (b.2,0))) F (1,o))
theorem G79 (F:Nat) (y:Gs) (order:List Int) (r:(List Int)×Int) (h:R4 F y order=some r):Pure E8 15 [.agg [LS 1 (E1) y.Stacks,I64 y.Height],E1 order] (·=.tup [E1 r.1,I64 r.2]):=by
 unfold R4 at h
 refine Hj [.tmp 4,.tmp 5] Tryz.func15 O O (Jr fun c8=>(JLh (.ptr 1029 0) (Qw (cs:=[LS 1 (E1) y.Stacks,I64 y.Height]) 1029 O O O O O) O (JLh (E1 ([]:List Int)) (Jo 1 O O) O (JLm (I64 0) O (G6 (c8 (H7 [(1,E1 order),(2,.dptr [LS 1 (E1) y.Stacks,I64 y.Height])] [] 1029 rfl rfl rfl ø rfl (by exact⟨.conv (.same rfl),.ptr,ø⟩) (Js fun c9=>Jr fun d0=>(JLh (.agg [LS 1 (E1) y.Stacks,I64 y.Height]) (Gt Hg O O O) O (JLm (E1 order) O ?_))))))))))
 obtain⟨r4,d1,h⟩:=Gd h
 refine JLh (BL r4) (Gu O (Yq F y order r4 d1) H06 ⟨O,O,O,O,ø⟩) O (JLh (BL (!r4)) (Y4 (b:=r4) O O) O (G6 (d0 (JCc O h (fun h hb=>?_) (fun h hb=>?_)))))
 ·
  refine Jr fun d2=>(JLh (E1 ([]:List Int)) (Jo 1 O O) O (JLm (I64 2) O (G6 (d2 (H0 (⟨[E1 ([]:List Int),I64 2],[],ø,O,⟨⟨_,O,.conv (.same O)⟩,⟨_,O,.conv (.same O)⟩,ø⟩,O,congrArg (fun r:(List Int)×Int=>(.tup [E1 r.1,I64 r.2]:AV)) (Ez h)⟩))))))
 ·
  refine Gk (c9 (Jr fun d3=>(JLh (.agg [LS 1 (E1) y.Stacks,I64 y.Height]) (Gt Hg O O O) O (JLm (E1 order) O ?_))))
  obtain⟨e,d4,h⟩:=Gd h
  refine G7c O O O (G80 (args:=[.agg [LS 1 (E1) y.Stacks,I64 y.Height],E1 order]) (L0:=[]) (u:=fun p=>.vec 1052 p 1 e.length) (Lr:=fun p=>[(1052,.vec 3 1 p (e.map I64))]) O (Gec F y order e d4) Gb8 ⟨.inl O,O,.inl O,O,ø⟩ ø O (fun _=>O)) ?_
  rintro u_ L_ ⟨d,rfl,rfl⟩
  refine JLm (.vec 1052 d 1 e.length) O (G6 (d3 (Js fun d5=>Jr fun a9=>(JLm (I64 1) O (G6 (a9 (Gf ?_)))))))
  obtain⟨d6,b0,h⟩:=G0e h
  refine Ha (fun i (c:Int×(List Int))=>loop d6 i c=some r) (fun i c=>[(6,.vec 1052 d 1 e.length),(7,I64 c.1)]) (fun i c=>[(1052,.vec 3 1 d (c.2.map I64))]) (fun i=>i) F (1,e) h ⟨(.sm O O),⟨⟨_,O,.vec⟩,ø⟩,O⟩ ?_
  clear h
  intro i c b1 e7 d7
  obtain⟨d8,e4,hm_11,b2,h⟩:=Z7 b1
  replace h:=H65 b0 h
  refine Js fun b3=>Jr fun b4=>(JLm (I64 c.1) O (JLm (.vec 1052 d 1 e.length) O (Gfd (f:=I64) (xs:=c.2) G8 O O O (fun e5=>?_) O O O)))
  refine JLh (BL (decide (c.1 < (c.2.length:Int)))) (J2 O O O) O (G6 (b4 (JCc O h (fun h hb=>?_) (fun h hb=>?_))))
  ·
   refine Gk (b3 (Js fun b5=>Gf (Jr fun b6=>(JLm (I64 c.1) O (JLm (I64 c.1) O (G6 (b6 (Gf ?_))))))))
   obtain⟨d9,b7,h⟩:=G0e h
   refine Ha (fun j (a:Int×(List Int))=>loop d9 j a=some r) (fun j a=>[(6,.vec 1052 d 1 e.length),(7,I64 c.1),(8,I64 a.1)]) (fun j a=>[(1052,.vec 3 1 d (a.2.map I64))]) (fun j=>j) F (c.1,c.2) h ⟨(.sm O O),⟨⟨_,O,.vec⟩,ø⟩,O⟩ ?_
   clear h
   intro j a b8 e8 e0
   obtain⟨e1,e6,hm_62,b9,h⟩:=Z7 b8
   replace h:=H65 b7 h
   refine Js fun c0=>Js fun c1=>R0 (l':=[(6,.vec 1052 d 1 e.length),(7,I64 c.1),(8,I64 a.1)]) (L':=[(1052,.vec 3 1 d (a.2.map I64))]) ⟨(.sm O O),⟨⟨_,O,.vec⟩,ø⟩,O⟩ ?_
   obtain⟨l,n,h⟩:=Gd h
   obtain⟨a7,c2,h⟩:=Gd h
   obtain⟨m,o,h⟩:=Gd h
   refine JC_d0 Jg (by kernel_rfl) (Dq (I64 a.1) (G3 O O) O (Dq (BL (decide (0 < a.1))) (G08 O O O) O (Dq (BL (decide (0 < a.1))) (G3 O O) O (Do (.vec 1052 d 1 e.length) [] O .sct ø (fun hc=>G3 O O) O (Do (I64 a.1) [] O .sct ø (fun hc=>G3 O O) O (Do (.vptr 1052 d a.1.toNat 0) [26,27] O .sct ⟨Ua,Ua,ø⟩ (fun hc=>Zf (f:=I64) (xs:=a.2) (y:=l) O O O O G8 (H16 (H6 hc n)) (J28 (H6 hc n))) O (Do (I64 l) [28] O .sct ⟨Ua,ø⟩ (fun hc=>Gc5 (f:=I64) (xs:=a.2) (y:=l) Gj O O O (H16 (H6 hc n)) O O) O (Do (.vec 1052 d 1 e.length) [] O .sct ø (fun hc=>G3 O O) O (Do (I64 a.1) [] O .sct ø (fun hc=>G3 O O) O (Do (I64 a7) [31] O .sct ⟨Ua,ø⟩ (fun hc=>G07 (Gc0 (H6 hc c2)) O O O) O (Do (.vptr 1052 d a7.toNat 0) [30,32] O .sct ⟨Ua,Ua,ø⟩ (fun hc=>Zf (f:=I64) (xs:=a.2) (y:=m) O O O O G8 (H16 (H6 hc o)) (J28 (H6 hc o))) O (Do (I64 m) [33] O .sct ⟨Ua,ø⟩ (fun hc=>Gc5 (f:=I64) (xs:=a.2) (y:=m) Gj O O O (H16 (H6 hc o)) O O) O (Do (BL (decide (l < m))) [29,34] O .sct ⟨Ua,Ua,ø⟩ (fun hc=>J2 O O O) O ?_)))))))))))))
   refine Dq (BL ((decide (0 < a.1))&&(decide (l < m)))) (Yy O O O O) O (Dnil (c1 (JCc O h (fun h hb=>?_) (fun h hb=>?_))))
   ·
    refine Gk (c0 (Js fun c3=>Gf (R0 (l':=[(6,.vec 1052 d 1 e.length),(7,I64 c.1),(8,I64 a.1)]) (L':=[(1052,.vec 3 1 d (a.2.map I64))]) ⟨(.sm O O),⟨⟨_,O,.vec⟩,ø⟩,O⟩ ?_)))
    obtain⟨q,s,h⟩:=Je h
    obtain⟨a8,c4,h⟩:=Je h
    obtain⟨g,a3,t,h⟩:=Yc h
    obtain⟨k,a4,v,h⟩:=Yc h
    obtain⟨e2,a5,w,h⟩:=Yc h
    obtain⟨e3,a6,x,h⟩:=Yc h
    refine Ju [15,17] [0,0,0,0,0,0,0,0,0,0,0,0,0,0,0,0,1,0] [0,0,1,1,1,0,0,0,0,0,0,0,0,0,0,0,1,0] [[(1052,.vec 3 1 d (a.2.map I64))],((1052,.vec 3 1 d ((a.2.set a.1.toNat g).map I64))::[(1052,.vec 3 1 d (a.2.map I64))]),((1052,.vec 3 1 d (((a.2.set a.1.toNat g).set q.toNat k).map I64))::((1052,.vec 3 1 d ((a.2.set a.1.toNat g).map I64))::[(1052,.vec 3 1 d (a.2.map I64))]))] Jg (by kernel_rfl) rfl rfl ?_
    refine Gc (u:=.vec 1052 d 1 e.length) O O ⟨Ga (G3 O O) O,ø⟩ (Gc (u:=I64 a.1) O O ⟨Ga (G3 O O) O,ø⟩ (Gc (u:=.vec 1052 d 1 e.length) O O ⟨Ga (G3 O O) O,Ga (G3 O O) O,ø⟩ (Gc (u:=I64 a.1) O O ⟨Ga (G3 O O) O,Ga (G3 O O) O,ø⟩ (Gc (u:=I64 q) O O ⟨Ga (G07 s O O O) O,Ga (G07 s O O O) O,ø⟩ (Gc (u:=.vec 1052 d 1 e.length) O O ⟨Ga (G3 O O) O,ø⟩ (Gc (u:=I64 a.1) O O ⟨Ga (G3 O O) O,ø⟩ (Gc (u:=I64 a8) O O ⟨Ga (G07 c4 O O O) O,ø⟩ (Gc (u:=.vptr 1052 d a8.toNat 0) O O ⟨Ga (Zf (f:=I64) (xs:=a.2) (y:=g) O O O O G8 t a3) O,ø⟩ (Gc (u:=I64 g) O O ⟨Ga (Gc5 (f:=I64) (xs:=a.2) (y:=g) Gj O O O t O O) O,ø⟩ (Gc (u:=.vec 1052 d 1 e.length) O O ⟨Ga (G3 O O) O,ø⟩ (Gc (u:=I64 a.1) O O ⟨Ga (G3 O O) O,ø⟩ (Gc (u:=.vptr 1052 d a.1.toNat 0) O O ⟨Ga (Zf (f:=I64) (xs:=a.2) (y:=k) O O O O G8 v a4) O,ø⟩ (Gc (u:=I64 k) O O ⟨Ga (Gc5 (f:=I64) (xs:=a.2) (y:=k) Gj O O O v O O) O,ø⟩ ?_)))))))))))))
    refine Gc (u:=.vptr 1052 d a.1.toNat 0) O O ⟨Ga (Zf (f:=I64) (xs:=a.2) (y:=e2) O O O O G8 w a5) O,ø⟩ (H2a (u:=.junk) O O O O (Ga (Gfe (f:=I64) (xs:=a.2) (z:=g) Gb2 O O O O (Ex w).1 O O O O) O) (Gc (u:=.vptr 1052 d q.toNat 0) O O ⟨Ga (Zf (f:=I64) (xs:=(a.2.set a.1.toNat g)) (y:=e3) O O O O G8 x a6) O,ø⟩ (H2a (u:=.junk) O O O O (Ga (Gfe (f:=I64) (xs:=(a.2.set a.1.toNat g)) (z:=k) Gb2 O O O O (Ex x).1 O O O O) O) (Rx (c3 (G1 (JLm (I64 a.1) O ?_)))))))
    obtain⟨a0,c5,h⟩:=Je h
    refine JLh (I64 a0) (G07 c5 O O O) O (JLm (I64 a0) O (G6 (e0 _ _ e1 (a0,((a.2.set a.1.toNat g).set q.toNat k)) (app1 b9 h) (by omega) ⟨(.sm O O),⟨⟨_,rfl,.vec⟩,ø⟩,rfl⟩)))
   ·
    refine Hd (b5 (G1 (JLm (I64 c.1) O ?_)))
    obtain⟨a1,c6,h⟩:=Je h
    refine JLh (I64 a1) (Hz c6 O O O) O (JLm (I64 a1) O (G6 (d7 _ _ d8 (a1,a.2) (app1 b2 h) (by omega) ⟨(.sm O O),⟨⟨_,rfl,.vec⟩,ø⟩,rfl⟩)))
  ·
   refine Hd (d5 (Jr fun c7=>(JLm (.vec 1052 d 1 e.length) O (JLm (.vec 1052 d 1 e.length) O (JLm (I64 0) O (G6 (c7 (H1c [(4,E1 c.2),(5,I64 0)] [] 1052 rfl rfl ø rfl (by exact⟨.vec,.conv (.same rfl),ø⟩) (H0 (⟨[E1 c.2,I64 0],[],ø,O,⟨⟨_,O,.conv (.same O)⟩,⟨_,O,.conv (.same O)⟩,ø⟩,O,congrArg (fun r:(List Int)×Int=>(.tup [E1 r.1,I64 r.2]:AV)) (Ez h)⟩))))))))))

def R1 (F:Nat) (y:Gs) (order:List Int):Option (Bool×Int):=
 bnd (R4 F y order) fun a=>
 some (((decide (a.2=0))&&(decide ((a.1.length:Int)=0))),a.2)
theorem Gcd (F:Nat) (y:Gs) (order:List Int) (r:Bool×Int) (h:R1 F y order=some r):Pure E8 13 [.agg [LS 1 (E1) y.Stacks,I64 y.Height],E1 order] (·=.tup [BL r.1,I64 r.2]):=by
 unfold R1 at h
 refine Hj [.tmp 4,.tmp 5] Tryz.func13 O O (Jr fun b=>(JLh (.ptr 1027 0) (Qw (cs:=[LS 1 (E1) y.Stacks,I64 y.Height]) 1027 O O O O O) O (JLm (BL false) O (JLm (I64 0) O (G6 (b (H7 [(1,E1 order),(2,.dptr [LS 1 (E1) y.Stacks,I64 y.Height])] [] 1027 rfl rfl rfl ø rfl (by exact⟨.conv (.same rfl),.ptr,ø⟩) (Jr fun c=>(JLh (.agg [LS 1 (E1) y.Stacks,I64 y.Height]) (Gt Hg O O O) O (JLm (E1 order) O ?_))))))))))
 obtain⟨a,d,h⟩:=Gd h
 refine JLh (.tup [E1 a.1,I64 a.2]) (Gu O (G79 F y order a d) J10 ⟨O,O,O,O,ø⟩) O (JLm (.tup [E1 a.1,I64 a.2]) O (JLh (E1 a.1) (Gw O O O) O (JLh (I64 a.2) (Gw O O O) O (JLm (E1 a.1) O (JLm (I64 a.2) O (G6 (c ?_)))))))
 refine Jr fun e=>(JLm (I64 a.2) O (JLh (BL (decide (a.2=0))) (Yx O O O) O (JLm (BL (decide (a.2=0))) O (JLo (E1 a.1) [] O .sct ø (fun hc=>G3 O O) O (JLo (E7 a.1.length) [17] O .sct ⟨Ua,ø⟩ (fun hc=>Re (f:=I64) (xs:=a.1) G8 O O) O (JLo (BL (decide ((a.1.length:Int)=0))) [18] O .sct ⟨Ua,ø⟩ (fun hc=>Yx O O O) O (JLh (BL ((decide (a.2=0))&&(decide ((a.1.length:Int)=0)))) (Yy O O O O) O (JLm (I64 a.2) O (JLm (BL ((decide (a.2=0))&&(decide ((a.1.length:Int)=0)))) O (JLm (I64 a.2) O (G6 (e (H0 (⟨[BL ((decide (a.2=0))&&(decide ((a.1.length:Int)=0))),I64 a.2],[],ø,O,⟨⟨_,O,.conv (.same O)⟩,⟨_,O,.conv (.same O)⟩,ø⟩,O,congrArg (fun r:Bool×Int=>(.tup [BL r.1,I64 r.2]:AV)) (Ez h)⟩))))))))))))))

def Rj (k:Int) (i:Int):Option Int:=
 chk (k+7) fun a=>
 chk (1000003*a) fun b=>
 chk (b+i) fun c=>
 some c
theorem G32 (k:Int) (i:Int) (r:Int) (h:Rj k i=some r):Pure E8 30 [I64 k,I64 i] (·=I64 r):=by
 unfold Rj at h
 refine Hj [.tmp 4] Tryz.func30 O O (Jr fun a=>(JLm (I64 0) O (G6 (a (Jr fun b=>(JLm (I64 k) O ?_))))))
 obtain⟨g,c,h⟩:=Je h
 refine JLh (I64 g) (Hz c O O O) O ?_
 obtain⟨j,d,h⟩:=Je h
 refine JLh (I64 j) (R0c d O O O) O (JLm (I64 i) O ?_)
 obtain⟨e,f,h⟩:=Je h
 refine JLh (I64 e) (Hz f O O O) O (JLm (I64 e) O (G6 (b (H0 (fin1 I64 h)))))

def Jt (out:Ln Int) (l:List Int):Option Bool:=
 bif decide ((out.1.length:Int)≠(l.length:Int)) then
 (some false)
 else
 (chk ((l.length:Int)+12) fun h=>
  bnd (Rm h (out.1++out.2).length) fun i=>
  each (fun b a (e:Unit) d=>
   bnd (bif decide ((a:Int) < (l.length:Int)) then Qx l (a:Int) some else some default) fun c=>
   bnd (bif ((!((decide ((a:Int) < (l.length:Int)))&&(!(decide (b=c)))))&&(decide ((l.length:Int)≤(a:Int)))) then chk ((a:Int) - (l.length:Int)) some else some 0) fun f=>
   bnd (bif ((!((decide ((a:Int) < (l.length:Int)))&&(!(decide (b=c)))))&&(decide ((l.length:Int)≤(a:Int)))) then Rj 1 f else some default) fun g=>
   bif (((decide ((a:Int) < (l.length:Int)))&&(!(decide (b=c))))||((decide ((l.length:Int)≤(a:Int)))&&(!(decide (b=g))))) then
   (some false)
   else
   (d ()))
  (fun(e:Unit)=>
   some true) ((out.1++out.2).take i) 0 ())
theorem Yi (out:Ln Int) (l:List Int) (r:Bool) (h:Jt out l=some r):Pure E8 20 [LT 1 I64 out,E1 l] (·=BL r):=by
 unfold Jt at h
 refine Hj [.tmp 4] Tryz.func20 O O (Jr fun a5=>(JLm (BL false) O (G6 (a5 (Js fun a6=>Jr fun a7=>(JLm (LT 1 I64 out) O (JLl G8 O O O fun c0=>(JLm (E1 l) O (JLl G8 O O O fun b6=>(JLh (BL (decide ((out.1.length:Int)≠(l.length:Int)))) (G1c O O O) O (G6 (a7 (JCc O h (fun h hb=>?_) (fun h hb=>?_))))))))))))))
 ·
  refine Jr fun a8=>(JLm (BL false) O (G6 (a8 (H0 (fin1 BL h)))))
 ·
  refine Gk (a6 (Jr fun a9=>(JLm (LT 1 I64 out) O (JLm (E1 l) O (JLl G8 O O O fun b7=>?_)))))
  obtain⟨v6,b0,h⟩:=Je h
  refine JLh (I64 v6) (Hz b0 O O O) O ?_
  obtain⟨g,b1,h⟩:=Gd h
  refine JLh (E1 ((out.1++out.2).take g)) (Q81 (f:=I64) (e:=out) O O O G8 (H8 b1)) O (JLm (E1 ((out.1++out.2).take g)) O (G6 (a9 (Js fun b2=>Jr fun b3=>(JLm (I64 0) O (G6 (b3 (Gf ?_))))))))
  obtain⟨b4,q,s,p,h⟩:=J7 h
  refine Ha (fun a (j:Unit)=>each b4 q (List.drop a ((out.1++out.2).take g)) a j=some r) (fun a j=>[(1,E1 l),(5,E1 ((out.1++out.2).take g)),(6,E7 a)]) (fun a j=>[]) (fun a=>((out.1++out.2).take g).length - a) 0 () h ⟨(.sm O O),ø,O⟩ ?_
  clear h
  intro a j k c1 b5
  refine Js fun t=>Jr fun u=>(JLm (E7 a) O (JLm (E1 ((out.1++out.2).take g)) O (JLl G8 O O O fun v=>(JLh (BL (decide ((a:Int) < (((out.1++out.2).take g).length:Int)))) (J2 O O O) O (G6 (u (Gi O (fun hb=>?_) (fun hb=>?_))))))))
  ·
   have m:=Jp hb
   obtain⟨c,b9,n,w,h⟩:=Hw k m
   replace h:=Yw s h
   refine Gk (t (Js fun x=>Gf (Js fun z=>?_)))
   obtain⟨d,a0,h⟩:=Gd h
   obtain⟨o,a1,h⟩:=Gd h
   obtain⟨i,a2,h⟩:=Gd h
   refine JC_d0 Jg (by kernel_rfl) (Dq (E7 a) (G3 O O) O (Dq (E1 l) (G3 O O) O (Dq (E7 l.length) (Re (f:=I64) (xs:=l) G8 O O) O (Dq (BL (decide ((a:Int) < (l.length:Int)))) (J2 O O O) O (Dq (BL (decide ((a:Int) < (l.length:Int)))) (G3 O O) O (Do (E1 ((out.1++out.2).take g)) [] O .sct ø (fun hc=>G3 O O) O (Do (E7 a) [] O .sct ø (fun hc=>G3 O O) O (Do (.dptr [I64 c]) [28,29] O .sct ⟨Ua,Ua,ø⟩ (fun hc=>Gz (f:=I64) (xs:=((out.1++out.2).take g)) (y:=c) O O O G8 n O) O (Do (I64 c) [30] O .sct ⟨Ua,ø⟩ (fun hc=>Gr Gj O O O) O (Do (E1 l) [] O .sct ø (fun hc=>G3 O O) O (Do (E7 a) [] O .sct ø (fun hc=>G3 O O) O (Do (.dptr [I64 d]) [32,33] O .sct ⟨Ua,Ua,ø⟩ (fun hc=>(match G66 (H6 hc a0) with | ⟨_,hm_,hy_⟩=>Gz (f:=I64) (xs:=l) (y:=d) O O O G8 hy_ hm_)) O (Do (I64 d) [34] O .sct ⟨Ua,ø⟩ (fun hc=>Gr Gj O O O) O ?_)))))))))))))
   refine Do (BL (decide (c=d))) [31,35] O .sct ⟨Ua,Ua,ø⟩ (fun hc=>Yx O O O) O (Do (BL (!(decide (c=d)))) [36] O .sct ⟨Ua,ø⟩ (fun hc=>Y4 (b:=decide (c=d)) O O) O (Dq (BL ((decide ((a:Int) < (l.length:Int)))&&(!(decide (c=d))))) (Yy O O O O) O (Dq (BL ((decide ((a:Int) < (l.length:Int)))&&(!(decide (c=d))))) (G3 O O) O (Do (E7 a) [] O .scf ø (fun hc=>G3 O O) O (Do (E1 l) [] O .scf ø (fun hc=>G3 O O) O (Do (E7 l.length) [41] O .scf ⟨Ua,ø⟩ (fun hc=>Re (f:=I64) (xs:=l) G8 O O) O (Do (BL (decide ((l.length:Int)≤(a:Int)))) [40,42] O .scf ⟨Ua,Ua,ø⟩ (fun hc=>G6b O O O) O (Do (BL (decide ((l.length:Int)≤(a:Int)))) [43] O .scf ⟨Ua,ø⟩ (fun hc=>G3 O O) O (Do (E1 ((out.1++out.2).take g)) [] O .optt ø (fun hc=>G3 O O) O (Do (E7 a) [] O .optt ø (fun hc=>G3 O O) O (Do (.dptr [I64 c]) [45,46] O .optt ⟨Ua,Ua,ø⟩ (fun hc=>Gz (f:=I64) (xs:=((out.1++out.2).take g)) (y:=c) O O O G8 n O) O (Do (I64 c) [47] O .optt ⟨Ua,ø⟩ (fun hc=>Gr Gj O O O) O (Do (E7 a) [] O .optt ø (fun hc=>G3 O O) O ?_)))))))))))))
   refine Do (E1 l) [] O .optt ø (fun hc=>G3 O O) O (Do (E7 l.length) [50] O .optt ⟨Ua,ø⟩ (fun hc=>Re (f:=I64) (xs:=l) G8 O O) O (Do (I64 o) [49,51] O .optt ⟨Ua,Ua,ø⟩ (fun hc=>G07 (Gc0 (H6 hc a1)) O O O) O (Do (I64 i) [52] O .optt ⟨Ua,ø⟩ (fun hc=>Gu (args:=[I64 1,I64 o]) O (G32 1 o i (H6 hc a2)) H7a ⟨O,O,O,O,ø⟩) O (Do (BL (decide (c=i))) [48,53] O .optt ⟨Ua,Ua,ø⟩ (fun hc=>Yx O O O) O (Do (BL (!(decide (c=i)))) [54] O .optt ⟨Ua,ø⟩ (fun hc=>Y4 (b:=decide (c=i)) O O) O (Dg (.opt (!((decide ((a:Int) < (l.length:Int)))&&(!(decide (c=d))))) (BL ((decide ((l.length:Int)≤(a:Int)))&&(!(decide (c=i)))))) (H9 [(44,BL (decide ((l.length:Int)≤(a:Int)))),(55,_)] O O O .scf ⟨.all id,.part,ø⟩ (fun hc=>Yy O O O O) O) O (Dq (BL (((decide ((a:Int) < (l.length:Int)))&&(!(decide (c=d))))||((decide ((l.length:Int)≤(a:Int)))&&(!(decide (c=i)))))) (G17 O O O O) O (Dnil ?_))))))))
   refine z (JCc O h (fun h hb=>?_) (fun h hb=>?_))
   ·
    refine Jr fun a3=>(JLm (BL false) O (G6 (a3 (H0 (fin1 BL h)))))
   ·
    refine Gk (x (G1 (JLm (E7 a) O (JLh (I64 ((a+1:Nat):Int)) (Hz (Hi m v) O O O) O (JLm (I64 ((a+1:Nat):Int)) O (G6 (b5 _ _ (a+1) () (app1 w h) (by omega) ⟨(.sm O O),ø,rfl⟩)))))))
  ·
   have h:=app1 p (Hx k (Hc hb))
   refine Hd (b2 (Jr fun a4=>(JLm (BL true) O (G6 (a4 (H0 (fin1 BL h)))))))

def Qt (k:Int) (i:Int):Option (List Int):=
 bnd (Rj k i) fun a=>
 some [a]
theorem G40 (k:Int) (i:Int) (r:(List Int)) (h:Qt k i=some r):Pure E8 56 [I64 k,I64 i] (·=E1 r):=by
 unfold Qt at h
 refine Hj [.tmp 4] Tryz.func56 O O (Jr fun b=>(JLh (E1 ([]:List Int)) (Jo 1 O O) O (G6 (b (Jr fun c=>(JLm (I64 k) O (JLm (I64 i) O ?_)))))))
 obtain⟨a,d,h⟩:=Gd h
 refine JLh (I64 a) (Gu O (G32 k i a d) H7a ⟨O,O,O,O,ø⟩) O (JLh (E1 [a]) (H4 (xs:=[I64 a]) O ⟨O,O,ø⟩ G8 J6 O O O O) O (JLm (E1 [a]) O (G6 (c (H0 (fin1 (fun r:(List Int)=>(E1 r:AV)) h))))))

def Ri (out:Ln (Ln Int)) (l:List (List Int)):Option Bool:=
 bif decide ((out.1.length:Int)≠(l.length:Int)) then
 (some false)
 else
 (chk ((l.length:Int)+12) fun j=>
  bnd (Rm j (out.1++out.2).length) fun k=>
  each (fun c a (e:Unit) d=>
   bnd (bif decide ((a:Int) < (l.length:Int)) then Qx l (a:Int) some else some default) fun f=>
   bnd (bif decide ((a:Int) < (l.length:Int)) then Jt c f else some default) fun b=>
   bnd (bif ((!((decide ((a:Int) < (l.length:Int)))&&(!b)))&&(decide ((l.length:Int)≤(a:Int)))) then chk ((a:Int) - (l.length:Int)) some else some 0) fun g=>
   bnd (bif ((!((decide ((a:Int) < (l.length:Int)))&&(!b)))&&(decide ((l.length:Int)≤(a:Int)))) then Qt 1 g else some default) fun h=>
   bnd (bif ((!((decide ((a:Int) < (l.length:Int)))&&(!b)))&&(decide ((l.length:Int)≤(a:Int)))) then Q3 c.1 h else some default) fun i=>
   bif (((decide ((a:Int) < (l.length:Int)))&&(!b))||((decide ((l.length:Int)≤(a:Int)))&&(!i))) then
   (some false)
   else
   (d ()))
  (fun(e:Unit)=>
   some true) ((out.1++out.2).take k) 0 ())
theorem Gb0 (out:Ln (Ln Int)) (l:List (List Int)) (r:Bool) (h:Ri out l=some r):Pure E8 41 [LT 1 (LT 1 I64) out,LS 1 (E1) l] (·=BL r):=by
 unfold Ri at h
 refine Hj [.tmp 4] Tryz.func41 O O (Jr fun a9=>(JLm (BL false) O (G6 (a9 (Js fun b0=>Jr fun b1=>(JLm (LT 1 (LT 1 I64) out) O (JLl Ge O O O fun c4=>(JLm (LS 1 (E1) l) O (JLl Ge O O O fun c0=>(JLh (BL (decide ((out.1.length:Int)≠(l.length:Int)))) (G1c O O O) O (G6 (b1 (JCc O h (fun h hb=>?_) (fun h hb=>?_))))))))))))))
 ·
  refine Jr fun b2=>(JLm (BL false) O (G6 (b2 (H0 (fin1 BL h)))))
 ·
  refine Gk (b0 (Jr fun b3=>(JLm (LT 1 (LT 1 I64) out) O (JLm (LS 1 (E1) l) O (JLl Ge O O O fun c1=>?_)))))
  obtain⟨v6,b4,h⟩:=Je h
  refine JLh (I64 v6) (Hz b4 O O O) O ?_
  obtain⟨g,b5,h⟩:=Gd h
  refine JLh (LS 1 (LT 1 I64) ((out.1++out.2).take g)) (Q81 (f:=(LT 1 I64)) (e:=out) O O O Ge (H8 b5)) O (JLm (LS 1 (LT 1 I64) ((out.1++out.2).take g)) O (G6 (b3 (Js fun b6=>Jr fun b7=>(JLm (I64 0) O (G6 (b7 (Gf ?_))))))))
  obtain⟨b8,t,u,s,h⟩:=J7 h
  refine Ha (fun a (k:Unit)=>each b8 t (List.drop a ((out.1++out.2).take g)) a k=some r) (fun a k=>[(1,LS 1 (E1) l),(5,LS 1 (LT 1 I64) ((out.1++out.2).take g)),(6,E7 a)]) (fun a k=>[]) (fun a=>((out.1++out.2).take g).length - a) 0 () h ⟨(.sm O O),ø,O⟩ ?_
  clear h
  intro a k n c5 b9
  refine Js fun v=>Jr fun w=>(JLm (E7 a) O (JLm (LS 1 (LT 1 I64) ((out.1++out.2).take g)) O (JLl Ge O O O fun x=>(JLh (BL (decide ((a:Int) < (((out.1++out.2).take g).length:Int)))) (J2 O O O) O (G6 (w (Gi O (fun hb=>?_) (fun hb=>?_))))))))
  ·
   have o:=Jp hb
   obtain⟨c,c3,p,z,h⟩:=Hw n o
   replace h:=Yw u h
   refine Gk (v (Js fun a0=>Gf (Js fun a1=>?_)))
   obtain⟨j,a2,h⟩:=Gd h
   obtain⟨d,a3,h⟩:=Gd h
   obtain⟨q,a4,h⟩:=Gd h
   obtain⟨m,a5,h⟩:=Gd h
   obtain⟨i,a6,h⟩:=Gd h
   refine JC_d0 Jg (by kernel_rfl) (Dq (E7 a) (G3 O O) O (Dq (LS 1 (E1) l) (G3 O O) O (Dq (E7 l.length) (Re (f:=(E1)) (xs:=l) Ge O O) O (Dq (BL (decide ((a:Int) < (l.length:Int)))) (J2 O O O) O (Dq (BL (decide ((a:Int) < (l.length:Int)))) (G3 O O) O (Do (LS 1 (LT 1 I64) ((out.1++out.2).take g)) [] O .sct ø (fun hc=>G3 O O) O (Do (E7 a) [] O .sct ø (fun hc=>G3 O O) O (Do (.dptr [LT 1 I64 c]) [28,29] O .sct ⟨Ua,Ua,ø⟩ (fun hc=>Gz (f:=(LT 1 I64)) (xs:=((out.1++out.2).take g)) (y:=c) O O O Ge p O) O (Do (LT 1 I64 c) [30] O .sct ⟨Ua,ø⟩ (fun hc=>Gr H5 O O O) O (Do (LS 1 (E1) l) [] O .sct ø (fun hc=>G3 O O) O (Do (E7 a) [] O .sct ø (fun hc=>G3 O O) O (Do (.dptr [E1 j]) [32,33] O .sct ⟨Ua,Ua,ø⟩ (fun hc=>(match G66 (H6 hc a2) with | ⟨_,hm_,hy_⟩=>Gz (f:=(E1)) (xs:=l) (y:=j) O O O Ge hy_ hm_)) O (Do (E1 j) [34] O .sct ⟨Ua,ø⟩ (fun hc=>Gr H5 O O O) O ?_)))))))))))))
   refine Do (BL d) [31,35] O .sct ⟨Ua,Ua,ø⟩ (fun hc=>Gu (args:=[LT 1 I64 c,E1 j]) O (Yi c j d (H6 hc a3)) H08 ⟨O,O,O,O,ø⟩) O (Do (BL (!d)) [36] O .sct ⟨Ua,ø⟩ (fun hc=>Y4 (b:=d) O O) O (Dq (BL ((decide ((a:Int) < (l.length:Int)))&&(!d))) (Yy O O O O) O (Dq (BL ((decide ((a:Int) < (l.length:Int)))&&(!d))) (G3 O O) O (Do (E7 a) [] O .scf ø (fun hc=>G3 O O) O (Do (LS 1 (E1) l) [] O .scf ø (fun hc=>G3 O O) O (Do (E7 l.length) [41] O .scf ⟨Ua,ø⟩ (fun hc=>Re (f:=(E1)) (xs:=l) Ge O O) O (Do (BL (decide ((l.length:Int)≤(a:Int)))) [40,42] O .scf ⟨Ua,Ua,ø⟩ (fun hc=>G6b O O O) O (Do (BL (decide ((l.length:Int)≤(a:Int)))) [43] O .scf ⟨Ua,ø⟩ (fun hc=>G3 O O) O (Do (LS 1 (LT 1 I64) ((out.1++out.2).take g)) [] O .optt ø (fun hc=>G3 O O) O (Do (E7 a) [] O .optt ø (fun hc=>G3 O O) O (Do (.dptr [LT 1 I64 c]) [45,46] O .optt ⟨Ua,Ua,ø⟩ (fun hc=>Gz (f:=(LT 1 I64)) (xs:=((out.1++out.2).take g)) (y:=c) O O O Ge p O) O (Do (E1 c.1) [47] O .optt ⟨Ua,ø⟩ (fun hc=>Gn.cv (Cv.lst0 c) (Gr H5 O O O)) O (Do (E7 a) [] O .optt ø (fun hc=>G3 O O) O ?_)))))))))))))
   refine Do (LS 1 (E1) l) [] O .optt ø (fun hc=>G3 O O) O (Do (E7 l.length) [50] O .optt ⟨Ua,ø⟩ (fun hc=>Re (f:=(E1)) (xs:=l) Ge O O) O (Do (I64 q) [49,51] O .optt ⟨Ua,Ua,ø⟩ (fun hc=>G07 (Gc0 (H6 hc a4)) O O O) O (Do (E1 m) [52] O .optt ⟨Ua,ø⟩ (fun hc=>Gu (args:=[I64 1,I64 q]) O (G40 1 q m (H6 hc a5)) J0b ⟨O,O,O,O,ø⟩) O (Do (BL i) [48,53] O .optt ⟨Ua,Ua,ø⟩ (fun hc=>Gu (args:=[E1 c.1,E1 m]) O (Zw c.1 m i (H6 hc a6)) H7c ⟨O,O,O,O,ø⟩) O (Do (BL (!i)) [54] O .optt ⟨Ua,ø⟩ (fun hc=>Y4 (b:=i) O O) O (Dg (.opt (!((decide ((a:Int) < (l.length:Int)))&&(!d))) (BL ((decide ((l.length:Int)≤(a:Int)))&&(!i)))) (H9 [(44,BL (decide ((l.length:Int)≤(a:Int)))),(55,_)] O O O .scf ⟨.all id,.part,ø⟩ (fun hc=>Yy O O O O) O) O (Dq (BL (((decide ((a:Int) < (l.length:Int)))&&(!d))||((decide ((l.length:Int)≤(a:Int)))&&(!i)))) (G17 O O O O) O (Dnil ?_))))))))
   refine a1 (JCc O h (fun h hb=>?_) (fun h hb=>?_))
   ·
    refine Jr fun a7=>(JLm (BL false) O (G6 (a7 (H0 (fin1 BL h)))))
   ·
    refine Gk (a0 (G1 (JLm (E7 a) O (JLh (I64 ((a+1:Nat):Int)) (Hz (Hi o x) O O O) O (JLm (I64 ((a+1:Nat):Int)) O (G6 (b9 _ _ (a+1) () (app1 z h) (by omega) ⟨(.sm O O),ø,rfl⟩)))))))
  ·
   have h:=app1 s (Hx n (Hc hb))
   refine Hd (b6 (Jr fun a8=>(JLm (BL true) O (G6 (a8 (H0 (fin1 BL h)))))))

def Qz (own:Qg) (y:Gh):Option Bool:=
 bnd (bif decide (own.Height=y.Height) then Ri own.Stacks y.Stacks else some default) fun a=>
 some ((decide (own.Height=y.Height))&&a)
theorem G14 (own:Qg) (y:Gh) (r:Bool) (h:Qz own y=some r):Pure E8 19 [.agg [LT 1 (LT 1 I64) own.Stacks,I64 own.Height],.agg [LS 1 (E1) y.Stacks,I64 y.Height]] (·=BL r):=by
 unfold Qz at h
 refine Hj [.tmp 4] Tryz.func19 O O (Jr fun b=>(JLh (.ptr 1033 0) (Qw (cs:=[LT 1 (LT 1 I64) own.Stacks,I64 own.Height]) 1033 O O O O O) O (JLh (.ptr 1034 0) (Qw (cs:=[LS 1 (E1) y.Stacks,I64 y.Height]) 1034 O O O O O) O (JLm (BL false) O (G6 (b (H7 [(2,.dptr [LT 1 (LT 1 I64) own.Stacks,I64 own.Height]),(3,.ptr 1034 0)] [(1034,.box 25 [LS 1 (E1) y.Stacks,I64 y.Height])] 1033 rfl rfl rfl ⟨⟨_,rfl,.boxEq rfl rfl⟩,ø⟩ rfl (by exact⟨.ptr,.conv (.same rfl),ø⟩) (H7 [(2,.dptr [LT 1 (LT 1 I64) own.Stacks,I64 own.Height]),(3,.dptr [LS 1 (E1) y.Stacks,I64 y.Height])] [] 1034 rfl rfl rfl ø rfl (by exact⟨.conv (.same rfl),.ptr,ø⟩) ?_))))))))
 refine Jr fun c=>(JLh (.dptr [I64 own.Height]) (H1 Rt O O O) O (JLh (I64 own.Height) (Gr Gj O O O) O (JLh (.dptr [I64 y.Height]) (H1 Rt O O O) O (JLh (I64 y.Height) (Gr Gj O O O) O (JLh (BL (decide (own.Height=y.Height))) (Yx O O O) O (JLm (BL (decide (own.Height=y.Height))) O (JLo (.dptr [LT 1 (LT 1 I64) own.Stacks,I64 own.Height]) [] O .sct ø (fun hc=>H1 J8 O O O) O (JLo (LT 1 (LT 1 I64) own.Stacks) [11] O .sct ⟨Ua,ø⟩ (fun hc=>Gr Gv O O O) O (JLo (.dptr [LS 1 (E1) y.Stacks,I64 y.Height]) [] O .sct ø (fun hc=>H1 J8 O O O) O (JLo (LS 1 (E1) y.Stacks) [13] O .sct ⟨Ua,ø⟩ (fun hc=>Gr Gv O O O) O ?_))))))))))
 obtain⟨a,d,h⟩:=Gd h
 refine JLo (BL a) [12,14] O .sct ⟨Ua,Ua,ø⟩ (fun hc=>Gu (args:=[LT 1 (LT 1 I64) own.Stacks,LS 1 (E1) y.Stacks]) O (Gb0 own.Stacks y.Stacks a (H6 hc d)) Q14 ⟨O,O,O,O,ø⟩) O (JLh (BL ((decide (own.Height=y.Height))&&a)) (Yy O O O O) O (JLm (BL ((decide (own.Height=y.Height))&&a)) O (G6 (c (H0 (fin1 BL h))))))

def Jq (l:List Int):Option (Ln Int):=
 chk ((l.length:Int)+12) fun g=>
 bnd (Ha9 g) fun e=>
 need (decide (8*e≤281474976710656∧e≤maxLen)) <|
 need (decide ((([]:List Int).length+l.length)*8≤140737488355328∧([]:List Int).length+l.length≤maxLen)) <|
 need (decide (12≤9223372036854775807)) <|
 upto (fun f (a:(List Int)) d=>
  bnd (Rj 1 (f:Int)) fun b=>
  need (decide ((a.length+[b].length)*8≤140737488355328∧a.length+[b].length≤maxLen)) <|
  d (a++[b]))
 (fun(a:(List Int))=>
  bnd (Rm (l.length:Int) a.length) fun c=>
  some (a.take c,a.drop c)) (12:Int).toNat 0 (([]:List Int)++l)
theorem Yh (l:List Int) (r:(Ln Int)) (h:Jq l=some r):Pure E8 11 [E1 l] (·=LT 1 I64 r):=by
 unfold Jq at h
 refine Hj [.tmp 2] Tryz.func11 O O (Jr fun w=>(JLh (E1 ([]:List Int)) (Jo 1 O O) O (G6 (w (Jr fun x=>(JLm (E1 l) O (JLl G8 O O O fun b0=>?_)))))))
 obtain⟨v3,y,h⟩:=Je h
 refine JLh (I64 v3) (Hz y O O O) O ?_
 obtain⟨m4,z,h⟩:=Gd h
 obtain⟨a0,h⟩:=Ho h
 refine JLh (OW 1025 1 I64 ([]:List Int)) (J87 1025 O O O O G8 Ro O (H54 z) a0) O (JLm (OW 1025 1 I64 ([]:List Int)) O (G6 (x (Jr fun a1=>(JLm (OW 1025 1 I64 ([]:List Int)) O (JLm (E1 l) O ?_))))))
 obtain⟨a2,h⟩:=Ho h
 refine JLh (OW 1025 1 I64 (([]:List Int)++l)) (G18 (f:=I64) (xs:=([]:List Int)) (ys:=l) O O O O G8 Ro a2 (fun _=>O) (.inl O)) O (JLm (OW 1025 1 I64 (([]:List Int)++l)) O (G6 (a1 (Js fun a3=>Jr fun a4=>(JLm (I64 0) O (G6 (a4 (Gf ?_))))))))
 obtain⟨j,h⟩:=Ho h
 obtain⟨a5,k,m,i,h⟩:=Ga9 h
 refine Ha (fun b (a:(List Int))=>upto a5 k ((12:Int).toNat - b) b a=some r) (fun b a=>[(0,E1 l),(3,OW 1025 1 I64 a),(4,E7 b)]) (fun b a=>[(1025,.spare 3 1 a.length a.length)]) (fun b=>(12:Int).toNat - b) 0 (([]:List Int)++l) h ⟨(.sm O O),⟨⟨_,O,.same⟩,ø⟩,O⟩ ?_
 clear h
 intro b a e b1 a6
 refine Js fun n=>Jr fun o=>(JLm (E7 b) O (JLh (BL (decide ((b:Int) < 12))) (J2 O O O) O (G6 (o (Gi O (fun hb=>?_) (fun hb=>?_))))))
 ·
  have g:=G73 hb
  obtain⟨a8,p,h⟩:=G6e e g
  replace h:=J9e m h
  refine Gk (n (Js fun q=>Gf (G1 (JLm (OW 1025 1 I64 a) O (JLm (E7 b) O ?_)))))
  obtain⟨c,s,h⟩:=Gd h
  refine JLh (I64 c) (Gu O (G32 1 (b:Int) c s) H7a ⟨O,O,O,O,ø⟩) O (JLh (E1 [c]) (H4 (xs:=[I64 c]) O ⟨O,O,ø⟩ G8 J6 O O O O) O ?_)
  obtain⟨t,h⟩:=Ho h
  refine JLh (OW 1025 1 I64 (a++[c])) (R3 (f:=I64) (xs:=a) (ys:=[c]) O O O O G8 Ro t (fun _=>O) (.inl O) O) O (JLm (OW 1025 1 I64 (a++[c])) O (G6 (q (G1 (JLm (E7 b) O (JLh (I64 ((b+1:Nat):Int)) (Hz (Hi g (G45 j)) O O O) O (JLm (I64 ((b+1:Nat):Int)) O (G6 (a6 _ _ (b+1) (a++[c]) (app1 p h) (by omega) ⟨(.sm O O),⟨⟨_,rfl,.same⟩,ø⟩,rfl⟩)))))))))
 ·
  have h:=app1 i (G6f e (Zc hb))
  refine Hd (a3 (Jr fun u=>(JLm (OW 1025 1 I64 a) O (JLm (E1 l) O (JLl G8 O O O fun a9=>?_)))))
  obtain⟨d,v,h⟩:=Gd h
  refine JLh (LT 1 I64 (a.take d,a.drop d)) (R68 (f:=I64) (xs:=a) O O O G8 (H8 v)) O (JLm (LT 1 I64 (a.take d,a.drop d)) O (G6 (u (H0 (fin1 (fun r:(Ln Int)=>(LT 1 I64 r:AV)) h)))))

def Rh (l:List (List Int)):Option (Ln (Ln Int)):=
 chk ((l.length:Int)+12) fun k=>
 bnd (Ha9 k) fun h=>
 need (decide (24*h≤281474976710656∧h≤maxLen)) <|
 each (fun i m (b:(List (Ln Int))) f=>
  bnd (Jq i) fun c=>
  need (decide ((b.length+[c].length)*24≤140737488355328∧b.length+[c].length≤maxLen)) <|
  f (b++[c]))
 (fun(b:(List (Ln Int)))=>
  need (decide (12≤9223372036854775807)) <|
  upto (fun j (a:(List (Ln Int))) g=>
   bnd (Qt 1 (j:Int)) fun d=>
   need (decide ((a.length+[(d,([]:List Int))].length)*24≤140737488355328∧a.length+[(d,([]:List Int))].length≤maxLen)) <|
   g (a++[(d,([]:List Int))]))
  (fun(a:(List (Ln Int)))=>
   bnd (Rm (l.length:Int) a.length) fun e=>
   some (a.take e,a.drop e)) (12:Int).toNat 0 b) l 0 []
theorem Gaf (l:List (List Int)) (r:(Ln (Ln Int))) (h:Rh l=some r):Pure E8 29 [LS 1 (E1) l] (·=LT 1 (LT 1 I64) r):=by
 unfold Rh at h
 refine Hj [.tmp 2] Tryz.func29 O O (Jr fun b7=>(JLh (LS 1 (E1) ([]:List (List Int))) (Jo 1 O O) O (G6 (b7 (Jr fun b8=>(JLm (LS 1 (E1) l) O (JLl Ge O O O fun d2=>?_)))))))
 obtain⟨v3,b9,h⟩:=Je h
 refine JLh (I64 v3) (Hz b9 O O O) O ?_
 obtain⟨m4,c0,h⟩:=Gd h
 obtain⟨c1,h⟩:=Ho h
 refine JLh (OW 1065 1 (LT 1 I64) ([]:List (Ln Int))) (J87 1065 O O O O Ge G3a O (H54 c0) c1) O (JLm (OW 1065 1 (LT 1 I64) ([]:List (Ln Int))) O (G6 (b8 (Js fun c2=>Jr fun c3=>(JLm (I64 0) O (G6 (c3 (Gf ?_))))))))
 obtain⟨c4,s,t,p,h⟩:=J7 h
 refine Ha (fun c (d:(List (Ln Int)))=>each c4 s (List.drop c l) c d=some r) (fun c d=>[(0,LS 1 (E1) l),(3,OW 1065 1 (LT 1 I64) d),(4,E7 c)]) (fun c d=>[(1065,.spare 22 1 d.length d.length)]) (fun c=>l.length - c) 0 [] h ⟨(.sm O O),⟨⟨_,O,.same⟩,ø⟩,O⟩ ?_
 clear h
 intro c d k d3 c5
 refine Js fun u=>Jr fun v=>(JLm (E7 c) O (JLm (LS 1 (E1) l) O (JLl Ge O O O fun w=>(JLh (BL (decide ((c:Int) < (l.length:Int)))) (J2 O O O) O (G6 (v (Gi O (fun hb=>?_) (fun hb=>?_))))))))
 ·
  have m:=Jp hb
  obtain⟨i,c9,x,z,h⟩:=Hw k m
  replace h:=Yw t h
  refine Gk (u (Js fun a0=>Gf (Jr fun a1=>(JLm (LS 1 (E1) l) O (JLm (E7 c) O (JLh (.dptr [E1 i]) (Gz (f:=(E1)) (xs:=l) (y:=i) O O O Ge x O) O (JLh (E1 i) (Gr H5 O O O) O ?_)))))))
  obtain⟨e,a2,h⟩:=Gd h
  refine JLh (LT 1 I64 e) (Gu O (Yh i e a2) H09 ⟨O,O,ø⟩) O (JLm (LT 1 I64 e) O (G6 (a1 (G1 (JLm (OW 1065 1 (LT 1 I64) d) O (JLm (LT 1 I64 e) O (JLh (LS 1 (LT 1 I64) [e]) (H4 (xs:=[LT 1 I64 e]) O ⟨O,O,ø⟩ Ge Yu O O O O) O ?_)))))))
  obtain⟨a3,h⟩:=Ho h
  refine JLh (OW 1065 1 (LT 1 I64) (d++[e])) (R3 (f:=(LT 1 I64)) (xs:=d) (ys:=[e]) O O O O Ge G3a a3 (fun _=>O) (.inl O) O) O (JLm (OW 1065 1 (LT 1 I64) (d++[e])) O (G6 (a0 (G1 (JLm (E7 c) O (JLh (I64 ((c+1:Nat):Int)) (Hz (Hi m w) O O O) O (JLm (I64 ((c+1:Nat):Int)) O (G6 (c5 _ _ (c+1) (d++[e]) (app1 z h) (by omega) ⟨(.sm O O),⟨⟨_,rfl,.same⟩,ø⟩,rfl⟩)))))))))
 ·
  have h:=app1 p (Hx k (Hc hb))
  refine Hd (c2 (Js fun a4=>Jr fun a5=>(JLm (I64 0) O (G6 (a5 (Gf ?_))))))
  obtain⟨a6,h⟩:=Ho h
  obtain⟨c6,a7,a8,q,h⟩:=Ga9 h
  refine Ha (fun b (a:(List (Ln Int)))=>upto c6 a7 ((12:Int).toNat - b) b a=some r) (fun b a=>[(0,LS 1 (E1) l),(3,OW 1065 1 (LT 1 I64) a),(6,E7 b)]) (fun b a=>[(1065,.spare 22 1 a.length a.length)]) (fun b=>(12:Int).toNat - b) 0 d h ⟨(.sm O O),⟨⟨_,O,.same⟩,ø⟩,O⟩ ?_
  clear h
  intro b a n d4 c7
  refine Js fun a9=>Jr fun b0=>(JLm (E7 b) O (JLh (BL (decide ((b:Int) < 12))) (J2 O O O) O (G6 (b0 (Gi O (fun hb=>?_) (fun hb=>?_))))))
  ·
   have o:=G73 hb
   obtain⟨d0,b1,h⟩:=G6e n o
   replace h:=J9e a8 h
   refine Gk (a9 (Js fun b2=>Gf (G1 (JLm (OW 1065 1 (LT 1 I64) a) O (JLm (E7 b) O ?_)))))
   obtain⟨g,b3,h⟩:=Gd h
   refine JLh (LT 1 I64 (g,([]:List Int))) (Gn.cv (Cv.of0 g) (Gu O (G40 1 (b:Int) g b3) J0b ⟨O,O,O,O,ø⟩)) O (JLh (LS 1 (LT 1 I64) ([(g,([]:List Int))])) (H4 (xs:=[LT 1 I64 (g,([]:List Int))]) O ⟨O,O,ø⟩ Ge Yu O O O O) O ?_)
   obtain⟨b4,h⟩:=Ho h
   refine JLh (OW 1065 1 (LT 1 I64) (a++[(g,([]:List Int))])) (R3 (f:=(LT 1 I64)) (xs:=a) (ys:=[(g,([]:List Int))]) O O O O Ge G3a b4 (fun _=>O) (.inl O) O) O (JLm (OW 1065 1 (LT 1 I64) (a++[(g,([]:List Int))])) O (G6 (b2 (G1 (JLm (E7 b) O (JLh (I64 ((b+1:Nat):Int)) (Hz (Hi o (G45 a6)) O O O) O (JLm (I64 ((b+1:Nat):Int)) O (G6 (c7 _ _ (b+1) (a++[(g,([]:List Int))]) (app1 b1 h) (by omega) ⟨(.sm O O),⟨⟨_,rfl,.same⟩,ø⟩,rfl⟩)))))))))
  ·
   have h:=app1 q (G6f n (Zc hb))
   refine Hd (a4 (Jr fun b5=>(JLm (OW 1065 1 (LT 1 I64) a) O (JLm (LS 1 (E1) l) O (JLl Ge O O O fun d1=>?_)))))
   obtain⟨j,b6,h⟩:=Gd h
   refine JLh (LT 1 (LT 1 I64) (a.take j,a.drop j)) (R68 (f:=(LT 1 I64)) (xs:=a) O O O Ge (H8 b6)) O (JLm (LT 1 (LT 1 I64) (a.take j,a.drop j)) O (G6 (b5 (H0 (fin1 (fun r:(Ln (Ln Int))=>(LT 1 (LT 1 I64) r:AV)) h)))))

def R5 (y:Gh):Option Qg:=
 bnd (Rh y.Stacks) fun a=>
 some (Qg.mk a y.Height)
theorem G27 (y:Gh) (r:Qg) (h:R5 y=some r):Pure E8 10 [.agg [LS 1 (E1) y.Stacks,I64 y.Height]] (·=.agg [LT 1 (LT 1 I64) r.Stacks,I64 r.Height]):=by
 unfold R5 at h
 refine Hj [.cell 2 25] Tryz.func10 O O (Jr fun b=>(JLh (.ptr 1023 0) (Qw (cs:=[LS 1 (E1) y.Stacks,I64 y.Height]) 1023 O O O O O) O (JLh (.ptr 1024 0) (Gc9 1024 [LS 1 (E1) ([]:List (List Int)),I64 0] [.slice none 0 0,E0] G36 ⟨.inr ⟨_,O,O⟩,.inl O,ø⟩ O O) O (G6 (b (Jr fun c=>(JLh (.ptr 1023 0) (Hs J8 O O) O (JLh (LS 1 (E1) y.Stacks) (Ht Gv O O O O) O ?_))))))))
 obtain⟨a,d,h⟩:=Gd h
 refine JLh (LT 1 (LT 1 I64) a) (Gu O (Gaf y.Stacks a d) Q1a ⟨O,O,ø⟩) O (JLh (.ptr 1023 0) (Hs J8 O O) O (Jb (u:=.junk) (Hu (u:=LT 1 (LT 1 I64) a) (ds:=[LT 1 (LT 1 I64) a,I64 y.Height]) Gb6 O O O O O O O O) (G6 (c (H7 [(1,.dptr [LT 1 (LT 1 I64) a,I64 y.Height]),(2,.ptr 1024 0)] [(1024,.box 25 [LS 1 (E1) ([]:List (List Int)),I64 0])] 1023 rfl rfl rfl ⟨⟨_,rfl,.boxEq rfl rfl⟩,ø⟩ rfl (by exact⟨.ptr,.conv (.same rfl),ø⟩) (Jr fun e=>(JLh (.agg [LT 1 (LT 1 I64) a,I64 y.Height]) (Gt Hf O O O) O (Jb (u:=.junk) (Hu (u:=.agg [LT 1 (LT 1 I64) a,I64 y.Height]) (ds:=[LT 1 (LT 1 I64) a,I64 y.Height]) Zn O O O O O O O O) (G6 (e (H0 ?_)))))))))))
 exact⟨[.agg [LT 1 (LT 1 I64) a,I64 y.Height]],[],ø,O,⟨⟨_,⟨_,_,_,_,O,O,O,.inl ⟨Hf,O⟩⟩,.conv (.same O)⟩,ø⟩,O,congrArg (fun r:Qg=>(.agg [LT 1 (LT 1 I64) r.Stacks,I64 r.Height]:AV)) (Ez h)⟩

def Q2 (l:List G7):Option (List G2):=
 each (fun a d (b:(List G2)) c=>
  need (decide ((b.length+[(G2.mk a.From a.To)].length)*16≤140737488355328∧b.length+[(G2.mk a.From a.To)].length≤maxLen)) <|
  c (b++[(G2.mk a.From a.To)]))
 (fun(b:(List G2))=>
  some b) l 0 []
theorem G69 (l:List G7) (r:(List G2)) (h:Q2 l=some r):Pure E8 7 [E3 l] (·=E2 r):=by
 unfold Q2 at h
 refine Hj [.tmp 2] Tryz.func7 O O (Jr fun t=>(JLh (E2 ([]:List G2)) (Jo 2 O O) O (G6 (t (Jr fun u=>(JLh (OW 1015 2 G2.av ([]:List G2)) (Ga2 1015 35 2 O O O) O (G6 (u (Js fun v=>Jr fun w=>(JLm (I64 0) O (G6 (w (Gf ?_)))))))))))))
 obtain⟨x,i,j,g,h⟩:=J7 h
 refine Ha (fun b (c:(List G2))=>each x i (List.drop b l) b c=some r) (fun b c=>[(0,E3 l),(3,OW 1015 2 G2.av c),(4,E7 b)]) (fun b c=>[(1015,.spare 35 2 c.length c.length)]) (fun b=>l.length - b) 0 [] h ⟨(.sm O O),⟨⟨_,O,.same⟩,ø⟩,O⟩ ?_
 clear h
 intro b c d a2 z
 refine Js fun k=>Jr fun m=>(JLm (E7 b) O (JLm (E3 l) O (JLl Rk O O O fun a0=>(JLh (BL (decide ((b:Int) < (l.length:Int)))) (J2 O O O) O (G6 (m (Gi O (fun hb=>?_) (fun hb=>?_))))))))
 ·
  have e:=Jp hb
  obtain⟨a,a1,n,o,h⟩:=Hw d e
  replace h:=Yw j h
  refine Gk (k (Js fun p=>Gf (G1 (JLm (OW 1015 2 G2.av c) O (JLm (E3 l) O (JLm (E7 b) O (JLh (.dptr [I64 a.From,I64 a.To]) (Gz (f:=G7.av) (xs:=l) (y:=a) O O O Rk n O) O (JLh (.agg [I64 a.From,I64 a.To]) (Gt G10 O O O) O (JLh (E2 [(G2.mk a.From a.To)]) (H4 (xs:=[.agg [I64 a.From,I64 a.To]]) O ⟨O,O,ø⟩ Hk G1a O O O O) O ?_)))))))))
  obtain⟨q,h⟩:=Ho h
  refine JLh (OW 1015 2 G2.av (c++[(G2.mk a.From a.To)])) (R3 (f:=G2.av) (xs:=c) (ys:=[(G2.mk a.From a.To)]) O O O O Hk G21 q (fun _=>O) (.inl O) O) O (JLm (OW 1015 2 G2.av (c++[(G2.mk a.From a.To)])) O (G6 (p (G1 (JLm (E7 b) O (JLh (I64 ((b+1:Nat):Int)) (Hz (Hi e a0) O O O) O (JLm (I64 ((b+1:Nat):Int)) O (G6 (z _ _ (b+1) (c++[(G2.mk a.From a.To)]) (app1 o h) (by omega) ⟨(.sm O O),⟨⟨_,rfl,.same⟩,ø⟩,rfl⟩)))))))))
 ·
  have h:=app1 g (Hx d (Hc hb))
  refine Hd (v (Jr fun s=>(JLm (OW 1015 2 G2.av c) O (JLm (OW 1015 2 G2.av c) O (G6 (s (H0 (fin1l (fun r:(List G2)=>(E2 r:AV)) h))))))))

def Y9 (F:Nat) (y:Gh) (order:List Int):Option Bool:=
 bnd (R5 y) fun e=>
 bnd (Jq order) fun f=>
 bnd (Jh F (Gh.mk (e.Stacks.1.map Prod.fst) e.Height) f.1) fun a=>
 bnd (Qp F (Gs.mk y.Stacks y.Height) order) fun b=>
 bnd (bif decide (a.2=b.2) then Q2 b.1 else some default) fun g=>
 bnd (bif decide (a.2=b.2) then Jv a.1 g else some default) fun c=>
 bnd (bif ((decide (a.2=b.2))&&c) then Qz e y else some default) fun d=>
 bnd (bif (((decide (a.2=b.2))&&c)&&d) then Jt f order else some default) fun h=>
 some ((((decide (a.2=b.2))&&c)&&d)&&h)
theorem Ged (F:Nat) (y:Gh) (order:List Int) (r:Bool) (h:Y9 F y order=some r):Pure E8 5 [.agg [LS 1 (E1) y.Stacks,I64 y.Height],E1 order] (·=BL r):=by
 unfold Y9 at h
 refine Hj [.tmp 4] Tryz.func5 O O (Jr fun p=>(JLh (.ptr 1010 0) (Qw (cs:=[LS 1 (E1) y.Stacks,I64 y.Height]) 1010 O O O O O) O (JLm (BL false) O (G6 (p (H7 [(1,E1 order),(2,.dptr [LS 1 (E1) y.Stacks,I64 y.Height])] [] 1010 rfl rfl rfl ø rfl (by exact⟨.conv (.same rfl),.ptr,ø⟩) (Jr fun q=>(JLh (.agg [LS 1 (E1) y.Stacks,I64 y.Height]) (Gt Hf O O O) O ?_))))))))
 obtain⟨a,s,h⟩:=Gd h
 refine JLh (.agg [LT 1 (LT 1 I64) a.Stacks,I64 a.Height]) (Gu O (G27 y a s) H7d ⟨O,O,ø⟩) O (JLm (E1 order) O ?_)
 obtain⟨e,t,h⟩:=Gd h
 refine JLh (LT 1 I64 e) (Gu O (Yh order e t) H09 ⟨O,O,ø⟩) O (JLh (.ptr 1011 0) (Ji 1011 2 Zx O O) O (Jb (u:=.junk) (Hu (u:=.agg [LT 1 (LT 1 I64) a.Stacks,I64 a.Height]) (ds:=[LT 1 (LT 1 I64) a.Stacks,I64 a.Height]) Zn O O O O O O O O) (JLm (LT 1 I64 e) O (G6 (q (fzQ [(1,E1 order),(2,.dptr [LS 1 (E1) y.Stacks,I64 y.Height]),(5,.dptr [LT 1 (LT 1 I64) a.Stacks,I64 a.Height]),(6,LT 1 I64 e)] [] 1011 rfl rfl rfl ø rfl ?_))))))
 refine Jr fun v=>(JLh (.agg [LS 1 (E1) (a.Stacks.1.map Prod.fst),I64 a.Height]) (Gn.cv (Cv.aggL (cs:=[LT 1 (LT 1 I64) a.Stacks,I64 a.Height]) ⟨Cv.lstM (f:=(LT 1 I64)) (g:=(E1)) Prod.fst (fun x=>⟨Cv.lst0 x,ø⟩) a.Stacks,.same,ø⟩) (Gt Hf O O O)) O (JLh (E1 e.1) (Gn.cv (Cv.lst0 e) (G3 O O)) O ?_))
 obtain⟨b,w,h⟩:=Gd h
 refine JLh (.tup [E2 b.1,I64 b.2]) (Gu O (G34 F (Gh.mk (a.Stacks.1.map Prod.fst) a.Height) e.1 b w) H07 ⟨O,O,O,O,ø⟩) O (JLm (.tup [E2 b.1,I64 b.2]) O (JLh (E2 b.1) (Gw O O O) O (JLh (I64 b.2) (Gw O O O) O (JLm (E2 b.1) O (JLm (I64 b.2) O (G6 (v (Jr fun z=>(JLh (.agg [LS 1 (E1) y.Stacks,I64 y.Height]) (Gt Hf O O O) O (JLm (E1 order) O ?_))))))))))
 obtain⟨c,a0,h⟩:=Gd h
 refine JLh (.tup [E3 c.1,I64 c.2]) (Gu O (Gea F (Gs.mk y.Stacks y.Height) order c a0) Q1d ⟨O,O,O,O,ø⟩) O (JLm (.tup [E3 c.1,I64 c.2]) O (JLh (E3 c.1) (Gw O O O) O (JLh (I64 c.2) (Gw O O O) O (JLm (E3 c.1) O (JLm (I64 c.2) O (G6 (z (Jr fun a1=>(JLm (I64 b.2) O (JLm (I64 c.2) O (JLh (BL (decide (b.2=c.2))) (Yx O O O) O (JLm (BL (decide (b.2=c.2))) O (JLo (E2 b.1) [] O .sct ø (fun hc=>G3 O O) O (JLo (E3 c.1) [] O .sct ø (fun hc=>G3 O O) O ?_))))))))))))))
 obtain⟨j,l,h⟩:=Gd h
 refine JLo (E2 j) [32] O .sct ⟨Ua,ø⟩ (fun hc=>Gu (args:=[E3 c.1]) O (G69 c.1 j (H6 hc l)) Hc5 ⟨O,O,ø⟩) O ?_
 obtain⟨d,m,h⟩:=Gd h
 refine JLo (BL d) [31,33] O .sct ⟨Ua,Ua,ø⟩ (fun hc=>Gu (args:=[E2 b.1,E2 j]) O (R2 b.1 j d (H6 hc m)) G84 ⟨O,O,O,O,ø⟩) O (JLh (BL ((decide (b.2=c.2))&&d)) (Yy O O O O) O (JLm (BL ((decide (b.2=c.2))&&d)) O (JLo (.agg [LT 1 (LT 1 I64) a.Stacks,I64 a.Height]) [] O .sct ø (fun hc=>Gt Hf O O O) O (JLo (.agg [LS 1 (E1) y.Stacks,I64 y.Height]) [] O .sct ø (fun hc=>Gt Hf O O O) O ?_))))
 obtain⟨i,n,h⟩:=Gd h
 refine JLo (BL i) [37,38] O .sct ⟨Ua,Ua,ø⟩ (fun hc=>Gu (args:=[.agg [LT 1 (LT 1 I64) a.Stacks,I64 a.Height],.agg [LS 1 (E1) y.Stacks,I64 y.Height]]) O (G14 a y i (H6 hc n)) H7b ⟨O,O,O,O,ø⟩) O (JLh (BL (((decide (b.2=c.2))&&d)&&i)) (Yy O O O O) O (JLm (BL (((decide (b.2=c.2))&&d)&&i)) O (JLo (LT 1 I64 e) [] O .sct ø (fun hc=>G3 O O) O (JLo (E1 order) [] O .sct ø (fun hc=>G3 O O) O ?_))))
 obtain⟨k,o,h⟩:=Gd h
 refine JLo (BL k) [42,43] O .sct ⟨Ua,Ua,ø⟩ (fun hc=>Gu (args:=[LT 1 I64 e,E1 order]) O (Yi e order k (H6 hc o)) H08 ⟨O,O,O,O,ø⟩) O (JLh (BL ((((decide (b.2=c.2))&&d)&&i)&&k)) (Yy O O O O) O (JLm (BL ((((decide (b.2=c.2))&&d)&&i)&&k)) O (G6 (a1 (H0 (fin1 BL h))))))

def Y3 (F:Nat) (y:Gh) (order:List Int) (l:List G2):Option Bool:=
 bnd (R5 y) fun g=>
 bnd (Jq order) fun i=>
 need (decide ((([]:List G2).length+l.length)*16≤140737488355328∧([]:List G2).length+l.length≤maxLen)) <|
 bnd (Ye (Gh.mk (g.Stacks.1.map Prod.fst) g.Height) i.1 (([]:List G2)++l)) fun c=>
 each (fun b k (d:(List G7)) h=>
  need (decide ((d.length+[(G7.mk b.From b.To)].length)*16≤140737488355328∧d.length+[(G7.mk b.From b.To)].length≤maxLen)) <|
  h (d++[(G7.mk b.From b.To)]))
 (fun(d:(List G7))=>
  bnd (Y8 F (Gs.mk y.Stacks y.Height) order d) fun a=>
  bnd (bif ((c.1==a.1)&&(decide (c.2=a.2))) then Jv (([]:List G2)++l) l else some default) fun e=>
  bnd (bif (((c.1==a.1)&&(decide (c.2=a.2)))&&e) then Qz g y else some default) fun f=>
  bnd (bif ((((c.1==a.1)&&(decide (c.2=a.2)))&&e)&&f) then Jt i order else some default) fun j=>
  some (((((c.1==a.1)&&(decide (c.2=a.2)))&&e)&&f)&&j)) l 0 []
theorem Gce (F:Nat) (y:Gh) (order:List Int) (l:List G2) (r:Bool) (h:Y3 F y order l=some r):Pure E8 8 [.agg [LS 1 (E1) y.Stacks,I64 y.Height],E1 order,E2 l] (·=BL r):=by
 unfold Y3 at h
 refine Hj [.tmp 6] Tryz.func8 O O (Jr fun b1=>(JLh (.ptr 1016 0) (Qw (cs:=[LS 1 (E1) y.Stacks,I64 y.Height]) 1016 O O O O O) O (JLm (BL false) O (G6 (b1 (H7 [(1,E1 order),(2,E2 l),(3,.dptr [LS 1 (E1) y.Stacks,I64 y.Height])] [] 1016 rfl rfl rfl ø rfl (by exact⟨.conv (.same rfl),.conv (.same rfl),.ptr,ø⟩) (Jr fun b2=>(JLh (.agg [LS 1 (E1) y.Stacks,I64 y.Height]) (Gt Hf O O O) O ?_))))))))
 obtain⟨d,b3,h⟩:=Gd h
 refine JLh (.agg [LT 1 (LT 1 I64) d.Stacks,I64 d.Height]) (Gu O (G27 y d b3) H7d ⟨O,O,ø⟩) O (JLm (E1 order) O ?_)
 obtain⟨k,b4,h⟩:=Gd h
 refine JLh (LT 1 I64 k) (Gu O (Yh order k b4) H09 ⟨O,O,ø⟩) O (JLh (OW 1019 2 G2.av ([]:List G2)) (Gc7 1019 35 2 O O Hk) O (JLm (E2 l) O ?_))
 obtain⟨b5,h⟩:=Ho h
 refine JLh (OW 1019 2 G2.av (([]:List G2)++l)) (G18 (f:=G2.av) (xs:=([]:List G2)) (ys:=l) O O O O Hk G21 b5 (fun _=>O) (.inl O)) O (JLh (.ptr 1017 0) (Ji 1017 2 Zx O O) O (Jb (u:=.junk) (Hu (u:=.agg [LT 1 (LT 1 I64) d.Stacks,I64 d.Height]) (ds:=[LT 1 (LT 1 I64) d.Stacks,I64 d.Height]) Zn O O O O O O O O) (JLm (LT 1 I64 k) O (JLm (OW 1019 2 G2.av (([]:List G2)++l)) O (G6 (b2 ?_))))))
 refine fzQ [(1,E1 order),(2,E2 l),(3,.dptr [LS 1 (E1) y.Stacks,I64 y.Height]),(7,.dptr [LT 1 (LT 1 I64) d.Stacks,I64 d.Height]),(8,LT 1 I64 k),(9,OW 1019 2 G2.av (([]:List G2)++l))] [(1019,.spare 35 2 (([]:List G2)++l).length (([]:List G2)++l).length)] 1017 rfl rfl rfl ⟨⟨_,rfl,.same⟩,ø⟩ rfl (Jr fun b6=>(JLh (.agg [LS 1 (E1) (d.Stacks.1.map Prod.fst),I64 d.Height]) (Gn.cv (Cv.aggL (cs:=[LT 1 (LT 1 I64) d.Stacks,I64 d.Height]) ⟨Cv.lstM (f:=(LT 1 I64)) (g:=(E1)) Prod.fst (fun x=>⟨Cv.lst0 x,ø⟩) d.Stacks,.same,ø⟩) (Gt Hf O O O)) O (JLh (E1 k.1) (Gn.cv (Cv.lst0 k) (G3 O O)) O (JLm (OW 1019 2 G2.av (([]:List G2)++l)) O ?_))))
 obtain⟨b,b7,h⟩:=Gd h
 refine JLh (.tup [BL b.1,I64 b.2]) (Gu O (Gda (Gh.mk (d.Stacks.1.map Prod.fst) d.Height) k.1 (([]:List G2)++l) b b7) J0f ⟨O,O,O,O,O,O,ø⟩) O (JLm (.tup [BL b.1,I64 b.2]) O (JLh (BL b.1) (Gw O O O) O (JLh (I64 b.2) (Gw O O O) O (JLm (BL b.1) O (JLm (I64 b.2) O (G6 (b6 (Jr fun b8=>(JLh (OW 1018 2 G7.av ([]:List G7)) (Ga2 1018 55 2 O O O) O (G6 (b8 (Js fun b9=>Jr fun s=>(JLm (I64 0) O (G6 (s (Gf ?_))))))))))))))))
 obtain⟨c0,t,v,q,h⟩:=J7 h
 refine Ha (fun e (i:(List G7))=>each c0 t (List.drop e l) e i=some r) (fun e i=>[(1,E1 order),(2,E2 l),(3,.dptr [LS 1 (E1) y.Stacks,I64 y.Height]),(7,.dptr [LT 1 (LT 1 I64) d.Stacks,I64 d.Height]),(8,LT 1 I64 k),(9,OW 1019 2 G2.av (([]:List G2)++l)),(10,BL b.1),(11,I64 b.2),(12,OW 1018 2 G7.av i),(13,E7 e)]) (fun e i=>[(1019,.spare 35 2 (([]:List G2)++l).length (([]:List G2)++l).length),(1018,.spare 55 2 i.length i.length)]) (fun e=>l.length - e) 0 [] h ⟨(.sm O O),⟨⟨_,rfl,.same⟩,⟨_,rfl,.same⟩,ø⟩,rfl⟩ ?_
 clear h
 intro e i o c3 c1
 refine Js fun w=>Jr fun z=>(JLm (E7 e) O (JLm (E2 l) O (JLl Hk O O O fun a0=>(JLh (BL (decide ((e:Int) < (l.length:Int)))) (J2 O O O) O (G6 (z (Gi O (fun hb=>?_) (fun hb=>?_))))))))
 ·
  have p:=Jp hb
  obtain⟨c,c2,a1,a2,h⟩:=Hw o p
  replace h:=Yw v h
  refine Gk (w (Js fun a3=>Gf (G1 (JLm (OW 1018 2 G7.av i) O (JLm (E2 l) O (JLm (E7 e) O (JLh (.dptr [I64 c.From,I64 c.To]) (Gz (f:=G2.av) (xs:=l) (y:=c) O O O Hk a1 O) O (JLh (.agg [I64 c.From,I64 c.To]) (Gt G61 O O O) O (JLh (E3 [(G7.mk c.From c.To)]) (H4 (xs:=[.agg [I64 c.From,I64 c.To]]) O ⟨O,O,ø⟩ Rk G97 O O O O) O ?_)))))))))
  obtain⟨a4,h⟩:=Ho h
  refine JLh (OW 1018 2 G7.av (i++[(G7.mk c.From c.To)])) (R3 (f:=G7.av) (xs:=i) (ys:=[(G7.mk c.From c.To)]) O O O O Rk H75 a4 (fun _=>O) (.inl O) O) O (JLm (OW 1018 2 G7.av (i++[(G7.mk c.From c.To)])) O (G6 (a3 (G1 (JLm (E7 e) O (JLh (I64 ((e+1:Nat):Int)) (Hz (Hi p a0) O O O) O (JLm (I64 ((e+1:Nat):Int)) O (G6 (c1 _ _ (e+1) (i++[(G7.mk c.From c.To)]) (app1 a2 h) (by omega) ⟨(.sm O O),⟨⟨_,rfl,.same⟩,⟨_,rfl,.same⟩,ø⟩,rfl⟩)))))))))
 ·
  have h:=app1 q (Hx o (Hc hb))
  refine Hd (b9 (Jr fun a5=>(JLh (.agg [LS 1 (E1) y.Stacks,I64 y.Height]) (Gt Hf O O O) O (JLm (E1 order) O (JLm (OW 1018 2 G7.av i) O ?_)))))
  obtain⟨a,a6,h⟩:=Gd h
  refine JLh (.tup [BL a.1,I64 a.2]) (Gu O (Geb F (Gs.mk y.Stacks y.Height) order i a a6) Q1b ⟨O,O,O,O,O,O,ø⟩) O (JLm (.tup [BL a.1,I64 a.2]) O (JLh (BL a.1) (Gw O O O) O (JLh (I64 a.2) (Gw O O O) O (JLm (BL a.1) O (JLm (I64 a.2) O (G6 (a5 ?_)))))))
  refine Jr fun a7=>(JLm (BL b.1) O (JLm (BL a.1) O (JLh (BL (b.1==a.1)) (Jf3 J62 O O O) O (JLm (BL (b.1==a.1)) O (JLo (I64 b.2) [] O .sct ø (fun hc=>G3 O O) O (JLo (I64 a.2) [] O .sct ø (fun hc=>G3 O O) O (JLo (BL (decide (b.2=a.2))) [54,55] O .sct ⟨Ua,Ua,ø⟩ (fun hc=>Yx O O O) O (JLh (BL ((b.1==a.1)&&(decide (b.2=a.2)))) (Yy O O O O) O (JLm (BL ((b.1==a.1)&&(decide (b.2=a.2)))) O (JLo (OW 1019 2 G2.av (([]:List G2)++l)) [] O .sct ø (fun hc=>G3 O O) O (JLo (E2 l) [] O .sct ø (fun hc=>G3 O O) O ?_)))))))))))
  obtain⟨j,a8,h⟩:=Gd h
  refine JLo (BL j) [59,60] O .sct ⟨Ua,Ua,ø⟩ (fun hc=>Gu (args:=[E2 (([]:List G2)++l),E2 l]) O (R2 (([]:List G2)++l) l j (H6 hc a8)) G84 ⟨O,O,O,O,ø⟩) O (JLh (BL (((b.1==a.1)&&(decide (b.2=a.2)))&&j)) (Yy O O O O) O (JLm (BL (((b.1==a.1)&&(decide (b.2=a.2)))&&j)) O (JLo (.agg [LT 1 (LT 1 I64) d.Stacks,I64 d.Height]) [] O .sct ø (fun hc=>Gt Hf O O O) O (JLo (.agg [LS 1 (E1) y.Stacks,I64 y.Height]) [] O .sct ø (fun hc=>Gt Hf O O O) O ?_))))
  obtain⟨m,a9,h⟩:=Gd h
  refine JLo (BL m) [64,65] O .sct ⟨Ua,Ua,ø⟩ (fun hc=>Gu (args:=[.agg [LT 1 (LT 1 I64) d.Stacks,I64 d.Height],.agg [LS 1 (E1) y.Stacks,I64 y.Height]]) O (G14 d y m (H6 hc a9)) H7b ⟨O,O,O,O,ø⟩) O (JLh (BL ((((b.1==a.1)&&(decide (b.2=a.2)))&&j)&&m)) (Yy O O O O) O (JLm (BL ((((b.1==a.1)&&(decide (b.2=a.2)))&&j)&&m)) O (JLo (LT 1 I64 k) [] O .sct ø (fun hc=>G3 O O) O (JLo (E1 order) [] O .sct ø (fun hc=>G3 O O) O ?_))))
  obtain⟨n,b0,h⟩:=Gd h
  refine JLo (BL n) [69,70] O .sct ⟨Ua,Ua,ø⟩ (fun hc=>Gu (args:=[LT 1 I64 k,E1 order]) O (Yi k order n (H6 hc b0)) H08 ⟨O,O,O,O,ø⟩) O (JLh (BL (((((b.1==a.1)&&(decide (b.2=a.2)))&&j)&&m)&&n)) (Yy O O O O) O (JLm (BL (((((b.1==a.1)&&(decide (b.2=a.2)))&&j)&&m)&&n)) O (G6 (a7 (H0 (fin1 BL h))))))

def Rg (F:Nat) (y:Gh) (order:List Int):Option Bool:=
 bnd (R5 y) fun f=>
 bnd (Jq order) fun j=>
 bnd (Zk (Gh.mk (f.Stacks.1.map Prod.fst) f.Height) j.1) fun a=>
 bnd (R1 F (Gs.mk y.Stacks y.Height) order) fun b=>
 bnd (Zj (Gh.mk (f.Stacks.1.map Prod.fst) f.Height) j.1) fun c=>
 bnd (R4 F (Gs.mk y.Stacks y.Height) order) fun d=>
 bnd (Q0 F (Gh.mk (f.Stacks.1.map Prod.fst) f.Height) j.1) fun g=>
 bnd (He F (Gs.mk y.Stacks y.Height) order) fun h=>
 bnd (bif ((a.1==b.1)&&(decide (a.2=b.2))) then Q3 c.1 d.1 else some default) fun e=>
 bnd (bif ((((a.1==b.1)&&(decide (a.2=b.2)))&&e)&&(decide (c.2=d.2))) then Q2 h.1 else some default) fun l=>
 bnd (bif ((((a.1==b.1)&&(decide (a.2=b.2)))&&e)&&(decide (c.2=d.2))) then Jv g.1 l else some default) fun i=>
 bnd (bif ((((((a.1==b.1)&&(decide (a.2=b.2)))&&e)&&(decide (c.2=d.2)))&&i)&&(decide (g.2=h.2))) then Qz f y else some default) fun k=>
 bnd (bif (((((((a.1==b.1)&&(decide (a.2=b.2)))&&e)&&(decide (c.2=d.2)))&&i)&&(decide (g.2=h.2)))&&k) then Jt j order else some default) fun m=>
 some ((((((((a.1==b.1)&&(decide (a.2=b.2)))&&e)&&(decide (c.2=d.2)))&&i)&&(decide (g.2=h.2)))&&k)&&m)
theorem Gae (F:Nat) (y:Gh) (order:List Int) (r:Bool) (h:Rg F y order=some r):Pure E8 4 [.agg [LS 1 (E1) y.Stacks,I64 y.Height],E1 order] (·=BL r):=by
 unfold Rg at h
 refine Hj [.tmp 4] Tryz.func4 O O (Jr fun a8=>(JLh (.ptr 1007 0) (Qw (cs:=[LS 1 (E1) y.Stacks,I64 y.Height]) 1007 O O O O O) O (JLm (BL false) O (G6 (a8 (H7 [(1,E1 order),(2,.dptr [LS 1 (E1) y.Stacks,I64 y.Height])] [] 1007 rfl rfl rfl ø rfl (by exact⟨.conv (.same rfl),.ptr,ø⟩) (Jr fun a9=>(JLh (.agg [LS 1 (E1) y.Stacks,I64 y.Height]) (Gt Hf O O O) O ?_))))))))
 obtain⟨c,b0,h⟩:=Gd h
 refine JLh (.agg [LT 1 (LT 1 I64) c.Stacks,I64 c.Height]) (Gu O (G27 y c b0) H7d ⟨O,O,ø⟩) O (JLm (E1 order) O ?_)
 obtain⟨l,b1,h⟩:=Gd h
 refine JLh (LT 1 I64 l) (Gu O (Yh order l b1) H09 ⟨O,O,ø⟩) O (JLh (.ptr 1008 0) (Ji 1008 2 Zx O O) O (Jb (u:=.junk) (Hu (u:=.agg [LT 1 (LT 1 I64) c.Stacks,I64 c.Height]) (ds:=[LT 1 (LT 1 I64) c.Stacks,I64 c.Height]) Zn O O O O O O O O) (JLm (LT 1 I64 l) O (G6 (a9 (fzQ [(1,E1 order),(2,.dptr [LS 1 (E1) y.Stacks,I64 y.Height]),(5,.dptr [LT 1 (LT 1 I64) c.Stacks,I64 c.Height]),(6,LT 1 I64 l)] [] 1008 rfl rfl rfl ø rfl ?_))))))
 refine Jr fun b2=>(JLh (.agg [LS 1 (E1) y.Stacks,I64 y.Height]) (Gt Hf O O O) O (JLh (.ptr 1009 0) (Ji 1009 2 Yt O O) O (Jb (u:=.junk) (Hu (u:=.agg [LS 1 (E1) y.Stacks,I64 y.Height]) (ds:=[LS 1 (E1) y.Stacks,I64 y.Height]) Qc O O O O O O O O) (G6 (b2 (fzQ [(1,E1 order),(2,.dptr [LS 1 (E1) y.Stacks,I64 y.Height]),(5,.dptr [LT 1 (LT 1 I64) c.Stacks,I64 c.Height]),(6,LT 1 I64 l),(7,.dptr [LS 1 (E1) y.Stacks,I64 y.Height])] [] 1009 rfl rfl rfl ø rfl ?_))))))
 refine Jr fun b3=>(JLh (.agg [LS 1 (E1) (c.Stacks.1.map Prod.fst),I64 c.Height]) (Gn.cv (Cv.aggL (cs:=[LT 1 (LT 1 I64) c.Stacks,I64 c.Height]) ⟨Cv.lstM (f:=(LT 1 I64)) (g:=(E1)) Prod.fst (fun x=>⟨Cv.lst0 x,ø⟩) c.Stacks,.same,ø⟩) (Gt Hf O O O)) O (JLh (E1 l.1) (Gn.cv (Cv.lst0 l) (G3 O O)) O ?_))
 obtain⟨a,b4,h⟩:=Gd h
 refine JLh (.tup [BL a.1,I64 a.2]) (Gu O (H90 (Gh.mk (c.Stacks.1.map Prod.fst) c.Height) l.1 a b4) Q1f ⟨O,O,O,O,ø⟩) O (JLm (.tup [BL a.1,I64 a.2]) O (JLh (BL a.1) (Gw O O O) O (JLh (I64 a.2) (Gw O O O) O (JLm (BL a.1) O (JLm (I64 a.2) O (G6 (b3 (Jr fun b5=>(JLh (.agg [LS 1 (E1) y.Stacks,I64 y.Height]) (Gt Hg O O O) O (JLm (E1 order) O ?_))))))))))
 obtain⟨b,b6,h⟩:=Gd h
 refine JLh (.tup [BL b.1,I64 b.2]) (Gu O (Gcd F (Gs.mk y.Stacks y.Height) order b b6) Q1e ⟨O,O,O,O,ø⟩) O (JLm (.tup [BL b.1,I64 b.2]) O (JLh (BL b.1) (Gw O O O) O (JLh (I64 b.2) (Gw O O O) O (JLm (BL b.1) O (JLm (I64 b.2) O (G6 (b5 (Jr fun q=>(JLh (.agg [LS 1 (E1) (c.Stacks.1.map Prod.fst),I64 c.Height]) (Gn.cv (Cv.aggL (cs:=[LT 1 (LT 1 I64) c.Stacks,I64 c.Height]) ⟨Cv.lstM (f:=(LT 1 I64)) (g:=(E1)) Prod.fst (fun x=>⟨Cv.lst0 x,ø⟩) c.Stacks,.same,ø⟩) (Gt Hf O O O)) O (JLh (E1 l.1) (Gn.cv (Cv.lst0 l) (G3 O O)) O ?_))))))))))
 obtain⟨d,s,h⟩:=Gd h
 refine JLh (.tup [E1 d.1,I64 d.2]) (Gu O (H23 (Gh.mk (c.Stacks.1.map Prod.fst) c.Height) l.1 d s) J11 ⟨O,O,O,O,ø⟩) O (JLm (.tup [E1 d.1,I64 d.2]) O (JLh (E1 d.1) (Gw O O O) O (JLh (I64 d.2) (Gw O O O) O (JLm (E1 d.1) O (JLm (I64 d.2) O (G6 (q (Jr fun t=>(JLh (.agg [LS 1 (E1) y.Stacks,I64 y.Height]) (Gt Hg O O O) O (JLm (E1 order) O ?_))))))))))
 obtain⟨e,v,h⟩:=Gd h
 refine JLh (.tup [E1 e.1,I64 e.2]) (Gu O (G79 F (Gs.mk y.Stacks y.Height) order e v) J10 ⟨O,O,O,O,ø⟩) O (JLm (.tup [E1 e.1,I64 e.2]) O (JLh (E1 e.1) (Gw O O O) O (JLh (I64 e.2) (Gw O O O) O (JLm (E1 e.1) O (JLm (I64 e.2) O (G6 (t (Jr fun w=>(JLh (.agg [LS 1 (E1) (c.Stacks.1.map Prod.fst),I64 c.Height]) (Gn.cv (Cv.aggL (cs:=[LT 1 (LT 1 I64) c.Stacks,I64 c.Height]) ⟨Cv.lstM (f:=(LT 1 I64)) (g:=(E1)) Prod.fst (fun x=>⟨Cv.lst0 x,ø⟩) c.Stacks,.same,ø⟩) (Gt Hf O O O)) O (JLh (E1 l.1) (Gn.cv (Cv.lst0 l) (G3 O O)) O ?_))))))))))
 obtain⟨i,z,h⟩:=Gd h
 refine JLh (.tup [E2 i.1,I64 i.2]) (Gu O (Z9 F (Gh.mk (c.Stacks.1.map Prod.fst) c.Height) l.1 i z) Gb9 ⟨O,O,O,O,ø⟩) O (JLm (.tup [E2 i.1,I64 i.2]) O (JLh (E2 i.1) (Gw O O O) O (JLh (I64 i.2) (Gw O O O) O (JLm (E2 i.1) O (JLm (I64 i.2) O (G6 (w (Jr fun a0=>(JLh (.agg [LS 1 (E1) y.Stacks,I64 y.Height]) (Gt Hg O O O) O (JLm (E1 order) O ?_))))))))))
 obtain⟨j,a1,h⟩:=Gd h
 refine JLh (.tup [E3 j.1,I64 j.2]) (Gu O (G3f F (Gs.mk y.Stacks y.Height) order j a1) J61 ⟨O,O,O,O,ø⟩) O (JLm (.tup [E3 j.1,I64 j.2]) O (JLh (E3 j.1) (Gw O O O) O (JLh (I64 j.2) (Gw O O O) O (JLm (E3 j.1) O (JLm (I64 j.2) O (G6 (a0 ?_)))))))
 refine Jr fun a2=>(JLm (BL a.1) O (JLm (BL b.1) O (JLh (BL (a.1==b.1)) (Jf3 J62 O O O) O (JLm (BL (a.1==b.1)) O (JLo (I64 a.2) [] O .sct ø (fun hc=>G3 O O) O (JLo (I64 b.2) [] O .sct ø (fun hc=>G3 O O) O (JLo (BL (decide (a.2=b.2))) [65,66] O .sct ⟨Ua,Ua,ø⟩ (fun hc=>Yx O O O) O (JLh (BL ((a.1==b.1)&&(decide (a.2=b.2)))) (Yy O O O O) O (JLm (BL ((a.1==b.1)&&(decide (a.2=b.2)))) O (JLo (E1 d.1) [] O .sct ø (fun hc=>G3 O O) O (JLo (E1 e.1) [] O .sct ø (fun hc=>G3 O O) O ?_)))))))))))
 obtain⟨k,a3,h⟩:=Gd h
 refine JLo (BL k) [70,71] O .sct ⟨Ua,Ua,ø⟩ (fun hc=>Gu (args:=[E1 d.1,E1 e.1]) O (Zw d.1 e.1 k (H6 hc a3)) H7c ⟨O,O,O,O,ø⟩) O (JLh (BL (((a.1==b.1)&&(decide (a.2=b.2)))&&k)) (Yy O O O O) O (JLm (BL (((a.1==b.1)&&(decide (a.2=b.2)))&&k)) O (JLo (I64 d.2) [] O .sct ø (fun hc=>G3 O O) O (JLo (I64 e.2) [] O .sct ø (fun hc=>G3 O O) O (JLo (BL (decide (d.2=e.2))) [75,76] O .sct ⟨Ua,Ua,ø⟩ (fun hc=>Yx O O O) O (JLh (BL ((((a.1==b.1)&&(decide (a.2=b.2)))&&k)&&(decide (d.2=e.2)))) (Yy O O O O) O (JLm (BL ((((a.1==b.1)&&(decide (a.2=b.2)))&&k)&&(decide (d.2=e.2)))) O (JLo (E2 i.1) [] O .sct ø (fun hc=>G3 O O) O (JLo (E3 j.1) [] O .sct ø (fun hc=>G3 O O) O ?_)))))))))
 obtain⟨o,a4,h⟩:=Gd h
 refine JLo (E2 o) [81] O .sct ⟨Ua,ø⟩ (fun hc=>Gu (args:=[E3 j.1]) O (G69 j.1 o (H6 hc a4)) Hc5 ⟨O,O,ø⟩) O ?_
 obtain⟨m,a5,h⟩:=Gd h
 refine JLo (BL m) [80,82] O .sct ⟨Ua,Ua,ø⟩ (fun hc=>Gu (args:=[E2 i.1,E2 o]) O (R2 i.1 o m (H6 hc a5)) G84 ⟨O,O,O,O,ø⟩) O (JLh (BL (((((a.1==b.1)&&(decide (a.2=b.2)))&&k)&&(decide (d.2=e.2)))&&m)) (Yy O O O O) O (JLm (BL (((((a.1==b.1)&&(decide (a.2=b.2)))&&k)&&(decide (d.2=e.2)))&&m)) O (JLo (I64 i.2) [] O .sct ø (fun hc=>G3 O O) O (JLo (I64 j.2) [] O .sct ø (fun hc=>G3 O O) O (JLo (BL (decide (i.2=j.2))) [86,87] O .sct ⟨Ua,Ua,ø⟩ (fun hc=>Yx O O O) O (JLh (BL ((((((a.1==b.1)&&(decide (a.2=b.2)))&&k)&&(decide (d.2=e.2)))&&m)&&(decide (i.2=j.2)))) (Yy O O O O) O (JLm (BL ((((((a.1==b.1)&&(decide (a.2=b.2)))&&k)&&(decide (d.2=e.2)))&&m)&&(decide (i.2=j.2)))) O (JLo (.agg [LT 1 (LT 1 I64) c.Stacks,I64 c.Height]) [] O .sct ø (fun hc=>Gt Hf O O O) O (JLo (.agg [LS 1 (E1) y.Stacks,I64 y.Height]) [] O .sct ø (fun hc=>Gt Hf O O O) O ?_)))))))))
 obtain⟨n,a6,h⟩:=Gd h
 refine JLo (BL n) [91,92] O .sct ⟨Ua,Ua,ø⟩ (fun hc=>Gu (args:=[.agg [LT 1 (LT 1 I64) c.Stacks,I64 c.Height],.agg [LS 1 (E1) y.Stacks,I64 y.Height]]) O (G14 c y n (H6 hc a6)) H7b ⟨O,O,O,O,ø⟩) O (JLh (BL (((((((a.1==b.1)&&(decide (a.2=b.2)))&&k)&&(decide (d.2=e.2)))&&m)&&(decide (i.2=j.2)))&&n)) (Yy O O O O) O (JLm (BL (((((((a.1==b.1)&&(decide (a.2=b.2)))&&k)&&(decide (d.2=e.2)))&&m)&&(decide (i.2=j.2)))&&n)) O (JLo (LT 1 I64 l) [] O .sct ø (fun hc=>G3 O O) O (JLo (E1 order) [] O .sct ø (fun hc=>G3 O O) O ?_))))
 obtain⟨p,a7,h⟩:=Gd h
 refine JLo (BL p) [96,97] O .sct ⟨Ua,Ua,ø⟩ (fun hc=>Gu (args:=[LT 1 I64 l,E1 order]) O (Yi l order p (H6 hc a7)) H08 ⟨O,O,O,O,ø⟩) O (JLh (BL ((((((((a.1==b.1)&&(decide (a.2=b.2)))&&k)&&(decide (d.2=e.2)))&&m)&&(decide (i.2=j.2)))&&n)&&p)) (Yy O O O O) O (JLm (BL ((((((((a.1==b.1)&&(decide (a.2=b.2)))&&k)&&(decide (d.2=e.2)))&&m)&&(decide (i.2=j.2)))&&n)&&p)) O (G6 (a2 (H0 (fin1 BL h))))))


theorem Gfb (l:List G7) (r:(List G2)) (h:Q2 l=some r):Jz E8 7 [E3 l] [] (fun av L'=>av=OW 1015 2 G2.av r∧L'=[(1015,.spare 35 2 r.length r.length)]):=by
 unfold Q2 at h
 refine G0c [] [.tmp 2] Tryz.func7 O O (H6f O) (Jr fun t=>(JLh (E2 ([]:List G2)) (Jo 2 O O) O (G6 (t (Jr fun u=>(JLh (OW 1015 2 G2.av ([]:List G2)) (Ga2 1015 35 2 O O O) O (G6 (u (Js fun v=>Jr fun w=>(JLm (I64 0) O (G6 (w (Gf ?_)))))))))))))
 obtain⟨x,i,j,g,h⟩:=J7 h
 refine Ha (fun c (a:(List G2))=>each x i (List.drop c l) c a=some r) (fun c a=>[(0,E3 l),(3,OW 1015 2 G2.av a),(4,E7 c)]) (fun c a=>[(1015,.spare 35 2 a.length a.length)]) (fun c=>l.length - c) 0 [] h ⟨(.sm O O),⟨⟨_,O,.same⟩,ø⟩,O⟩ ?_
 clear h
 intro c a d a2 z
 refine Js fun k=>Jr fun m=>(JLm (E7 c) O (JLm (E3 l) O (JLl Rk O O O fun a0=>(JLh (BL (decide ((c:Int) < (l.length:Int)))) (J2 O O O) O (G6 (m (Gi O (fun hb=>?_) (fun hb=>?_))))))))
 ·
  have e:=Jp hb
  obtain⟨b,a1,n,o,h⟩:=Hw d e
  replace h:=Yw j h
  refine Gk (k (Js fun p=>Gf (G1 (JLm (OW 1015 2 G2.av a) O (JLm (E3 l) O (JLm (E7 c) O (JLh (.dptr [I64 b.From,I64 b.To]) (Gz (f:=G7.av) (xs:=l) (y:=b) O O O Rk n O) O (JLh (.agg [I64 b.From,I64 b.To]) (Gt G10 O O O) O (JLh (E2 [(G2.mk b.From b.To)]) (H4 (xs:=[.agg [I64 b.From,I64 b.To]]) O ⟨O,O,ø⟩ Hk G1a O O O O) O ?_)))))))))
  obtain⟨q,h⟩:=Ho h
  refine JLh (OW 1015 2 G2.av (a++[(G2.mk b.From b.To)])) (R3 (f:=G2.av) (xs:=a) (ys:=[(G2.mk b.From b.To)]) O O O O Hk G21 q (fun _=>O) (.inl O) O) O (JLm (OW 1015 2 G2.av (a++[(G2.mk b.From b.To)])) O (G6 (p (G1 (JLm (E7 c) O (JLh (I64 ((c+1:Nat):Int)) (Hz (Hi e a0) O O O) O (JLm (I64 ((c+1:Nat):Int)) O (G6 (z _ _ (c+1) (a++[(G2.mk b.From b.To)]) (app1 o h) (by omega) ⟨(.sm O O),⟨⟨_,rfl,.same⟩,ø⟩,rfl⟩)))))))))
 ·
  have h:=app1 g (Hx d (Hc hb))
  refine Hd (v (Jr fun s=>(JLm (OW 1015 2 G2.av a) O (JLm (OW 1015 2 G2.av a) O (G6 (s (H0 ?_)))))))
  obtain rfl:=Ez h
  exact⟨[OW 1015 2 G2.av a],[(1015,.spare 35 2 a.length a.length)],⟨⟨_,O,.same⟩,ø⟩,O,⟨⟨_,O,.conv (.same O)⟩,ø⟩,O,O⟩
end
end Go.Proofs.YtokjlondbjdlfaaGreat
