/- Walks of functions. -/
import Derived.Test.YtokjlondbjdlfaaXEa
set_option maxRecDepth 100000
set_option maxHeartbeats 1000000
set_option linter.unusedVariables false
set_option linter.unusedSimpArgs false
namespace Go.Proofs.Ytokjlondbjdlfaa
open Go.RowKit
noncomputable section
open XAF
open XBF
open XCF
open XDF
open XEF

def Q2 (F:Nat) (y:Gp) (order:List Int) (from_:Int) (box:Int):Option Int:=
 chk ((y.Stacks.length:Int) - 1) fun l=>
 loop (fun f (a:Int×Int)=>
  bif decide (0≤a.2) then
  (jp (fun d=>
    R6 y.Stacks a.2 fun g=>
    bnd (Qy g order) fun b=>
    bnd (bif decide (a.2≠from_) then R6 y.Stacks a.2 some else some default) fun c=>
    bnd (bif ((decide (a.2≠from_))&&(decide ((c.length:Int) < y.Height))) then J7 order box else some default) fun e=>
    bnd (bif ((((decide (a.2≠from_))&&(decide ((c.length:Int) < y.Height)))&&(decide (e≤b)))&&!(decide (a.1 < 0))) then R6 y.Stacks a.1 some else some default) fun h=>
    bnd (bif ((((decide (a.2≠from_))&&(decide ((c.length:Int) < y.Height)))&&(decide (e≤b)))&&!(decide (a.1 < 0))) then Qy h order else some default) fun i=>
    bif ((((decide (a.2≠from_))&&(decide ((c.length:Int) < y.Height)))&&(decide (e≤b)))&&((decide (a.1 < 0))||(decide (b≤i)))) then
    (d a.2)
    else
    (d a.1)) fun(j:Int)=>
   chk (a.2 - 1) fun k=>
   f (j,k))
  else
  (some a.1)) F ((-1),l)
theorem Gd0 (F:Nat) (y:Gp) (order:List Int) (from_:Int) (box:Int) (r:Int) (h:Q2 F y order from_ box=some r):Pure E8 94 [.agg [LS 1 (E1) y.Stacks,I64 y.Height],E1 order,I64 from_,I64 box] (·=I64 r):=by
 unfold Q2 at h
 refine Hb [.tmp 8] Try.func94 O O (Jr fun a7=>(JLh (.ptr 1099 0) (Q9 (cs:=[LS 1 (E1) y.Stacks,I64 y.Height]) 1099 O O O O O) O (JLm (I64 0) O (G6 (a7 (fzQ [(1,E1 order),(2,I64 from_),(3,I64 box),(4,.dptr [LS 1 (E1) y.Stacks,I64 y.Height])] [] 1099 rfl rfl rfl ø rfl (Jr fun a8=>(JLm (I64 (-1)) O (G6 (a8 (Js fun a9=>Jr fun b0=>(JLh (.dptr [LS 1 (E1) y.Stacks,I64 y.Height]) (Gz H2 O O O) O (JLh (LS 1 (E1) y.Stacks) (Gm Gq O O O) O (JLl Gc O O O fun b5=>?_))))))))))))))
 obtain⟨n,b1,h⟩:=Jh h
 refine JLh (I64 n) (Zv b1 O O O) O (JLm (I64 n) O (G6 (b0 (Gg ?_))))
 obtain⟨b2,o,h⟩:=G2e h
 refine H9 (fun e (a:Int×Int)=>loop b2 e a=some r) (fun e a=>[(1,E1 order),(2,I64 from_),(3,I64 box),(4,.dptr [LS 1 (E1) y.Stacks,I64 y.Height]),(9,I64 a.1),(10,I64 a.2)]) (fun e a=>[]) (fun e=>e) F ((-1),n) h ⟨(.sm O O),ø,rfl⟩ ?_
 clear h
 intro e a p b7 b3
 obtain⟨b4,b6,hm_29,q,h⟩:=G00 p
 replace h:=Hb2 o h
 refine Js fun s=>Jr fun t=>(JLm (I64 a.2) O (JLh (BL (decide (0≤a.2))) (G53 O O O) O (G6 (t (JCc O h (fun h hb=>?_) (fun h hb=>?_))))))
 ·
  refine Gk (s ?_)
  obtain⟨u,m,h⟩:=G0e h
  refine Zc (fun g:Int=>u g=some r) (fun g=>[(1,E1 order),(2,I64 from_),(3,I64 box),(4,.dptr [LS 1 (E1) y.Stacks,I64 y.Height]),(9,I64 g),(10,I64 a.2)]) (fun g=>[]) (fun Kj32 ej32=>?_) ?_
  ·
   refine Gg (Jr fun v=>(JLh (.dptr [LS 1 (E1) y.Stacks,I64 y.Height]) (Gz H2 O O O) O (JLh (LS 1 (E1) y.Stacks) (Gm Gq O O O) O (JLm (I64 a.2) O ?_))))
   obtain⟨b8,k,w,x,h⟩:=Rb h
   refine JLh (.dptr [E1 k]) (H0 (f:=(E1)) (xs:=y.Stacks) (y:=k) O O O Gc x w) O (JLh (E1 k) (Gm H4 O O O) O (JLm (E1 order) O ?_))
   obtain⟨b,z,h⟩:=Gd h
   refine JLh (I64 b) (Gt O (G3b k order b z) Hbe ⟨O,O,O,O,ø⟩) O (JLm (I64 b) O (G6 (v (Js fun a0=>?_))))
   obtain⟨c,a1,h⟩:=Gd h
   obtain⟨d,a2,h⟩:=Gd h
   obtain⟨i,a3,h⟩:=Gd h
   obtain⟨j,a4,h⟩:=Gd h
   refine JC_d0 Jj (by kernel_rfl) (Dq (I64 a.2) (G2 O O) O (Dq (I64 from_) (G2 O O) O (Dq (BL (decide (a.2≠from_))) (G18 O O O) O (Dq (BL (decide (a.2≠from_))) (G2 O O) O (Do (.dptr [LS 1 (E1) y.Stacks,I64 y.Height]) [] O .sct ø (fun hc=>Gz H2 O O O) O (Do (LS 1 (E1) y.Stacks) [31] O .sct ⟨Ua,ø⟩ (fun hc=>Gm Gq O O O) O (Do (I64 a.2) [] O .sct ø (fun hc=>G2 O O) O (Do (.dptr [E1 c]) [32,33] O .sct ⟨Ua,Ua,ø⟩ (fun hc=>(match G4e (H6 hc a1) with | ⟨_,hm_,hy_⟩=>H0 (f:=(E1)) (xs:=y.Stacks) (y:=c) O O O Gc hy_ hm_)) O (Do (E1 c) [34] O .sct ⟨Ua,ø⟩ (fun hc=>Gm H4 O O O) O (Do (E7 c.length) [35] O .sct ⟨Ua,ø⟩ (fun hc=>Qe (f:=I64) (xs:=c) G7 O O) O (Do (.dptr [I64 y.Height]) [] O .sct ø (fun hc=>Gz G19 O O O) O (Do (I64 y.Height) [37] O .sct ⟨Ua,ø⟩ (fun hc=>Gm Gi O O O) O (Do (BL (decide ((c.length:Int) < y.Height))) [36,38] O .sct ⟨Ua,Ua,ø⟩ (fun hc=>Hz O O O) O ?_)))))))))))))
   refine Dq (BL ((decide (a.2≠from_))&&(decide ((c.length:Int) < y.Height)))) (Yn O O O O) O (Dq (BL ((decide (a.2≠from_))&&(decide ((c.length:Int) < y.Height)))) (G2 O O) O (Do (I64 b) [] O .sct ø (fun hc=>G2 O O) O (Do (E1 order) [] O .sct ø (fun hc=>G2 O O) O (Do (I64 box) [] O .sct ø (fun hc=>G2 O O) O (Do (I64 d) [43,44] O .sct ⟨Ua,Ua,ø⟩ (fun hc=>Gt (args:=[E1 order,I64 box]) O (Jc order box d (H6 hc a2)) Zs ⟨O,O,O,O,ø⟩) O (Do (BL (decide (d≤b))) [42,45] O .sct ⟨Ua,Ua,ø⟩ (fun hc=>G53 O O O) O (Dq (BL (((decide (a.2≠from_))&&(decide ((c.length:Int) < y.Height)))&&(decide (d≤b)))) (Yn O O O O) O (Dq (BL (((decide (a.2≠from_))&&(decide ((c.length:Int) < y.Height)))&&(decide (d≤b)))) (G2 O O) O (Do (I64 a.1) [] O .sct ø (fun hc=>G2 O O) O (Do (BL (decide (a.1 < 0))) [49] O .sct ⟨Ua,ø⟩ (fun hc=>Hz O O O) O (Do (BL (decide (a.1 < 0))) [50] O .sct ⟨Ua,ø⟩ (fun hc=>G2 O O) O (Do (I64 b) [] O .optf ø (fun hc=>G2 O O) O (Do (.dptr [LS 1 (E1) y.Stacks,I64 y.Height]) [] O .optf ø (fun hc=>Gz H2 O O O) O ?_)))))))))))))
   refine Do (LS 1 (E1) y.Stacks) [53] O .optf ⟨Ua,ø⟩ (fun hc=>Gm Gq O O O) O (Do (I64 a.1) [] O .optf ø (fun hc=>G2 O O) O (Do (.dptr [E1 i]) [54,55] O .optf ⟨Ua,Ua,ø⟩ (fun hc=>(match G4e (H6 hc a3) with | ⟨_,hm_,hy_⟩=>H0 (f:=(E1)) (xs:=y.Stacks) (y:=i) O O O Gc hy_ hm_)) O (Do (E1 i) [56] O .optf ⟨Ua,ø⟩ (fun hc=>Gm H4 O O O) O (Do (E1 order) [] O .optf ø (fun hc=>G2 O O) O (Do (I64 j) [57,58] O .optf ⟨Ua,Ua,ø⟩ (fun hc=>Gt (args:=[E1 i,E1 order]) O (G3b i order j (H6 hc a4)) Hbe ⟨O,O,O,O,ø⟩) O (Do (BL (decide (b≤j))) [52,59] O .optf ⟨Ua,Ua,ø⟩ (fun hc=>Q55 O O O) O (Dg (.opt (((decide (a.2≠from_))&&(decide ((c.length:Int) < y.Height)))&&(decide (d≤b))) (BL ((decide (a.1 < 0))||(decide (b≤j))))) (Hd [(51,BL (decide (a.1 < 0))),(60,_)] O O O .sct ⟨.all id,.part,ø⟩ (fun hc=>Ze O O O O) O) O (Dq (BL ((((decide (a.2≠from_))&&(decide ((c.length:Int) < y.Height)))&&(decide (d≤b)))&&((decide (a.1 < 0))||(decide (b≤j))))) (Yn O O O O) O (Dnil ?_)))))))))
   refine a0 (JCc O h (fun h hb=>?_) (fun h hb=>?_))
   ·
    refine G1 (JLm (I64 a.2) O (JLm (I64 a.2) O (G6 (ej32 _ _ a.2 h ⟨(.sm O O),ø,rfl⟩))))
   ·
    refine Gk (ej32 _ _ a.1 h ⟨(.sm O O),ø,rfl⟩)
  ·intro g h
   replace h:=app1 m h
   refine G1 (JLm (I64 a.2) O ?_)
   obtain⟨l,a5,h⟩:=Jh h
   refine JLh (I64 l) (Zv a5 O O O) O (JLm (I64 l) O (G6 (b3 _ _ b4 (g,l) (app1 q h) (by omega) ⟨(.sm O O),ø,rfl⟩)))
 ·
  refine Hg (a9 (Jr fun a6=>(JLm (I64 a.1) O (JLm (I64 a.1) O (G6 (a6 (H1 (fin1 I64 h))))))))

def R8 (F:Nat) (y:Gp) (order:List Int):Option (G8×Bool):=
 bnd (J0 F y order) fun k=>
 each (fun c l (a:Int×Int×Int) h=>
  jp (fun d=>
   bnd (R9 F y c) fun b=>
   R6 y.Stacks b.1 fun i=>
   chk ((i.length:Int) - 1) fun f=>
   bnd (bif ((!(decide (b.2.1≠f)))&&(decide (0 < a.1))) then Rt order c a.1 else some default) fun j=>
   bif ((decide (b.2.1≠f))||((decide (0 < a.1))&&(!j))) then
   (d (a.1,a.2.1,a.2.2))
   else
   (bnd (Q2 F y order b.1 c) fun g=>
    bif decide (0≤g) then
    (d (c,b.1,g))
    else
    (d (a.1,a.2.1,a.2.2)))) fun(e:Int×Int×Int)=>
  h (e.1,e.2.1,e.2.2))
 (fun(a:Int×Int×Int)=>
  some ((G8.mk a.2.1 a.2.2),decide (0 < a.1))) k 0 (0,0,0)
theorem Gdd (F:Nat) (y:Gp) (order:List Int) (r:G8×Bool) (h:R8 F y order=some r):Pure E8 75 [.agg [LS 1 (E1) y.Stacks,I64 y.Height],E1 order] (·=.tup [.agg [I64 r.1.From,I64 r.1.To],BL r.2]):=by
 unfold R8 at h
 refine Hb [.cell 4 64,.tmp 5] Try.func75 O O (Jr fun b7=>(JLh (.ptr 1081 0) (Q9 (cs:=[LS 1 (E1) y.Stacks,I64 y.Height]) 1081 O O O O O) O (JLh (.ptr 1082 0) (Gb3 1082 [I64 0,I64 0] [E0,E0] G9f (zzQ O) O O) O (JLm (BL false) O (G6 (b7 (H5 [(1,E1 order),(2,.dptr [LS 1 (E1) y.Stacks,I64 y.Height]),(4,.ptr 1082 0)] [(1082,.box 64 [I64 0,I64 0])] 1081 rfl rfl rfl ⟨⟨_,rfl,.boxEq rfl rfl⟩,ø⟩ rfl (by exact⟨.conv (.same rfl),.ptr,.conv (.same rfl),ø⟩) (Jr fun b8=>(JLh (.agg [LS 1 (E1) y.Stacks,I64 y.Height]) (Gv He O O O) O (JLm (E1 order) O ?_))))))))))
 obtain⟨j,b9,h⟩:=Gd h
 refine JLh (E1 j) (Gt O (Yf F y order j b9) Ga3 ⟨O,O,O,O,ø⟩) O (JLm (E1 j) O (G6 (b8 (Jr fun c0=>(JLm (I64 0) O (G6 (c0 (Jr fun c1=>(JLh (.ptr 1083 0) (Gb3 1083 [I64 0,I64 0] [E0,E0] G9f (zzQ O) O O) O (G6 (c1 (Js fun c2=>Jr fun c3=>(JLm (I64 0) O (G6 (c3 (Gg ?_))))))))))))))))
 obtain⟨b4,t,v,q,h⟩:=J4 h
 refine H9 (fun d (a:Int×Int×Int)=>each b4 t (List.drop d j) d a=some r) (fun d a=>[(1,E1 order),(2,.dptr [LS 1 (E1) y.Stacks,I64 y.Height]),(4,.ptr 1082 0),(6,E1 j),(7,I64 a.1),(8,.ptr 1083 0),(9,E7 d)]) (fun d a=>[(1082,.box 64 [I64 0,I64 0]),(1083,.box 64 [I64 a.2.1,I64 a.2.2])]) (fun d=>j.length - d) 0 (0,0,0) h ⟨(.sm O O),⟨fbQ O (.sm O O),fbQ O (.sm O O),ø⟩,rfl⟩ ?_
 clear h
 intro d a o c5 b5
 refine Js fun w=>Jr fun x=>(JLm (E7 d) O (JLm (E1 j) O (JLl G7 O O O fun b6=>(JLh (BL (decide ((d:Int) < (j.length:Int)))) (Hz O O O) O (G6 (x (Gh O (fun hb=>?_) (fun hb=>?_))))))))
 ·
  have p:=Jq hb
  obtain⟨e,c4,l,z,h⟩:=Hp o p
  replace h:=Yo v h
  refine Gk (w ?_)
  obtain⟨a0,s,h⟩:=G0e h
  refine Zc (fun i:Int×Int×Int=>a0 i=some r) (fun i=>[(1,E1 order),(2,.dptr [LS 1 (E1) y.Stacks,I64 y.Height]),(4,.ptr 1082 0),(6,E1 j),(7,I64 i.1),(8,.ptr 1083 0),(9,E7 d)]) (fun i=>[(1082,.box 64 [I64 0,I64 0]),(1083,.box 64 [I64 i.2.1,I64 i.2.2])]) (fun Kj121 ej121=>?_) ?_
  ·
   refine Gg (Js fun a1=>Rg (l':=[(1,E1 order),(2,.dptr [LS 1 (E1) y.Stacks,I64 y.Height]),(4,.ptr 1082 0),(6,E1 j),(7,I64 a.1),(8,.ptr 1083 0),(9,E7 d)]) (L':=[(1082,.box 64 [I64 0,I64 0]),(1083,.box 64 [I64 a.2.1,I64 a.2.2])]) ⟨(.sm O O),⟨fbQ O (.sm O O),fbQ O (.sm O O),ø⟩,rfl⟩ ?_)
   obtain⟨c,a2,h⟩:=Gd h
   refine JC_d0 Jj (by kernel_rfl) (Dq (.agg [LS 1 (E1) y.Stacks,I64 y.Height]) (Gv He O O O) O (Dq (E1 j) (G2 O O) O (Dq (E7 d) (G2 O O) O (Dq (.dptr [I64 e]) (H0 (f:=I64) (xs:=j) (y:=e) O O O G7 l O) O (Dq (I64 e) (Gm Gi O O O) O (Dq (.tup [I64 c.1,I64 c.2.1,BL c.2.2]) (Gt (args:=[.agg [LS 1 (E1) y.Stacks,I64 y.Height],I64 e]) O (G50 F y e c a2) He4 ⟨O,O,O,O,ø⟩) O (Dq (.tup [I64 c.1,I64 c.2.1,BL c.2.2]) (G2 O O) O (Dq (I64 c.1) (Gu O O O) O (Dq (I64 c.2.1) (Gu O O O) O (Dq (BL c.2.2) (Gu O O O) O (Dq (I64 c.1) (G4 O O) O (Dq (I64 c.2.1) (G4 O O) O (Dq (BL c.2.2) (G4 O O) O (Dnil (a1 (Js fun a3=>?_))))))))))))))))
   refine Jr fun a4=>(JLm (I64 c.2.1) O (JLh (.dptr [LS 1 (E1) y.Stacks,I64 y.Height]) (Gz H2 O O O) O (JLh (LS 1 (E1) y.Stacks) (Gm Gq O O O) O (JLm (I64 c.1) O ?_))))
   obtain⟨c6,n,a5,a6,h⟩:=Rb h
   refine JLh (.dptr [E1 n]) (H0 (f:=(E1)) (xs:=y.Stacks) (y:=n) O O O Gc a6 a5) O (JLh (E1 n) (Gm H4 O O O) O (JLl G7 O O O fun c7=>?_))
   obtain⟨m,a7,h⟩:=Jh h
   refine JLh (I64 m) (Zv a7 O O O) O (JLh (BL (decide (c.2.1≠m))) (G18 O O O) O (JLm (BL (decide (c.2.1≠m))) O (JLo (I64 a.1) [] O .scf ø (fun hc=>G2 O O) O (JLo (BL (decide (0 < a.1))) [43] O .scf ⟨Ua,ø⟩ (fun hc=>Yk O O O) O (JLo (BL (decide (0 < a.1))) [44] O .scf ⟨Ua,ø⟩ (fun hc=>G2 O O) O (JLo (E1 order) [] O .optt ø (fun hc=>G2 O O) O (JLo (E1 j) [] O .optt ø (fun hc=>G2 O O) O (JLo (E7 d) [] O .optt ø (fun hc=>G2 O O) O (JLo (.dptr [I64 e]) [47,48] O .optt ⟨Ua,Ua,ø⟩ (fun hc=>H0 (f:=I64) (xs:=j) (y:=e) O O O G7 l O) O (JLo (I64 e) [49] O .optt ⟨Ua,ø⟩ (fun hc=>Gm Gi O O O) O (JLo (I64 a.1) [] O .optt ø (fun hc=>G2 O O) O ?_)))))))))))
   obtain⟨k,a8,h⟩:=Gd h
   refine JLo (BL k) [46,50,51] O .optt ⟨Ua,Ua,Ua,ø⟩ (fun hc=>Gt (args:=[E1 order,I64 e,I64 a.1]) O (Gd1 order e a.1 k (H6 hc a8)) Jda ⟨O,O,O,O,O,O,ø⟩) O (JLo (BL (!k)) [52] O .optt ⟨Ua,ø⟩ (fun hc=>Z6 (b:=k) O O) O (Ge (u:=BL ((decide (0 < a.1))&&(!k))) [(45,BL (decide (0 < a.1))),(53,_)] O O O .scf ⟨.all id,.part,ø⟩ (fun hc=>Yn O O O O) ?_))
   refine JLh (BL ((decide (c.2.1≠m))||((decide (0 < a.1))&&(!k)))) (Ze O O O O) O (G6 (a4 (JCc O h (fun h hb=>?_) (fun h hb=>?_))))
   ·
    refine Hg (ej121 _ _ (a.1,a.2.1,a.2.2) h ⟨(.sm O O),⟨fbQ O (.sm O O),fbQ O (.sm O O),ø⟩,rfl⟩)
   ·
    refine Gk (a3 (Js fun a9=>Rg (l':=[(1,E1 order),(2,.dptr [LS 1 (E1) y.Stacks,I64 y.Height]),(4,.ptr 1082 0),(6,E1 j),(7,I64 a.1),(8,.ptr 1083 0),(9,E7 d),(10,I64 c.1)]) (L':=[(1082,.box 64 [I64 0,I64 0]),(1083,.box 64 [I64 a.2.1,I64 a.2.2])]) ⟨(.sm O O),⟨fbQ O (.sm O O),fbQ O (.sm O O),ø⟩,rfl⟩ ?_))
    obtain⟨g,b0,h⟩:=Gd h
    refine JC_d0 Jj (by kernel_rfl) (Dq (.agg [LS 1 (E1) y.Stacks,I64 y.Height]) (Gv He O O O) O (Dq (E1 order) (G2 O O) O (Dq (I64 c.1) (G2 O O) O (Dq (E1 j) (G2 O O) O (Dq (E7 d) (G2 O O) O (Dq (.dptr [I64 e]) (H0 (f:=I64) (xs:=j) (y:=e) O O O G7 l O) O (Dq (I64 e) (Gm Gi O O O) O (Dq (I64 g) (Gt (args:=[.agg [LS 1 (E1) y.Stacks,I64 y.Height],E1 order,I64 c.1,I64 e]) O (Gd0 F y order c.1 e g b0) Jd9 ⟨O,O,O,O,O,O,O,O,ø⟩) O (Dq (I64 g) (G4 O O) O (Dnil (a9 (Jr fun b1=>(JLm (I64 g) O (JLh (BL (decide (0≤g))) (G53 O O O) O (G6 (b1 (JCc O h (fun h hb=>?_) (fun h hb=>?_))))))))))))))))))
    ·
     refine Jr fun b2=>(JLm (E1 j) O (JLm (E7 d) O (JLh (.dptr [I64 e]) (H0 (f:=I64) (xs:=j) (y:=e) O O O G7 l O) O (JLh (I64 e) (Gm Gi O O O) O (JLm (I64 e) O (G6 (b2 (G1 (JLm (I64 c.1) O (JLm (I64 g) O (JLh (.agg [I64 c.1,I64 g]) (Jo (cs:=[I64 c.1,I64 g]) [(0,1),(1,1)] [I64 0,I64 0] [E0,E0] Ge7 G9f (zzQ O) O O) O (J9 (u:=.junk) (Ho (u:=.agg [I64 c.1,I64 g]) (ds:=[I64 c.1,I64 g]) Ge6 O O O O O O O O) (G6 (ej121 _ _ (e,c.1,g) h ⟨(.sm O O),⟨fbQ O (.sm O O),fbQ O (.sm O O),ø⟩,rfl⟩))))))))))))))
    ·
     refine Gk (ej121 _ _ (a.1,a.2.1,a.2.2) h ⟨(.sm O O),⟨fbQ O (.sm O O),fbQ O (.sm O O),ø⟩,rfl⟩)
  ·intro i h
   replace h:=app1 s h
   refine G1 (JLm (E7 d) O (JLh (I64 ((d+1:Nat):Int)) (J2 (Hi p b6) O O O) O (JLm (I64 ((d+1:Nat):Int)) O (G6 (b5 _ _ (d+1) (i.1,i.2.1,i.2.2) (app1 z h) (by omega) ⟨(.sm O O),⟨fbQ O (.sm O O),fbQ O (.sm O O),ø⟩,rfl⟩)))))
 ·
  have h:=app1 q (Hq o (Ha hb))
  refine Hg (c2 (Jr fun b3=>(JLh (.agg [I64 a.2.1,I64 a.2.2]) (Jg G1a O O O O) O (JLm (I64 a.1) O (JLh (BL (decide (0 < a.1))) (Yk O O O) O (J9 (u:=.junk) (Ho (u:=.agg [I64 a.2.1,I64 a.2.2]) (ds:=[I64 a.2.1,I64 a.2.2]) Ge6 O O O O O O O O) (JLm (BL (decide (0 < a.1))) O (G6 (b3 (H5 [(4,.ptr 1082 0),(5,BL (decide (0 < a.1)))] [(1082,.box 64 [I64 a.2.1,I64 a.2.2])] 1083 rfl rfl rfl ⟨⟨_,rfl,.boxEq rfl rfl⟩,ø⟩ rfl (by exact⟨.conv (.same rfl),.conv (.same rfl),ø⟩) (H1 ?_)))))))))))
  exact⟨[.agg [I64 a.2.1,I64 a.2.2],BL (decide (0 < a.1))],[],ø,O,⟨⟨_,⟨_,_,_,_,O,O,O,.inl ⟨G1a,O⟩⟩,.conv (.same O)⟩,⟨_,O,.conv (.same O)⟩,ø⟩,O,congrArg (fun r:G8×Bool=>(.tup [.agg [I64 r.1.From,I64 r.1.To],BL r.2]:AV)) (Ey h)⟩

def J5 (F:Nat) (y:Gp) (order:List Int):Option ((List G8)×Int):=
 bnd (Q3 F y order) fun f=>
 bif (!f) then
 (some ([],2))
 else
 (loop (fun d (a:(List G8)×(List (List Int))×Int)=>
   bnd (J0 F (Gp.mk a.2.1 a.2.2) order) fun e=>
   bif decide (0 < (e.length:Int)) then
   (bnd (R8 F (Gp.mk a.2.1 a.2.2) order) fun b=>
    bif (!b.2) then
    (some ([],360))
    else
    (need (decide ((a.1.length+[b.1].length)*16≤140737488355328∧a.1.length+[b.1].length≤maxLen)) <|
     bnd (Ju F (Gp.mk a.2.1 a.2.2) b.1) fun c=>
     d ((a.1++[b.1]),c.1.Stacks,c.1.Height)))
   else
   (some (a.1,0))) F ([],y.Stacks,y.Height))
theorem Gae (F:Nat) (y:Gp) (order:List Int) (r:(List G8)×Int) (h:J5 F y order=some r):Pure E8 49 [.agg [LS 1 (E1) y.Stacks,I64 y.Height],E1 order] (·=.tup [E4 r.1,I64 r.2]):=by
 unfold J5 at h
 refine Hb [.tmp 4,.tmp 5] Try.func49 O O (Jr fun a1=>(JLh (.ptr 1054 0) (Q9 (cs:=[LS 1 (E1) y.Stacks,I64 y.Height]) 1054 O O O O O) O (JLh (E4 ([]:List G8)) (Jn 2 O O) O (JLm (I64 0) O (G6 (a1 (Js fun a2=>Jr fun a3=>(JLh (.agg [LS 1 (E1) y.Stacks,I64 y.Height]) (Jg He O O O O) O (JLm (E1 order) O ?_)))))))))
 obtain⟨i,a4,h⟩:=Gd h
 refine JLh (BL i) (Gt O (Ye F y order i a4) Geb ⟨O,O,O,O,ø⟩) O (JLh (BL (!i)) (Z6 (b:=i) O O) O (G6 (a3 (JCc O h (fun h hb=>?_) (fun h hb=>?_)))))
 ·
  refine Jr fun a5=>(JLh (E4 ([]:List G8)) (Jn 2 O O) O (JLm (I64 2) O (G6 (a5 (H5 [(4,E4 ([]:List G8)),(5,I64 2)] [] 1054 rfl rfl rfl ø rfl (by exact⟨.conv (.same rfl),.conv (.same rfl),ø⟩) (H1 (⟨[E4 ([]:List G8),I64 2],[],ø,O,⟨⟨_,O,.conv (.same O)⟩,⟨_,O,.conv (.same O)⟩,ø⟩,O,congrArg (fun r:(List G8)×Int=>(.tup [E4 r.1,I64 r.2]:AV)) (Ey h)⟩)))))))
 ·
  refine Gk (a2 (Jr fun a6=>(JLh (OW 1055 2 G8.av ([]:List G8)) (Ge3 1055 64 2 O O O) O (G6 (a6 (Js fun a7=>Gg ?_))))))
  obtain⟨a8,j,h⟩:=G2e h
  refine H9 (fun e (a:(List G8)×(List (List Int))×Int)=>loop a8 e a=some r) (fun e a=>[(1,E1 order),(2,.ptr 1054 0),(6,OW 1055 2 G8.av a.1)]) (fun e a=>[(1055,.spare 64 2 a.1.length a.1.length),(1054,.box 67 [LS 1 (E1) a.2.1,I64 a.2.2])]) (fun e=>e) F ([],y.Stacks,y.Height) h ⟨(.sm O O),⟨⟨_,O,.same⟩,⟨_,O,.boxL O (.sm O O)⟩,ø⟩,O⟩ ?_
  clear h
  intro e a k b3 a9
  obtain⟨b0,b1,hm_38,l,h⟩:=G00 k
  replace h:=Hb2 j h
  refine Js fun m=>Jr fun n=>(JLh (.agg [LS 1 (E1) a.2.1,I64 a.2.2]) (Jg He O O O O) O (JLm (E1 order) O ?_))
  obtain⟨g,o,h⟩:=Gd h
  refine JLh (E1 g) (Gt O (Yf F (Gp.mk a.2.1 a.2.2) order g o) Ga3 ⟨O,O,O,O,ø⟩) O (JLl G7 O O O fun b2=>(JLh (BL (decide (0 < (g.length:Int)))) (Yk O O O) O (G6 (n (JCc O h (fun h hb=>?_) (fun h hb=>?_))))))
  ·
   refine Gk (m (Gg (Jr fun p=>(JLh (.agg [LS 1 (E1) a.2.1,I64 a.2.2]) (Jg He O O O O) O (JLm (E1 order) O ?_)))))
   obtain⟨c,q,h⟩:=Gd h
   refine JLh (.tup [.agg [I64 c.1.From,I64 c.1.To],BL c.2]) (Gt O (Gdd F (Gp.mk a.2.1 a.2.2) order c q) Jdd ⟨O,O,O,O,ø⟩) O (JLm (.tup [.agg [I64 c.1.From,I64 c.1.To],BL c.2]) O (JLh (.agg [I64 c.1.From,I64 c.1.To]) (Gu O O O) O (JLh (BL c.2) (Gu O O O) O (JLh (.ptr 1056 0) (Ji 1056 2 G80 O O) O (J9 (u:=.junk) (Ho (u:=.agg [I64 c.1.From,I64 c.1.To]) (ds:=[I64 c.1.From,I64 c.1.To]) Ge6 O O O O O O O O) (JLm (BL c.2) O (G6 (p ?_))))))))
   refine fzQ [(1,E1 order),(2,.ptr 1054 0),(6,OW 1055 2 G8.av a.1),(7,.dptr [I64 c.1.From,I64 c.1.To]),(8,BL c.2)] [(1055,.spare 64 2 a.1.length a.1.length),(1054,.box 67 [LS 1 (E1) a.2.1,I64 a.2.2])] 1056 rfl rfl rfl ⟨⟨_,rfl,.same⟩,⟨_,rfl,.boxEq rfl rfl⟩,ø⟩ rfl (Js fun s=>Jr fun t=>(JLm (BL c.2) O (JLh (BL (!c.2)) (Z6 (b:=c.2) O O) O (G6 (t (JCc O h (fun h hb=>?_) (fun h hb=>?_)))))))
   ·
    refine Jr fun v=>(JLh (E4 ([]:List G8)) (Jn 2 O O) O (JLm (I64 360) O (G6 (v (H5 [(4,E4 ([]:List G8)),(5,I64 360)] [(1055,.spare 64 2 a.1.length a.1.length)] 1054 rfl rfl rfl ⟨⟨_,rfl,.same⟩,ø⟩ rfl (by exact⟨.conv (.same rfl),.conv (.same rfl),ø⟩) (H1 (⟨[E4 ([]:List G8),I64 360],[],ø,O,⟨⟨_,O,.conv (.same O)⟩,⟨_,O,.conv (.same O)⟩,ø⟩,O,congrArg (fun r:(List G8)×Int=>(.tup [E4 r.1,I64 r.2]:AV)) (Ey h)⟩)))))))
   ·
    refine Gk (s (Jr fun w=>(JLm (OW 1055 2 G8.av a.1) O (JLh (.agg [I64 c.1.From,I64 c.1.To]) (Gv G1a O O O) O (JLh (E4 [c.1]) (H8 (xs:=[.agg [I64 c.1.From,I64 c.1.To]]) O ⟨O,O,ø⟩ Y0 G80 O O O O) O ?_)))))
    obtain⟨x,h⟩:=J3 h
    refine JLh (OW 1055 2 G8.av (a.1++[c.1])) (Rz (f:=G8.av) (xs:=a.1) (ys:=[c.1]) O O O O Y0 H4c x (fun _=>O) (.inl O) O) O (JLm (OW 1055 2 G8.av (a.1++[c.1])) O (G6 (w (G1 (JLh (.agg [LS 1 (E1) a.2.1,I64 a.2.2]) (Jg He O O O O) O (JLh (.agg [I64 c.1.From,I64 c.1.To]) (Gv G1a O O O) O ?_))))))
    obtain⟨d,z,h⟩:=Gd h
    refine JLh (.tup [.agg [LS 1 (E1) d.1.Stacks,I64 d.1.Height],I64 d.2]) (Gt O (Yg F (Gp.mk a.2.1 a.2.2) c.1 d z) Gea ⟨O,O,O,O,ø⟩) O (JLm (.tup [.agg [LS 1 (E1) d.1.Stacks,I64 d.1.Height],I64 d.2]) O (JLh (.agg [LS 1 (E1) d.1.Stacks,I64 d.1.Height]) (Gu O O O) O (JLh (I64 d.2) (Gu O O O) O (J9 (u:=.junk) (Ho (u:=.agg [LS 1 (E1) d.1.Stacks,I64 d.1.Height]) (ds:=[LS 1 (E1) d.1.Stacks,I64 d.1.Height]) Q5 O O O O O O O O) (G6 (a9 _ _ b0 ((a.1++[c.1]),d.1.Stacks,d.1.Height) (app1 l h) (by omega) ⟨(.sm O O),⟨⟨_,rfl,.same⟩,fbQ O (.sm O O),ø⟩,rfl⟩))))))
  ·
   refine Hg (a7 (Jr fun a0=>(JLm (OW 1055 2 G8.av a.1) O (JLm (OW 1055 2 G8.av a.1) O (JLm (I64 0) O (G6 (a0 (H5 [(4,OW 1055 2 G8.av a.1),(5,I64 0)] [(1055,.spare 64 2 a.1.length a.1.length)] 1054 rfl rfl rfl ⟨⟨_,rfl,.same⟩,ø⟩ rfl (by exact⟨.conv (.same rfl),.conv (.same rfl),ø⟩) (H1 (⟨[E4 a.1,I64 0],[],ø,O,⟨⟨_,O,.conv (.list O)⟩,⟨_,O,.conv (.same O)⟩,ø⟩,O,congrArg (fun r:(List G8)×Int=>(.tup [E4 r.1,I64 r.2]:AV)) (Ey h)⟩))))))))))


theorem Gd4 (F:Nat) (y:Gp) (order:List Int) (r:(List Int)) (h:J0 F y order=some r):Jx E8 67 [.agg [LS 1 (E1) y.Stacks,I64 y.Height],E1 order] [] (fun av L'=>∃ p:Nat,av=.vec 1072 p 1 r.length∧L'=[(1072,.vec 3 1 p (r.map I64))]):=by
 unfold J0 at h
 refine G15 [] [.tmp 4] Try.func67 O O (H87 O) (Jr fun c8=>(JLh (.ptr 1070 0) (Q9 (cs:=[LS 1 (E1) y.Stacks,I64 y.Height]) 1070 O O O O O) O (JLh (.vec 1071 (([]:List Int).length) 1 (([]:List Int).length)) (H29 1071 3 1 O O O) O (G6 (c8 (H5 [(1,E1 order),(2,.dptr [LS 1 (E1) y.Stacks,I64 y.Height])] [(1071,.vec 3 1 (([]:List Int).length) (([]:List Int).map I64))] 1070 rfl rfl rfl ⟨⟨_,rfl,.vec⟩,ø⟩ rfl (by exact⟨.conv (.same rfl),.ptr,ø⟩) (Jr fun c9=>(JLh (.vec 1072 (([]:List Int).length) 1 (([]:List Int).length)) (H29 1072 3 1 O O O) O (G6 (c9 (Js fun d0=>Jr fun d1=>(JLm (I64 0) O (G6 (d1 (Gg ?_)))))))))))))))
 obtain⟨b5,d2,d3,a2,h⟩:=J4 h
 refine H9 (fun e (g:(List Int))=>each b5 d2 (List.drop e y.Stacks) e g=some r) (fun e g=>[(1,E1 order),(2,.dptr [LS 1 (E1) y.Stacks,I64 y.Height]),(5,.vec 1072 g.length 1 g.length),(6,E7 e)]) (fun e g=>[(1071,.vec 3 1 (([]:List Int).length) (([]:List Int).map I64)),(1072,.vec 3 1 g.length (g.map I64))]) (fun e=>y.Stacks.length - e) 0 [] h ⟨(.sm O O),⟨⟨_,rfl,.vec⟩,⟨_,rfl,.vec⟩,ø⟩,rfl⟩ ?_
 clear h
 intro e g a0 K5 e5
 refine Js fun d4=>Jr fun d5=>(JLm (E7 e) O (JLh (.dptr [LS 1 (E1) y.Stacks,I64 y.Height]) (Gz H2 O O O) O (JLh (LS 1 (E1) y.Stacks) (Gm Gq O O O) O (JLl Gc O O O fun a3=>(JLh (BL (decide ((e:Int) < (y.Stacks.length:Int)))) (Hz O O O) O (G6 (d5 (Gh O (fun hb=>?_) (fun hb=>?_)))))))))
 ·
  have a1:=Jq hb
  obtain⟨j,e8,o,d6,h⟩:=Hp a0 a1
  replace h:=Yo d3 h
  refine Gk (d4 (Js fun d7=>Gg (Jr fun d8=>(JLm (I64 0) O (G6 (d8 (Gg ?_)))))))
  obtain⟨d9,a4,a5,w,h⟩:=J4 h
  refine H9 (fun b (a:(List Int))=>each d9 a4 (List.drop b j) b a=some r) (fun b a=>[(1,E1 order),(2,.dptr [LS 1 (E1) y.Stacks,I64 y.Height]),(5,.vec 1072 a.length 1 a.length),(6,E7 e),(7,E7 b)]) (fun b a=>[(1071,.vec 3 1 (([]:List Int).length) (([]:List Int).map I64)),(1072,.vec 3 1 a.length (a.map I64))]) (fun b=>j.length - b) 0 g h ⟨(.sm O O),⟨⟨_,rfl,.vec⟩,⟨_,rfl,.vec⟩,ø⟩,rfl⟩ ?_
  clear h
  intro b a q e9 e0
  refine Js fun a6=>Jr fun a7=>(JLm (E7 b) O (JLh (.dptr [LS 1 (E1) y.Stacks,I64 y.Height]) (Gz H2 O O O) O (JLh (LS 1 (E1) y.Stacks) (Gm Gq O O O) O (JLm (E7 e) O (JLh (.dptr [E1 j]) (H0 (f:=(E1)) (xs:=y.Stacks) (y:=j) O O O Gc o O) O (JLh (E1 j) (Gm H4 O O O) O (JLl G7 O O O fun a8=>(JLh (BL (decide ((b:Int) < (j.length:Int)))) (Hz O O O) O (G6 (a7 (Gh O (fun hb=>?_) (fun hb=>?_))))))))))))
  ·
   have s:=Jq hb
   obtain⟨c,e6,t,a9,h⟩:=Hp q s
   replace h:=Yo a5 h
   refine Gk (a6 ?_)
   obtain⟨b0,x,h⟩:=G0e h
   refine Zc (fun k:(List Int)=>b0 k=some r) (fun k=>[(1,E1 order),(2,.dptr [LS 1 (E1) y.Stacks,I64 y.Height]),(5,.vec 1072 k.length 1 k.length),(6,E7 e),(7,E7 b)]) (fun k=>[(1071,.vec 3 1 (([]:List Int).length) (([]:List Int).map I64)),(1072,.vec 3 1 k.length (k.map I64))]) (fun Kj13 ej13=>?_) ?_
   ·
    refine Gg (Jr fun b1=>(JLm (BL false) O (G6 (b1 (Js fun b2=>Jr fun b3=>(JLm (I64 0) O (G6 (b3 (Gg ?_)))))))))
    obtain⟨b4,h⟩:=J3 h
    obtain⟨e1,b6,b7,z,h⟩:=Gbb h
    refine H9 (fun d (i:Bool)=>upto e1 b6 ((b:Int).toNat - d) d i=some r) (fun d i=>[(1,E1 order),(2,.dptr [LS 1 (E1) y.Stacks,I64 y.Height]),(5,.vec 1072 a.length 1 a.length),(6,E7 e),(7,E7 b),(8,BL i),(9,E7 d)]) (fun d i=>[(1071,.vec 3 1 (([]:List Int).length) (([]:List Int).map I64)),(1072,.vec 3 1 a.length (a.map I64))]) (fun d=>(b:Int).toNat - d) 0 false h ⟨(.sm O O),⟨⟨_,rfl,.vec⟩,⟨_,rfl,.vec⟩,ø⟩,rfl⟩ ?_
    clear h
    intro d i u f0 e2
    refine Js fun b8=>Jr fun b9=>(JLm (E7 d) O (JLm (E7 b) O (JLh (BL (decide ((d:Int) < (b:Int)))) (Hz O O O) O (G6 (b9 (Gh O (fun hb=>?_) (fun hb=>?_)))))))
    ·
     have v:=G84 hb
     obtain⟨e7,c0,h⟩:=G7d u v
     replace h:=Jb8 b7 h
     refine Gk (b8 (Js fun c1=>Gg (Rg (l':=[(1,E1 order),(2,.dptr [LS 1 (E1) y.Stacks,I64 y.Height]),(5,.vec 1072 a.length 1 a.length),(6,E7 e),(7,E7 b),(8,BL i),(9,E7 d)]) (L':=[(1071,.vec 3 1 (([]:List Int).length) (([]:List Int).map I64)),(1072,.vec 3 1 a.length (a.map I64))]) ⟨(.sm O O),⟨⟨_,rfl,.vec⟩,⟨_,rfl,.vec⟩,ø⟩,rfl⟩ ?_)))
     obtain⟨n,c2,h⟩:=Gd h
     obtain⟨l,c3,h⟩:=Gd h
     obtain⟨m,c4,h⟩:=Gd h
     refine JC_d0 Jj (by kernel_rfl) (Dq (BL i) (G2 O O) O (Dq (BL i) (G2 O O) O (Do (E1 order) [] O .scf ø (fun hc=>G2 O O) O (Do (.dptr [LS 1 (E1) y.Stacks,I64 y.Height]) [] O .scf ø (fun hc=>Gz H2 O O O) O (Do (LS 1 (E1) y.Stacks) [35] O .scf ⟨Ua,ø⟩ (fun hc=>Gm Gq O O O) O (Do (E7 e) [] O .scf ø (fun hc=>G2 O O) O (Do (.dptr [E1 j]) [36,37] O .scf ⟨Ua,Ua,ø⟩ (fun hc=>H0 (f:=(E1)) (xs:=y.Stacks) (y:=j) O O O Gc o O) O (Do (E1 j) [38] O .scf ⟨Ua,ø⟩ (fun hc=>Gm H4 O O O) O (Do (E7 d) [] O .scf ø (fun hc=>G2 O O) O (Do (.dptr [I64 n]) [39,40] O .scf ⟨Ua,Ua,ø⟩ (fun hc=>(match G4e (H6 hc c2) with | ⟨_,hm_,hy_⟩=>H0 (f:=I64) (xs:=j) (y:=n) O O O G7 hy_ hm_)) O (Do (I64 n) [41] O .scf ⟨Ua,ø⟩ (fun hc=>Gm Gi O O O) O (Do (I64 l) [34,42] O .scf ⟨Ua,Ua,ø⟩ (fun hc=>Gt (args:=[E1 order,I64 n]) O (Jc order n l (H6 hc c3)) Zs ⟨O,O,O,O,ø⟩) O (Do (E1 order) [] O .scf ø (fun hc=>G2 O O) O ?_)))))))))))))
     refine Do (.dptr [LS 1 (E1) y.Stacks,I64 y.Height]) [] O .scf ø (fun hc=>Gz H2 O O O) O (Do (LS 1 (E1) y.Stacks) [45] O .scf ⟨Ua,ø⟩ (fun hc=>Gm Gq O O O) O (Do (E7 e) [] O .scf ø (fun hc=>G2 O O) O (Do (.dptr [E1 j]) [46,47] O .scf ⟨Ua,Ua,ø⟩ (fun hc=>H0 (f:=(E1)) (xs:=y.Stacks) (y:=j) O O O Gc o O) O (Do (E1 j) [48] O .scf ⟨Ua,ø⟩ (fun hc=>Gm H4 O O O) O (Do (E7 b) [] O .scf ø (fun hc=>G2 O O) O (Do (.dptr [I64 c]) [49,50] O .scf ⟨Ua,Ua,ø⟩ (fun hc=>H0 (f:=I64) (xs:=j) (y:=c) O O O G7 t O) O (Do (I64 c) [51] O .scf ⟨Ua,ø⟩ (fun hc=>Gm Gi O O O) O (Do (I64 m) [44,52] O .scf ⟨Ua,Ua,ø⟩ (fun hc=>Gt (args:=[E1 order,I64 c]) O (Jc order c m (H6 hc c4)) Zs ⟨O,O,O,O,ø⟩) O (Do (BL (decide (l < m))) [43,53] O .scf ⟨Ua,Ua,ø⟩ (fun hc=>Hz O O O) O (Dq (BL (i||(decide (l < m)))) (Ze O O O O) O (Dq (BL (i||(decide (l < m)))) (G4 O O) O (Dnil ?_))))))))))))
     refine c1 (G1 (JLm (E7 d) O (JLh (I64 ((d+1:Nat):Int)) (J2 (Hi v (G47 b4)) O O O) O (JLm (I64 ((d+1:Nat):Int)) O (G6 (e2 _ _ (d+1) (i||(decide (l < m))) (app1 c0 h) (by omega) ⟨(.sm O O),⟨⟨_,rfl,.vec⟩,⟨_,rfl,.vec⟩,ø⟩,rfl⟩))))))
    ·
     have h:=app1 z (G7e u (Zj hb))
     refine Hg (b2 (Jr fun c5=>(JLm (BL i) O (G6 (c5 (JCc O h (fun h hb=>?_) (fun h hb=>?_)))))))
     ·
      refine G1 (JLm (.vec 1072 a.length 1 a.length) O (JLh (.dptr [LS 1 (E1) y.Stacks,I64 y.Height]) (Gz H2 O O O) O (JLh (LS 1 (E1) y.Stacks) (Gm Gq O O O) O (JLm (E7 e) O (JLh (.dptr [E1 j]) (H0 (f:=(E1)) (xs:=y.Stacks) (y:=j) O O O Gc o O) O (JLh (E1 j) (Gm H4 O O O) O (JLm (E7 b) O (JLh (.dptr [I64 c]) (H0 (f:=I64) (xs:=j) (y:=c) O O O G7 t O) O (JLh (I64 c) (Gm Gi O O O) O (JLh (E1 [c]) (H8 (xs:=[I64 c]) O ⟨O,O,ø⟩ G7 Jf O O O O) O ?_))))))))))
      obtain⟨c6,h⟩:=J3 h
      refine JLh (.vec 1072 ((a++[c]).length) 1 ((a++[c]).length)) (G79 (f:=I64) (xs:=a) (ys:=[c]) (ver:=a.length) (ver1:=(a++[c]).length) rfl rfl rfl rfl G7 Rj c6 (fun _=>rfl) (.inl rfl) (by simp)) O (JLm (.vec 1072 ((a++[c]).length) 1 ((a++[c]).length)) O (G6 (ej13 _ _ (a++[c]) h ⟨(.sm O O),⟨⟨_,rfl,.vec⟩,⟨_,rfl,.vec⟩,ø⟩,rfl⟩)))
     ·
      refine Gk (ej13 _ _ a h ⟨(.sm O O),⟨⟨_,rfl,.vec⟩,⟨_,rfl,.vec⟩,ø⟩,rfl⟩)
   ·intro k h
    replace h:=app1 x h
    refine G1 (JLm (E7 b) O (JLh (I64 ((b+1:Nat):Int)) (J2 (Hi s a8) O O O) O (JLm (I64 ((b+1:Nat):Int)) O (G6 (e0 _ _ (b+1) k (app1 a9 h) (by omega) ⟨(.sm O O),⟨⟨_,rfl,.vec⟩,⟨_,rfl,.vec⟩,ø⟩,rfl⟩)))))
  ·
   have h:=app1 w (Hq q (Ha hb))
   refine Hg (d7 (G1 (JLm (E7 e) O (JLh (I64 ((e+1:Nat):Int)) (J2 (Hi a1 a3) O O O) O (JLm (I64 ((e+1:Nat):Int)) O (G6 (e5 _ _ (e+1) a (app1 d6 h) (by omega) ⟨(.sm O O),⟨⟨_,rfl,.vec⟩,⟨_,rfl,.vec⟩,ø⟩,rfl⟩)))))))
 ·
  have h:=app1 a2 (Hq a0 (Ha hb))
  refine Hg (d0 (Jr fun c7=>(JLm (.vec 1072 g.length 1 g.length) O (JLm (.vec 1072 g.length 1 g.length) O (G6 (c7 (J7a 4 O O (fun hn_=>H1 ?_))))))))
  obtain rfl:=Ey h
  exact⟨[.vec 1072 g.length 1 g.length],[(1072,.vec 3 1 g.length (g.map I64))],⟨⟨_,O,.vec⟩,ø⟩,O,⟨⟨_,O,.conv (.same O)⟩,ø⟩,g.length,congrArg (fun n_:Nat=>(.vec 1072 g.length 1 n_:AV)) (hn_.trans (Km _)),O⟩

def Qs (F:Nat) (y:Gp) (order:List Int):Option ((List Int)×Int):=
 bnd (Q3 F y order) fun n=>
 bif (!n) then
 (some ([],2))
 else
 (bnd (J0 F y order) fun o=>
  loop (fun e (b:Int×(List Int))=>
   bif decide (b.1 < (b.2.length:Int)) then
   (loop (fun f (a:Int×(List Int))=>
     bnd (bif decide (0 < a.1) then R6 a.2 a.1 some else some default) fun g=>
     bnd (bif decide (0 < a.1) then chk (a.1 - 1) some else some 0) fun h=>
     bnd (bif decide (0 < a.1) then R6 a.2 h some else some default) fun i=>
     bif ((decide (0 < a.1))&&(decide (g < i))) then
     (chk (a.1 - 1) fun c=>
      chk (a.1 - 1) fun j=>
      R6 a.2 j fun d=>
      R6 a.2 a.1 fun k=>
      R6 a.2 a.1 fun p=>
      R6 (a.2.set a.1.toNat d) c fun q=>
      chk (a.1 - 1) fun l=>
      f (l,((a.2.set a.1.toNat d).set c.toNat k)))
     else
     (chk (b.1+1) fun m=>
      e (m,a.2))) F (b.1,b.2))
   else
   (some (b.2,0))) F (1,o))
theorem G61 (F:Nat) (y:Gp) (order:List Int) (r:(List Int)×Int) (h:Qs F y order=some r):Pure E8 48 [.agg [LS 1 (E1) y.Stacks,I64 y.Height],E1 order] (·=.tup [E1 r.1,I64 r.2]):=by
 unfold Qs at h
 refine Hb [.tmp 4,.tmp 5] Try.func48 O O (Jr fun c8=>(JLh (.ptr 1053 0) (Q9 (cs:=[LS 1 (E1) y.Stacks,I64 y.Height]) 1053 O O O O O) O (JLh (E1 ([]:List Int)) (Jn 1 O O) O (JLm (I64 0) O (G6 (c8 (H5 [(1,E1 order),(2,.dptr [LS 1 (E1) y.Stacks,I64 y.Height])] [] 1053 rfl rfl rfl ø rfl (by exact⟨.conv (.same rfl),.ptr,ø⟩) (Js fun c9=>Jr fun d0=>(JLh (.agg [LS 1 (E1) y.Stacks,I64 y.Height]) (Gv He O O O) O (JLm (E1 order) O ?_))))))))))
 obtain⟨r4,d1,h⟩:=Gd h
 refine JLh (BL r4) (Gt O (Ye F y order r4 d1) Geb ⟨O,O,O,O,ø⟩) O (JLh (BL (!r4)) (Z6 (b:=r4) O O) O (G6 (d0 (JCc O h (fun h hb=>?_) (fun h hb=>?_)))))
 ·
  refine Jr fun d2=>(JLh (E1 ([]:List Int)) (Jn 1 O O) O (JLm (I64 2) O (G6 (d2 (H1 (⟨[E1 ([]:List Int),I64 2],[],ø,O,⟨⟨_,O,.conv (.same O)⟩,⟨_,O,.conv (.same O)⟩,ø⟩,O,congrArg (fun r:(List Int)×Int=>(.tup [E1 r.1,I64 r.2]:AV)) (Ey h)⟩))))))
 ·
  refine Gk (c9 (Jr fun d3=>(JLh (.agg [LS 1 (E1) y.Stacks,I64 y.Height]) (Gv He O O O) O (JLm (E1 order) O ?_))))
  obtain⟨e,d4,h⟩:=Gd h
  refine G66 O O O (G69 (args:=[.agg [LS 1 (E1) y.Stacks,I64 y.Height],E1 order]) (L0:=[]) (u:=fun p=>.vec 1072 p 1 e.length) (Lr:=fun p=>[(1072,.vec 3 1 p (e.map I64))]) O (Gd4 F y order e d4) Ga3 ⟨.inl O,O,.inl O,O,ø⟩ ø O (fun _=>O)) ?_
  rintro u_ L_ ⟨d,rfl,rfl⟩
  refine JLm (.vec 1072 d 1 e.length) O (G6 (d3 (Js fun d5=>Jr fun a9=>(JLm (I64 1) O (G6 (a9 (Gg ?_)))))))
  obtain⟨d6,b0,h⟩:=G2e h
  refine H9 (fun i (c:Int×(List Int))=>loop d6 i c=some r) (fun i c=>[(6,.vec 1072 d 1 e.length),(7,I64 c.1)]) (fun i c=>[(1072,.vec 3 1 d (c.2.map I64))]) (fun i=>i) F (1,e) h ⟨(.sm O O),⟨⟨_,O,.vec⟩,ø⟩,O⟩ ?_
  clear h
  intro i c b1 e7 d7
  obtain⟨d8,e4,hm_11,b2,h⟩:=G00 b1
  replace h:=Hb2 b0 h
  refine Js fun b3=>Jr fun b4=>(JLm (I64 c.1) O (JLm (.vec 1072 d 1 e.length) O (Ge0 (f:=I64) (xs:=c.2) G7 O O O (fun e5=>?_) O O O)))
  refine JLh (BL (decide (c.1 < (c.2.length:Int)))) (Hz O O O) O (G6 (b4 (JCc O h (fun h hb=>?_) (fun h hb=>?_))))
  ·
   refine Gk (b3 (Js fun b5=>Gg (Jr fun b6=>(JLm (I64 c.1) O (JLm (I64 c.1) O (G6 (b6 (Gg ?_))))))))
   obtain⟨d9,b7,h⟩:=G2e h
   refine H9 (fun j (a:Int×(List Int))=>loop d9 j a=some r) (fun j a=>[(6,.vec 1072 d 1 e.length),(7,I64 c.1),(8,I64 a.1)]) (fun j a=>[(1072,.vec 3 1 d (a.2.map I64))]) (fun j=>j) F (c.1,c.2) h ⟨(.sm O O),⟨⟨_,O,.vec⟩,ø⟩,O⟩ ?_
   clear h
   intro j a b8 e8 e0
   obtain⟨e1,e6,hm_62,b9,h⟩:=G00 b8
   replace h:=Hb2 b7 h
   refine Js fun c0=>Js fun c1=>Rg (l':=[(6,.vec 1072 d 1 e.length),(7,I64 c.1),(8,I64 a.1)]) (L':=[(1072,.vec 3 1 d (a.2.map I64))]) ⟨(.sm O O),⟨⟨_,O,.vec⟩,ø⟩,O⟩ ?_
   obtain⟨l,n,h⟩:=Gd h
   obtain⟨a7,c2,h⟩:=Gd h
   obtain⟨m,o,h⟩:=Gd h
   refine JC_d0 Jj (by kernel_rfl) (Dq (I64 a.1) (G2 O O) O (Dq (BL (decide (0 < a.1))) (Yk O O O) O (Dq (BL (decide (0 < a.1))) (G2 O O) O (Do (.vec 1072 d 1 e.length) [] O .sct ø (fun hc=>G2 O O) O (Do (I64 a.1) [] O .sct ø (fun hc=>G2 O O) O (Do (.vptr 1072 d a.1.toNat 0) [26,27] O .sct ⟨Ua,Ua,ø⟩ (fun hc=>Zw (f:=I64) (xs:=a.2) (y:=l) O O O O G7 (Gfa (H6 hc n)) (J0a (H6 hc n))) O (Do (I64 l) [28] O .sct ⟨Ua,ø⟩ (fun hc=>Ge1 (f:=I64) (xs:=a.2) (y:=l) Gi O O O (Gfa (H6 hc n)) O O) O (Do (.vec 1072 d 1 e.length) [] O .sct ø (fun hc=>G2 O O) O (Do (I64 a.1) [] O .sct ø (fun hc=>G2 O O) O (Do (I64 a7) [31] O .sct ⟨Ua,ø⟩ (fun hc=>Zv (Gac (H6 hc c2)) O O O) O (Do (.vptr 1072 d a7.toNat 0) [30,32] O .sct ⟨Ua,Ua,ø⟩ (fun hc=>Zw (f:=I64) (xs:=a.2) (y:=m) O O O O G7 (Gfa (H6 hc o)) (J0a (H6 hc o))) O (Do (I64 m) [33] O .sct ⟨Ua,ø⟩ (fun hc=>Ge1 (f:=I64) (xs:=a.2) (y:=m) Gi O O O (Gfa (H6 hc o)) O O) O (Do (BL (decide (l < m))) [29,34] O .sct ⟨Ua,Ua,ø⟩ (fun hc=>Hz O O O) O ?_)))))))))))))
   refine Dq (BL ((decide (0 < a.1))&&(decide (l < m)))) (Yn O O O O) O (Dnil (c1 (JCc O h (fun h hb=>?_) (fun h hb=>?_))))
   ·
    refine Gk (c0 (Js fun c3=>Gg (Rg (l':=[(6,.vec 1072 d 1 e.length),(7,I64 c.1),(8,I64 a.1)]) (L':=[(1072,.vec 3 1 d (a.2.map I64))]) ⟨(.sm O O),⟨⟨_,O,.vec⟩,ø⟩,O⟩ ?_)))
    obtain⟨q,s,h⟩:=Jh h
    obtain⟨a8,c4,h⟩:=Jh h
    obtain⟨g,a3,t,h⟩:=Z7 h
    obtain⟨k,a4,v,h⟩:=Z7 h
    obtain⟨e2,a5,w,h⟩:=Z7 h
    obtain⟨e3,a6,x,h⟩:=Z7 h
    refine Q0 [15,17] [0,0,0,0,0,0,0,0,0,0,0,0,0,0,0,0,1,0] [0,0,1,1,1,0,0,0,0,0,0,0,0,0,0,0,1,0] [[(1072,.vec 3 1 d (a.2.map I64))],((1072,.vec 3 1 d ((a.2.set a.1.toNat g).map I64))::[(1072,.vec 3 1 d (a.2.map I64))]),((1072,.vec 3 1 d (((a.2.set a.1.toNat g).set q.toNat k).map I64))::((1072,.vec 3 1 d ((a.2.set a.1.toNat g).map I64))::[(1072,.vec 3 1 d (a.2.map I64))]))] Jj (by kernel_rfl) rfl rfl ?_
    refine Gb (u:=.vec 1072 d 1 e.length) O O ⟨Ga (G2 O O) O,ø⟩ (Gb (u:=I64 a.1) O O ⟨Ga (G2 O O) O,ø⟩ (Gb (u:=.vec 1072 d 1 e.length) O O ⟨Ga (G2 O O) O,Ga (G2 O O) O,ø⟩ (Gb (u:=I64 a.1) O O ⟨Ga (G2 O O) O,Ga (G2 O O) O,ø⟩ (Gb (u:=I64 q) O O ⟨Ga (Zv s O O O) O,Ga (Zv s O O O) O,ø⟩ (Gb (u:=.vec 1072 d 1 e.length) O O ⟨Ga (G2 O O) O,ø⟩ (Gb (u:=I64 a.1) O O ⟨Ga (G2 O O) O,ø⟩ (Gb (u:=I64 a8) O O ⟨Ga (Zv c4 O O O) O,ø⟩ (Gb (u:=.vptr 1072 d a8.toNat 0) O O ⟨Ga (Zw (f:=I64) (xs:=a.2) (y:=g) O O O O G7 t a3) O,ø⟩ (Gb (u:=I64 g) O O ⟨Ga (Ge1 (f:=I64) (xs:=a.2) (y:=g) Gi O O O t O O) O,ø⟩ (Gb (u:=.vec 1072 d 1 e.length) O O ⟨Ga (G2 O O) O,ø⟩ (Gb (u:=I64 a.1) O O ⟨Ga (G2 O O) O,ø⟩ (Gb (u:=.vptr 1072 d a.1.toNat 0) O O ⟨Ga (Zw (f:=I64) (xs:=a.2) (y:=k) O O O O G7 v a4) O,ø⟩ (Gb (u:=I64 k) O O ⟨Ga (Ge1 (f:=I64) (xs:=a.2) (y:=k) Gi O O O v O O) O,ø⟩ ?_)))))))))))))
    refine Gb (u:=.vptr 1072 d a.1.toNat 0) O O ⟨Ga (Zw (f:=I64) (xs:=a.2) (y:=e2) O O O O G7 w a5) O,ø⟩ (H41 (u:=.junk) O O O O (Ga (H3d (f:=I64) (xs:=a.2) (z:=g) Gd8 O O O O (Ew w).1 O O O O) O) (Gb (u:=.vptr 1072 d q.toNat 0) O O ⟨Ga (Zw (f:=I64) (xs:=(a.2.set a.1.toNat g)) (y:=e3) O O O O G7 x a6) O,ø⟩ (H41 (u:=.junk) O O O O (Ga (H3d (f:=I64) (xs:=(a.2.set a.1.toNat g)) (z:=k) Gd8 O O O O (Ew x).1 O O O O) O) (Y9 (c3 (G1 (JLm (I64 a.1) O ?_)))))))
    obtain⟨a0,c5,h⟩:=Jh h
    refine JLh (I64 a0) (Zv c5 O O O) O (JLm (I64 a0) O (G6 (e0 _ _ e1 (a0,((a.2.set a.1.toNat g).set q.toNat k)) (app1 b9 h) (by omega) ⟨(.sm O O),⟨⟨_,rfl,.vec⟩,ø⟩,rfl⟩)))
   ·
    refine Hg (b5 (G1 (JLm (I64 c.1) O ?_)))
    obtain⟨a1,c6,h⟩:=Jh h
    refine JLh (I64 a1) (J2 c6 O O O) O (JLm (I64 a1) O (G6 (d7 _ _ d8 (a1,a.2) (app1 b2 h) (by omega) ⟨(.sm O O),⟨⟨_,rfl,.vec⟩,ø⟩,rfl⟩)))
  ·
   refine Hg (d5 (Jr fun c7=>(JLm (.vec 1072 d 1 e.length) O (JLm (.vec 1072 d 1 e.length) O (JLm (I64 0) O (G6 (c7 (H01 [(4,E1 c.2),(5,I64 0)] [] 1072 rfl rfl ø rfl (by exact⟨.vec,.conv (.same rfl),ø⟩) (H1 (⟨[E1 c.2,I64 0],[],ø,O,⟨⟨_,O,.conv (.same O)⟩,⟨_,O,.conv (.same O)⟩,ø⟩,O,congrArg (fun r:(List Int)×Int=>(.tup [E1 r.1,I64 r.2]:AV)) (Ey h)⟩))))))))))

def Qo (F:Nat) (y:Gp) (order:List Int):Option (Bool×Int):=
 bnd (Qs F y order) fun a=>
 some (((decide (a.2=0))&&(decide ((a.1.length:Int)=0))),a.2)
theorem Gb7 (F:Nat) (y:Gp) (order:List Int) (r:Bool×Int) (h:Qo F y order=some r):Pure E8 47 [.agg [LS 1 (E1) y.Stacks,I64 y.Height],E1 order] (·=.tup [BL r.1,I64 r.2]):=by
 unfold Qo at h
 refine Hb [.tmp 4,.tmp 5] Try.func47 O O (Jr fun b=>(JLh (.ptr 1052 0) (Q9 (cs:=[LS 1 (E1) y.Stacks,I64 y.Height]) 1052 O O O O O) O (JLm (BL false) O (JLm (I64 0) O (G6 (b (H5 [(1,E1 order),(2,.dptr [LS 1 (E1) y.Stacks,I64 y.Height])] [] 1052 rfl rfl rfl ø rfl (by exact⟨.conv (.same rfl),.ptr,ø⟩) (Jr fun c=>(JLh (.agg [LS 1 (E1) y.Stacks,I64 y.Height]) (Gv He O O O) O (JLm (E1 order) O ?_))))))))))
 obtain⟨a,d,h⟩:=Gd h
 refine JLh (.tup [E1 a.1,I64 a.2]) (Gt O (G61 F y order a d) Hed ⟨O,O,O,O,ø⟩) O (JLm (.tup [E1 a.1,I64 a.2]) O (JLh (E1 a.1) (Gu O O O) O (JLh (I64 a.2) (Gu O O O) O (JLm (E1 a.1) O (JLm (I64 a.2) O (G6 (c ?_)))))))
 refine Jr fun e=>(JLm (I64 a.2) O (JLh (BL (decide (a.2=0))) (Ym O O O) O (JLm (BL (decide (a.2=0))) O (JLo (E1 a.1) [] O .sct ø (fun hc=>G2 O O) O (JLo (E7 a.1.length) [17] O .sct ⟨Ua,ø⟩ (fun hc=>Qe (f:=I64) (xs:=a.1) G7 O O) O (JLo (BL (decide ((a.1.length:Int)=0))) [18] O .sct ⟨Ua,ø⟩ (fun hc=>Ym O O O) O (JLh (BL ((decide (a.2=0))&&(decide ((a.1.length:Int)=0)))) (Yn O O O O) O (JLm (I64 a.2) O (JLm (BL ((decide (a.2=0))&&(decide ((a.1.length:Int)=0)))) O (JLm (I64 a.2) O (G6 (e (H1 (⟨[BL ((decide (a.2=0))&&(decide ((a.1.length:Int)=0))),I64 a.2],[],ø,O,⟨⟨_,O,.conv (.same O)⟩,⟨_,O,.conv (.same O)⟩,ø⟩,O,congrArg (fun r:Bool×Int=>(.tup [BL r.1,I64 r.2]:AV)) (Ey h)⟩))))))))))))))

def R7 (k:Int) (i:Int):Option Int:=
 chk (k+7) fun a=>
 chk (1000003*a) fun b=>
 chk (b+i) fun c=>
 some c
theorem G1e (k:Int) (i:Int) (r:Int) (h:R7 k i=some r):Pure E8 64 [I64 k,I64 i] (·=I64 r):=by
 unfold R7 at h
 refine Hb [.tmp 4] Try.func64 O O (Jr fun a=>(JLm (I64 0) O (G6 (a (Jr fun b=>(JLm (I64 k) O ?_))))))
 obtain⟨g,c,h⟩:=Jh h
 refine JLh (I64 g) (J2 c O O O) O ?_
 obtain⟨j,d,h⟩:=Jh h
 refine JLh (I64 j) (Qc6 d O O O) O (JLm (I64 i) O ?_)
 obtain⟨e,f,h⟩:=Jh h
 refine JLh (I64 e) (J2 f O O O) O (JLm (I64 e) O (G6 (b (H1 (fin1 I64 h)))))

def Jm (out:Ln Int) (l:List Int):Option Bool:=
 bif decide ((out.1.length:Int)≠(l.length:Int)) then
 (some false)
 else
 (chk ((l.length:Int)+12) fun h=>
  bnd (Y6 h (out.1++out.2).length) fun i=>
  each (fun b a (e:Unit) d=>
   bnd (bif decide ((a:Int) < (l.length:Int)) then R6 l (a:Int) some else some default) fun c=>
   bnd (bif ((!((decide ((a:Int) < (l.length:Int)))&&(!(decide (b=c)))))&&(decide ((l.length:Int)≤(a:Int)))) then chk ((a:Int) - (l.length:Int)) some else some 0) fun f=>
   bnd (bif ((!((decide ((a:Int) < (l.length:Int)))&&(!(decide (b=c)))))&&(decide ((l.length:Int)≤(a:Int)))) then R7 1 f else some default) fun g=>
   bif (((decide ((a:Int) < (l.length:Int)))&&(!(decide (b=c))))||((decide ((l.length:Int)≤(a:Int)))&&(!(decide (b=g))))) then
   (some false)
   else
   (d ()))
  (fun(e:Unit)=>
   some true) ((out.1++out.2).take i) 0 ())
theorem Y4 (out:Ln Int) (l:List Int) (r:Bool) (h:Jm out l=some r):Pure E8 35 [LT 1 I64 out,E1 l] (·=BL r):=by
 unfold Jm at h
 refine Hb [.tmp 4] Try.func35 O O (Jr fun a5=>(JLm (BL false) O (G6 (a5 (Js fun a6=>Jr fun a7=>(JLm (LT 1 I64 out) O (JLl G7 O O O fun c0=>(JLm (E1 l) O (JLl G7 O O O fun b6=>(JLh (BL (decide ((out.1.length:Int)≠(l.length:Int)))) (G18 O O O) O (G6 (a7 (JCc O h (fun h hb=>?_) (fun h hb=>?_))))))))))))))
 ·
  refine Jr fun a8=>(JLm (BL false) O (G6 (a8 (H1 (fin1 BL h)))))
 ·
  refine Gk (a6 (Jr fun a9=>(JLm (LT 1 I64 out) O (JLm (E1 l) O (JLl G7 O O O fun b7=>?_)))))
  obtain⟨v6,b0,h⟩:=Jh h
  refine JLh (I64 v6) (J2 b0 O O O) O ?_
  obtain⟨g,b1,h⟩:=Gd h
  refine JLh (E1 ((out.1++out.2).take g)) (Q50 (f:=I64) (e:=out) O O O G7 (Hc b1)) O (JLm (E1 ((out.1++out.2).take g)) O (G6 (a9 (Js fun b2=>Jr fun b3=>(JLm (I64 0) O (G6 (b3 (Gg ?_))))))))
  obtain⟨b4,q,s,p,h⟩:=J4 h
  refine H9 (fun a (j:Unit)=>each b4 q (List.drop a ((out.1++out.2).take g)) a j=some r) (fun a j=>[(1,E1 l),(5,E1 ((out.1++out.2).take g)),(6,E7 a)]) (fun a j=>[]) (fun a=>((out.1++out.2).take g).length - a) 0 () h ⟨(.sm O O),ø,O⟩ ?_
  clear h
  intro a j k c1 b5
  refine Js fun t=>Jr fun u=>(JLm (E7 a) O (JLm (E1 ((out.1++out.2).take g)) O (JLl G7 O O O fun v=>(JLh (BL (decide ((a:Int) < (((out.1++out.2).take g).length:Int)))) (Hz O O O) O (G6 (u (Gh O (fun hb=>?_) (fun hb=>?_))))))))
  ·
   have m:=Jq hb
   obtain⟨c,b9,n,w,h⟩:=Hp k m
   replace h:=Yo s h
   refine Gk (t (Js fun x=>Gg (Js fun z=>?_)))
   obtain⟨d,a0,h⟩:=Gd h
   obtain⟨o,a1,h⟩:=Gd h
   obtain⟨i,a2,h⟩:=Gd h
   refine JC_d0 Jj (by kernel_rfl) (Dq (E7 a) (G2 O O) O (Dq (E1 l) (G2 O O) O (Dq (E7 l.length) (Qe (f:=I64) (xs:=l) G7 O O) O (Dq (BL (decide ((a:Int) < (l.length:Int)))) (Hz O O O) O (Dq (BL (decide ((a:Int) < (l.length:Int)))) (G2 O O) O (Do (E1 ((out.1++out.2).take g)) [] O .sct ø (fun hc=>G2 O O) O (Do (E7 a) [] O .sct ø (fun hc=>G2 O O) O (Do (.dptr [I64 c]) [28,29] O .sct ⟨Ua,Ua,ø⟩ (fun hc=>H0 (f:=I64) (xs:=((out.1++out.2).take g)) (y:=c) O O O G7 n O) O (Do (I64 c) [30] O .sct ⟨Ua,ø⟩ (fun hc=>Gm Gi O O O) O (Do (E1 l) [] O .sct ø (fun hc=>G2 O O) O (Do (E7 a) [] O .sct ø (fun hc=>G2 O O) O (Do (.dptr [I64 d]) [32,33] O .sct ⟨Ua,Ua,ø⟩ (fun hc=>(match G4e (H6 hc a0) with | ⟨_,hm_,hy_⟩=>H0 (f:=I64) (xs:=l) (y:=d) O O O G7 hy_ hm_)) O (Do (I64 d) [34] O .sct ⟨Ua,ø⟩ (fun hc=>Gm Gi O O O) O ?_)))))))))))))
   refine Do (BL (decide (c=d))) [31,35] O .sct ⟨Ua,Ua,ø⟩ (fun hc=>Ym O O O) O (Do (BL (!(decide (c=d)))) [36] O .sct ⟨Ua,ø⟩ (fun hc=>Z6 (b:=decide (c=d)) O O) O (Dq (BL ((decide ((a:Int) < (l.length:Int)))&&(!(decide (c=d))))) (Yn O O O O) O (Dq (BL ((decide ((a:Int) < (l.length:Int)))&&(!(decide (c=d))))) (G2 O O) O (Do (E7 a) [] O .scf ø (fun hc=>G2 O O) O (Do (E1 l) [] O .scf ø (fun hc=>G2 O O) O (Do (E7 l.length) [41] O .scf ⟨Ua,ø⟩ (fun hc=>Qe (f:=I64) (xs:=l) G7 O O) O (Do (BL (decide ((l.length:Int)≤(a:Int)))) [40,42] O .scf ⟨Ua,Ua,ø⟩ (fun hc=>G53 O O O) O (Do (BL (decide ((l.length:Int)≤(a:Int)))) [43] O .scf ⟨Ua,ø⟩ (fun hc=>G2 O O) O (Do (E1 ((out.1++out.2).take g)) [] O .optt ø (fun hc=>G2 O O) O (Do (E7 a) [] O .optt ø (fun hc=>G2 O O) O (Do (.dptr [I64 c]) [45,46] O .optt ⟨Ua,Ua,ø⟩ (fun hc=>H0 (f:=I64) (xs:=((out.1++out.2).take g)) (y:=c) O O O G7 n O) O (Do (I64 c) [47] O .optt ⟨Ua,ø⟩ (fun hc=>Gm Gi O O O) O (Do (E7 a) [] O .optt ø (fun hc=>G2 O O) O ?_)))))))))))))
   refine Do (E1 l) [] O .optt ø (fun hc=>G2 O O) O (Do (E7 l.length) [50] O .optt ⟨Ua,ø⟩ (fun hc=>Qe (f:=I64) (xs:=l) G7 O O) O (Do (I64 o) [49,51] O .optt ⟨Ua,Ua,ø⟩ (fun hc=>Zv (Gac (H6 hc a1)) O O O) O (Do (I64 i) [52] O .optt ⟨Ua,ø⟩ (fun hc=>Gt (args:=[I64 1,I64 o]) O (G1e 1 o i (H6 hc a2)) H4f ⟨O,O,O,O,ø⟩) O (Do (BL (decide (c=i))) [48,53] O .optt ⟨Ua,Ua,ø⟩ (fun hc=>Ym O O O) O (Do (BL (!(decide (c=i)))) [54] O .optt ⟨Ua,ø⟩ (fun hc=>Z6 (b:=decide (c=i)) O O) O (Dg (.opt (!((decide ((a:Int) < (l.length:Int)))&&(!(decide (c=d))))) (BL ((decide ((l.length:Int)≤(a:Int)))&&(!(decide (c=i)))))) (Hd [(44,BL (decide ((l.length:Int)≤(a:Int)))),(55,_)] O O O .scf ⟨.all id,.part,ø⟩ (fun hc=>Yn O O O O) O) O (Dq (BL (((decide ((a:Int) < (l.length:Int)))&&(!(decide (c=d))))||((decide ((l.length:Int)≤(a:Int)))&&(!(decide (c=i)))))) (Ze O O O O) O (Dnil ?_))))))))
   refine z (JCc O h (fun h hb=>?_) (fun h hb=>?_))
   ·
    refine Jr fun a3=>(JLm (BL false) O (G6 (a3 (H1 (fin1 BL h)))))
   ·
    refine Gk (x (G1 (JLm (E7 a) O (JLh (I64 ((a+1:Nat):Int)) (J2 (Hi m v) O O O) O (JLm (I64 ((a+1:Nat):Int)) O (G6 (b5 _ _ (a+1) () (app1 w h) (by omega) ⟨(.sm O O),ø,rfl⟩)))))))
  ·
   have h:=app1 p (Hq k (Ha hb))
   refine Hg (b2 (Jr fun a4=>(JLm (BL true) O (G6 (a4 (H1 (fin1 BL h)))))))

def Qf (k:Int) (i:Int):Option (List Int):=
 bnd (R7 k i) fun a=>
 some [a]
theorem G2a (k:Int) (i:Int) (r:(List Int)) (h:Qf k i=some r):Pure E8 87 [I64 k,I64 i] (·=E1 r):=by
 unfold Qf at h
 refine Hb [.tmp 4] Try.func87 O O (Jr fun b=>(JLh (E1 ([]:List Int)) (Jn 1 O O) O (G6 (b (Jr fun c=>(JLm (I64 k) O (JLm (I64 i) O ?_)))))))
 obtain⟨a,d,h⟩:=Gd h
 refine JLh (I64 a) (Gt O (G1e k i a d) H4f ⟨O,O,O,O,ø⟩) O (JLh (E1 [a]) (H8 (xs:=[I64 a]) O ⟨O,O,ø⟩ G7 Jf O O O O) O (JLm (E1 [a]) O (G6 (c (H1 (fin1 (fun r:(List Int)=>(E1 r:AV)) h))))))

def R4 (out:Ln (Ln Int)) (l:List (List Int)):Option Bool:=
 bif decide ((out.1.length:Int)≠(l.length:Int)) then
 (some false)
 else
 (chk ((l.length:Int)+12) fun j=>
  bnd (Y6 j (out.1++out.2).length) fun k=>
  each (fun c a (e:Unit) d=>
   bnd (bif decide ((a:Int) < (l.length:Int)) then R6 l (a:Int) some else some default) fun f=>
   bnd (bif decide ((a:Int) < (l.length:Int)) then Jm c f else some default) fun b=>
   bnd (bif ((!((decide ((a:Int) < (l.length:Int)))&&(!b)))&&(decide ((l.length:Int)≤(a:Int)))) then chk ((a:Int) - (l.length:Int)) some else some 0) fun g=>
   bnd (bif ((!((decide ((a:Int) < (l.length:Int)))&&(!b)))&&(decide ((l.length:Int)≤(a:Int)))) then Qf 1 g else some default) fun h=>
   bnd (bif ((!((decide ((a:Int) < (l.length:Int)))&&(!b)))&&(decide ((l.length:Int)≤(a:Int)))) then Jy c.1 h else some default) fun i=>
   bif (((decide ((a:Int) < (l.length:Int)))&&(!b))||((decide ((l.length:Int)≤(a:Int)))&&(!i))) then
   (some false)
   else
   (d ()))
  (fun(e:Unit)=>
   some true) ((out.1++out.2).take k) 0 ())
theorem G99 (out:Ln (Ln Int)) (l:List (List Int)) (r:Bool) (h:R4 out l=some r):Pure E8 68 [LT 1 (LT 1 I64) out,LS 1 (E1) l] (·=BL r):=by
 unfold R4 at h
 refine Hb [.tmp 4] Try.func68 O O (Jr fun a9=>(JLm (BL false) O (G6 (a9 (Js fun b0=>Jr fun b1=>(JLm (LT 1 (LT 1 I64) out) O (JLl Gc O O O fun c4=>(JLm (LS 1 (E1) l) O (JLl Gc O O O fun c0=>(JLh (BL (decide ((out.1.length:Int)≠(l.length:Int)))) (G18 O O O) O (G6 (b1 (JCc O h (fun h hb=>?_) (fun h hb=>?_))))))))))))))
 ·
  refine Jr fun b2=>(JLm (BL false) O (G6 (b2 (H1 (fin1 BL h)))))
 ·
  refine Gk (b0 (Jr fun b3=>(JLm (LT 1 (LT 1 I64) out) O (JLm (LS 1 (E1) l) O (JLl Gc O O O fun c1=>?_)))))
  obtain⟨v6,b4,h⟩:=Jh h
  refine JLh (I64 v6) (J2 b4 O O O) O ?_
  obtain⟨g,b5,h⟩:=Gd h
  refine JLh (LS 1 (LT 1 I64) ((out.1++out.2).take g)) (Q50 (f:=(LT 1 I64)) (e:=out) O O O Gc (Hc b5)) O (JLm (LS 1 (LT 1 I64) ((out.1++out.2).take g)) O (G6 (b3 (Js fun b6=>Jr fun b7=>(JLm (I64 0) O (G6 (b7 (Gg ?_))))))))
  obtain⟨b8,t,u,s,h⟩:=J4 h
  refine H9 (fun a (k:Unit)=>each b8 t (List.drop a ((out.1++out.2).take g)) a k=some r) (fun a k=>[(1,LS 1 (E1) l),(5,LS 1 (LT 1 I64) ((out.1++out.2).take g)),(6,E7 a)]) (fun a k=>[]) (fun a=>((out.1++out.2).take g).length - a) 0 () h ⟨(.sm O O),ø,O⟩ ?_
  clear h
  intro a k n c5 b9
  refine Js fun v=>Jr fun w=>(JLm (E7 a) O (JLm (LS 1 (LT 1 I64) ((out.1++out.2).take g)) O (JLl Gc O O O fun x=>(JLh (BL (decide ((a:Int) < (((out.1++out.2).take g).length:Int)))) (Hz O O O) O (G6 (w (Gh O (fun hb=>?_) (fun hb=>?_))))))))
  ·
   have o:=Jq hb
   obtain⟨c,c3,p,z,h⟩:=Hp n o
   replace h:=Yo u h
   refine Gk (v (Js fun a0=>Gg (Js fun a1=>?_)))
   obtain⟨j,a2,h⟩:=Gd h
   obtain⟨d,a3,h⟩:=Gd h
   obtain⟨q,a4,h⟩:=Gd h
   obtain⟨m,a5,h⟩:=Gd h
   obtain⟨i,a6,h⟩:=Gd h
   refine JC_d0 Jj (by kernel_rfl) (Dq (E7 a) (G2 O O) O (Dq (LS 1 (E1) l) (G2 O O) O (Dq (E7 l.length) (Qe (f:=(E1)) (xs:=l) Gc O O) O (Dq (BL (decide ((a:Int) < (l.length:Int)))) (Hz O O O) O (Dq (BL (decide ((a:Int) < (l.length:Int)))) (G2 O O) O (Do (LS 1 (LT 1 I64) ((out.1++out.2).take g)) [] O .sct ø (fun hc=>G2 O O) O (Do (E7 a) [] O .sct ø (fun hc=>G2 O O) O (Do (.dptr [LT 1 I64 c]) [28,29] O .sct ⟨Ua,Ua,ø⟩ (fun hc=>H0 (f:=(LT 1 I64)) (xs:=((out.1++out.2).take g)) (y:=c) O O O Gc p O) O (Do (LT 1 I64 c) [30] O .sct ⟨Ua,ø⟩ (fun hc=>Gm H4 O O O) O (Do (LS 1 (E1) l) [] O .sct ø (fun hc=>G2 O O) O (Do (E7 a) [] O .sct ø (fun hc=>G2 O O) O (Do (.dptr [E1 j]) [32,33] O .sct ⟨Ua,Ua,ø⟩ (fun hc=>(match G4e (H6 hc a2) with | ⟨_,hm_,hy_⟩=>H0 (f:=(E1)) (xs:=l) (y:=j) O O O Gc hy_ hm_)) O (Do (E1 j) [34] O .sct ⟨Ua,ø⟩ (fun hc=>Gm H4 O O O) O ?_)))))))))))))
   refine Do (BL d) [31,35] O .sct ⟨Ua,Ua,ø⟩ (fun hc=>Gt (args:=[LT 1 I64 c,E1 j]) O (Y4 c j d (H6 hc a3)) Gec ⟨O,O,O,O,ø⟩) O (Do (BL (!d)) [36] O .sct ⟨Ua,ø⟩ (fun hc=>Z6 (b:=d) O O) O (Dq (BL ((decide ((a:Int) < (l.length:Int)))&&(!d))) (Yn O O O O) O (Dq (BL ((decide ((a:Int) < (l.length:Int)))&&(!d))) (G2 O O) O (Do (E7 a) [] O .scf ø (fun hc=>G2 O O) O (Do (LS 1 (E1) l) [] O .scf ø (fun hc=>G2 O O) O (Do (E7 l.length) [41] O .scf ⟨Ua,ø⟩ (fun hc=>Qe (f:=(E1)) (xs:=l) Gc O O) O (Do (BL (decide ((l.length:Int)≤(a:Int)))) [40,42] O .scf ⟨Ua,Ua,ø⟩ (fun hc=>G53 O O O) O (Do (BL (decide ((l.length:Int)≤(a:Int)))) [43] O .scf ⟨Ua,ø⟩ (fun hc=>G2 O O) O (Do (LS 1 (LT 1 I64) ((out.1++out.2).take g)) [] O .optt ø (fun hc=>G2 O O) O (Do (E7 a) [] O .optt ø (fun hc=>G2 O O) O (Do (.dptr [LT 1 I64 c]) [45,46] O .optt ⟨Ua,Ua,ø⟩ (fun hc=>H0 (f:=(LT 1 I64)) (xs:=((out.1++out.2).take g)) (y:=c) O O O Gc p O) O (Do (E1 c.1) [47] O .optt ⟨Ua,ø⟩ (fun hc=>Gj.cv (Cv.lst0 c) (Gm H4 O O O)) O (Do (E7 a) [] O .optt ø (fun hc=>G2 O O) O ?_)))))))))))))
   refine Do (LS 1 (E1) l) [] O .optt ø (fun hc=>G2 O O) O (Do (E7 l.length) [50] O .optt ⟨Ua,ø⟩ (fun hc=>Qe (f:=(E1)) (xs:=l) Gc O O) O (Do (I64 q) [49,51] O .optt ⟨Ua,Ua,ø⟩ (fun hc=>Zv (Gac (H6 hc a4)) O O O) O (Do (E1 m) [52] O .optt ⟨Ua,ø⟩ (fun hc=>Gt (args:=[I64 1,I64 q]) O (G2a 1 q m (H6 hc a5)) He5 ⟨O,O,O,O,ø⟩) O (Do (BL i) [48,53] O .optt ⟨Ua,Ua,ø⟩ (fun hc=>Gt (args:=[E1 c.1,E1 m]) O (Zf c.1 m i (H6 hc a6)) H52 ⟨O,O,O,O,ø⟩) O (Do (BL (!i)) [54] O .optt ⟨Ua,ø⟩ (fun hc=>Z6 (b:=i) O O) O (Dg (.opt (!((decide ((a:Int) < (l.length:Int)))&&(!d))) (BL ((decide ((l.length:Int)≤(a:Int)))&&(!i)))) (Hd [(44,BL (decide ((l.length:Int)≤(a:Int)))),(55,_)] O O O .scf ⟨.all id,.part,ø⟩ (fun hc=>Yn O O O O) O) O (Dq (BL (((decide ((a:Int) < (l.length:Int)))&&(!d))||((decide ((l.length:Int)≤(a:Int)))&&(!i)))) (Ze O O O O) O (Dnil ?_))))))))
   refine a1 (JCc O h (fun h hb=>?_) (fun h hb=>?_))
   ·
    refine Jr fun a7=>(JLm (BL false) O (G6 (a7 (H1 (fin1 BL h)))))
   ·
    refine Gk (a0 (G1 (JLm (E7 a) O (JLh (I64 ((a+1:Nat):Int)) (J2 (Hi o x) O O O) O (JLm (I64 ((a+1:Nat):Int)) O (G6 (b9 _ _ (a+1) () (app1 z h) (by omega) ⟨(.sm O O),ø,rfl⟩)))))))
  ·
   have h:=app1 s (Hq n (Ha hb))
   refine Hg (b6 (Jr fun a8=>(JLm (BL true) O (G6 (a8 (H1 (fin1 BL h)))))))

def Qk (own:Q8) (y:Gn):Option Bool:=
 bnd (bif decide (own.Height=y.Height) then R4 own.Stacks y.Stacks else some default) fun a=>
 some ((decide (own.Height=y.Height))&&a)
theorem G04 (own:Q8) (y:Gn) (r:Bool) (h:Qk own y=some r):Pure E8 34 [.agg [LT 1 (LT 1 I64) own.Stacks,I64 own.Height],.agg [LS 1 (E1) y.Stacks,I64 y.Height]] (·=BL r):=by
 unfold Qk at h
 refine Hb [.tmp 4] Try.func34 O O (Jr fun b=>(JLh (.ptr 1042 0) (Q9 (cs:=[LT 1 (LT 1 I64) own.Stacks,I64 own.Height]) 1042 O O O O O) O (JLh (.ptr 1043 0) (Q9 (cs:=[LS 1 (E1) y.Stacks,I64 y.Height]) 1043 O O O O O) O (JLm (BL false) O (G6 (b (H5 [(2,.dptr [LT 1 (LT 1 I64) own.Stacks,I64 own.Height]),(3,.ptr 1043 0)] [(1043,.box 24 [LS 1 (E1) y.Stacks,I64 y.Height])] 1042 rfl rfl rfl ⟨⟨_,rfl,.boxEq rfl rfl⟩,ø⟩ rfl (by exact⟨.ptr,.conv (.same rfl),ø⟩) (H5 [(2,.dptr [LT 1 (LT 1 I64) own.Stacks,I64 own.Height]),(3,.dptr [LS 1 (E1) y.Stacks,I64 y.Height])] [] 1043 rfl rfl rfl ø rfl (by exact⟨.conv (.same rfl),.ptr,ø⟩) ?_))))))))
 refine Jr fun c=>(JLh (.dptr [I64 own.Height]) (Gz Yc O O O) O (JLh (I64 own.Height) (Gm Gi O O O) O (JLh (.dptr [I64 y.Height]) (Gz Yc O O O) O (JLh (I64 y.Height) (Gm Gi O O O) O (JLh (BL (decide (own.Height=y.Height))) (Ym O O O) O (JLm (BL (decide (own.Height=y.Height))) O (JLo (.dptr [LT 1 (LT 1 I64) own.Stacks,I64 own.Height]) [] O .sct ø (fun hc=>Gz Hw O O O) O (JLo (LT 1 (LT 1 I64) own.Stacks) [11] O .sct ⟨Ua,ø⟩ (fun hc=>Gm Gq O O O) O (JLo (.dptr [LS 1 (E1) y.Stacks,I64 y.Height]) [] O .sct ø (fun hc=>Gz Hw O O O) O (JLo (LS 1 (E1) y.Stacks) [13] O .sct ⟨Ua,ø⟩ (fun hc=>Gm Gq O O O) O ?_))))))))))
 obtain⟨a,d,h⟩:=Gd h
 refine JLo (BL a) [12,14] O .sct ⟨Ua,Ua,ø⟩ (fun hc=>Gt (args:=[LT 1 (LT 1 I64) own.Stacks,LS 1 (E1) y.Stacks]) O (G99 own.Stacks y.Stacks a (H6 hc d)) Je1 ⟨O,O,O,O,ø⟩) O (JLh (BL ((decide (own.Height=y.Height))&&a)) (Yn O O O O) O (JLm (BL ((decide (own.Height=y.Height))&&a)) O (G6 (c (H1 (fin1 BL h))))))

def Rm (y:Gn):Option Bool:=
 each (fun b d (c:Unit) a=>
  bif decide (10 < (b.length:Int)) then
  (some false)
  else
  (a ()))
 (fun(c:Unit)=>
  some (decide ((y.Stacks.length:Int)≤32))) y.Stacks 0 ()
theorem G64 (y:Gn) (r:Bool) (h:Rm y=some r):Pure E8 10 [.agg [LS 1 (E1) y.Stacks,I64 y.Height]] (·=BL r):=by
 unfold Rm at h
 refine Hb [.tmp 2] Try.func10 O O (Jr fun t=>(JLh (.ptr 1003 0) (Q9 (cs:=[LS 1 (E1) y.Stacks,I64 y.Height]) 1003 O O O O O) O (JLm (BL false) O (G6 (t (H5 [(1,.dptr [LS 1 (E1) y.Stacks,I64 y.Height])] [] 1003 rfl rfl rfl ø rfl (by exact⟨.ptr,ø⟩) (Js fun u=>Jr fun v=>(JLm (I64 0) O (G6 (v (Gg ?_)))))))))))
 obtain⟨w,i,j,g,h⟩:=J4 h
 refine H9 (fun a (b:Unit)=>each w i (List.drop a y.Stacks) a b=some r) (fun a b=>[(1,.dptr [LS 1 (E1) y.Stacks,I64 y.Height]),(3,E7 a)]) (fun a b=>[]) (fun a=>y.Stacks.length - a) 0 () h ⟨(.sm O O),ø,O⟩ ?_
 clear h
 intro a b d a3 x
 refine Js fun k=>Jr fun l=>(JLm (E7 a) O (JLh (.dptr [LS 1 (E1) y.Stacks,I64 y.Height]) (Gz Hw O O O) O (JLh (LS 1 (E1) y.Stacks) (Gm Gq O O O) O (JLl Gc O O O fun z=>(JLh (BL (decide ((a:Int) < (y.Stacks.length:Int)))) (Hz O O O) O (G6 (l (Gh O (fun hb=>?_) (fun hb=>?_)))))))))
 ·
  have e:=Jq hb
  obtain⟨c,a0,m,n,h⟩:=Hp d e
  replace h:=Yo j h
  refine Gk (k (Js fun o=>Gg (Jr fun p=>(JLh (.dptr [LS 1 (E1) y.Stacks,I64 y.Height]) (Gz Hw O O O) O (JLh (LS 1 (E1) y.Stacks) (Gm Gq O O O) O (JLm (E7 a) O (JLh (.dptr [E1 c]) (H0 (f:=(E1)) (xs:=y.Stacks) (y:=c) O O O Gc m O) O (JLh (E1 c) (Gm H4 O O O) O (JLl G7 O O O fun a1=>(JLh (BL (decide (10 < (c.length:Int)))) (Yk O O O) O (G6 (p (JCc O h (fun h hb=>?_) (fun h hb=>?_))))))))))))))
  ·
   refine Jr fun q=>(JLm (BL false) O (G6 (q (H1 (fin1 BL h)))))
  ·
   refine Gk (o (G1 (JLm (E7 a) O (JLh (I64 ((a+1:Nat):Int)) (J2 (Hi e z) O O O) O (JLm (I64 ((a+1:Nat):Int)) O (G6 (x _ _ (a+1) () (app1 n h) (by omega) ⟨(.sm O O),ø,rfl⟩)))))))
 ·
  have h:=app1 g (Hq d (Ha hb))
  refine Hg (u (Jr fun s=>(JLh (.dptr [LS 1 (E1) y.Stacks,I64 y.Height]) (Gz Hw O O O) O (JLh (LS 1 (E1) y.Stacks) (Gm Gq O O O) O (JLl Gc O O O fun a2=>(JLh (BL (decide ((y.Stacks.length:Int)≤32))) (Q55 O O O) O (JLm (BL (decide ((y.Stacks.length:Int)≤32))) O (G6 (s (H1 (fin1 BL h)))))))))))

def Jk (l:List Int):Option (Ln Int):=
 chk ((l.length:Int)+12) fun g=>
 bnd (Hc6 g) fun e=>
 need (decide (8*e≤281474976710656∧e≤maxLen)) <|
 need (decide ((([]:List Int).length+l.length)*8≤140737488355328∧([]:List Int).length+l.length≤maxLen)) <|
 need (decide (12≤9223372036854775807)) <|
 upto (fun f (a:(List Int)) d=>
  bnd (R7 1 (f:Int)) fun b=>
  need (decide ((a.length+[b].length)*8≤140737488355328∧a.length+[b].length≤maxLen)) <|
  d (a++[b]))
 (fun(a:(List Int))=>
  bnd (Y6 (l.length:Int) a.length) fun c=>
  some (a.take c,a.drop c)) (12:Int).toNat 0 (([]:List Int)++l)
theorem Y3 (l:List Int) (r:(Ln Int)) (h:Jk l=some r):Pure E8 32 [E1 l] (·=LT 1 I64 r):=by
 unfold Jk at h
 refine Hb [.tmp 2] Try.func32 O O (Jr fun w=>(JLh (E1 ([]:List Int)) (Jn 1 O O) O (G6 (w (Jr fun x=>(JLm (E1 l) O (JLl G7 O O O fun b0=>?_)))))))
 obtain⟨v3,y,h⟩:=Jh h
 refine JLh (I64 v3) (J2 y O O O) O ?_
 obtain⟨m4,z,h⟩:=Gd h
 obtain⟨a0,h⟩:=J3 h
 refine JLh (OW 1039 1 I64 ([]:List Int)) (J5e 1039 O O O O G7 Rj O (J49 z) a0) O (JLm (OW 1039 1 I64 ([]:List Int)) O (G6 (x (Jr fun a1=>(JLm (OW 1039 1 I64 ([]:List Int)) O (JLm (E1 l) O ?_))))))
 obtain⟨a2,h⟩:=J3 h
 refine JLh (OW 1039 1 I64 (([]:List Int)++l)) (G30 (f:=I64) (xs:=([]:List Int)) (ys:=l) O O O O G7 Rj a2 (fun _=>O) (.inl O)) O (JLm (OW 1039 1 I64 (([]:List Int)++l)) O (G6 (a1 (Js fun a3=>Jr fun a4=>(JLm (I64 0) O (G6 (a4 (Gg ?_))))))))
 obtain⟨j,h⟩:=J3 h
 obtain⟨a5,k,m,i,h⟩:=Gbb h
 refine H9 (fun b (a:(List Int))=>upto a5 k ((12:Int).toNat - b) b a=some r) (fun b a=>[(0,E1 l),(3,OW 1039 1 I64 a),(4,E7 b)]) (fun b a=>[(1039,.spare 3 1 a.length a.length)]) (fun b=>(12:Int).toNat - b) 0 (([]:List Int)++l) h ⟨(.sm O O),⟨⟨_,O,.same⟩,ø⟩,O⟩ ?_
 clear h
 intro b a e b1 a6
 refine Js fun n=>Jr fun o=>(JLm (E7 b) O (JLh (BL (decide ((b:Int) < 12))) (Hz O O O) O (G6 (o (Gh O (fun hb=>?_) (fun hb=>?_))))))
 ·
  have g:=G84 hb
  obtain⟨a8,p,h⟩:=G7d e g
  replace h:=Jb8 m h
  refine Gk (n (Js fun q=>Gg (G1 (JLm (OW 1039 1 I64 a) O (JLm (E7 b) O ?_)))))
  obtain⟨c,s,h⟩:=Gd h
  refine JLh (I64 c) (Gt O (G1e 1 (b:Int) c s) H4f ⟨O,O,O,O,ø⟩) O (JLh (E1 [c]) (H8 (xs:=[I64 c]) O ⟨O,O,ø⟩ G7 Jf O O O O) O ?_)
  obtain⟨t,h⟩:=J3 h
  refine JLh (OW 1039 1 I64 (a++[c])) (Rz (f:=I64) (xs:=a) (ys:=[c]) O O O O G7 Rj t (fun _=>O) (.inl O) O) O (JLm (OW 1039 1 I64 (a++[c])) O (G6 (q (G1 (JLm (E7 b) O (JLh (I64 ((b+1:Nat):Int)) (J2 (Hi g (G47 j)) O O O) O (JLm (I64 ((b+1:Nat):Int)) O (G6 (a6 _ _ (b+1) (a++[c]) (app1 p h) (by omega) ⟨(.sm O O),⟨⟨_,rfl,.same⟩,ø⟩,rfl⟩)))))))))
 ·
  have h:=app1 i (G7e e (Zj hb))
  refine Hg (a3 (Jr fun u=>(JLm (OW 1039 1 I64 a) O (JLm (E1 l) O (JLl G7 O O O fun a9=>?_)))))
  obtain⟨d,v,h⟩:=Gd h
  refine JLh (LT 1 I64 (a.take d,a.drop d)) (R1b (f:=I64) (xs:=a) O O O G7 (Hc v)) O (JLm (LT 1 I64 (a.take d,a.drop d)) O (G6 (u (H1 (fin1 (fun r:(Ln Int)=>(LT 1 I64 r:AV)) h)))))

def R3 (l:List (List Int)):Option (Ln (Ln Int)):=
 chk ((l.length:Int)+12) fun k=>
 bnd (Hc6 k) fun h=>
 need (decide (24*h≤281474976710656∧h≤maxLen)) <|
 each (fun i m (b:(List (Ln Int))) f=>
  bnd (Jk i) fun c=>
  need (decide ((b.length+[c].length)*24≤140737488355328∧b.length+[c].length≤maxLen)) <|
  f (b++[c]))
 (fun(b:(List (Ln Int)))=>
  need (decide (12≤9223372036854775807)) <|
  upto (fun j (a:(List (Ln Int))) g=>
   bnd (Qf 1 (j:Int)) fun d=>
   need (decide ((a.length+[(d,([]:List Int))].length)*24≤140737488355328∧a.length+[(d,([]:List Int))].length≤maxLen)) <|
   g (a++[(d,([]:List Int))]))
  (fun(a:(List (Ln Int)))=>
   bnd (Y6 (l.length:Int) a.length) fun e=>
   some (a.take e,a.drop e)) (12:Int).toNat 0 b) l 0 []
theorem G98 (l:List (List Int)) (r:(Ln (Ln Int))) (h:R3 l=some r):Pure E8 63 [LS 1 (E1) l] (·=LT 1 (LT 1 I64) r):=by
 unfold R3 at h
 refine Hb [.tmp 2] Try.func63 O O (Jr fun b7=>(JLh (LS 1 (E1) ([]:List (List Int))) (Jn 1 O O) O (G6 (b7 (Jr fun b8=>(JLm (LS 1 (E1) l) O (JLl Gc O O O fun d2=>?_)))))))
 obtain⟨v3,b9,h⟩:=Jh h
 refine JLh (I64 v3) (J2 b9 O O O) O ?_
 obtain⟨m4,c0,h⟩:=Gd h
 obtain⟨c1,h⟩:=J3 h
 refine JLh (OW 1064 1 (LT 1 I64) ([]:List (Ln Int))) (J5e 1064 O O O O Gc G42 O (J49 c0) c1) O (JLm (OW 1064 1 (LT 1 I64) ([]:List (Ln Int))) O (G6 (b8 (Js fun c2=>Jr fun c3=>(JLm (I64 0) O (G6 (c3 (Gg ?_))))))))
 obtain⟨c4,s,t,p,h⟩:=J4 h
 refine H9 (fun c (d:(List (Ln Int)))=>each c4 s (List.drop c l) c d=some r) (fun c d=>[(0,LS 1 (E1) l),(3,OW 1064 1 (LT 1 I64) d),(4,E7 c)]) (fun c d=>[(1064,.spare 25 1 d.length d.length)]) (fun c=>l.length - c) 0 [] h ⟨(.sm O O),⟨⟨_,O,.same⟩,ø⟩,O⟩ ?_
 clear h
 intro c d k d3 c5
 refine Js fun u=>Jr fun v=>(JLm (E7 c) O (JLm (LS 1 (E1) l) O (JLl Gc O O O fun w=>(JLh (BL (decide ((c:Int) < (l.length:Int)))) (Hz O O O) O (G6 (v (Gh O (fun hb=>?_) (fun hb=>?_))))))))
 ·
  have m:=Jq hb
  obtain⟨i,c9,x,z,h⟩:=Hp k m
  replace h:=Yo t h
  refine Gk (u (Js fun a0=>Gg (Jr fun a1=>(JLm (LS 1 (E1) l) O (JLm (E7 c) O (JLh (.dptr [E1 i]) (H0 (f:=(E1)) (xs:=l) (y:=i) O O O Gc x O) O (JLh (E1 i) (Gm H4 O O O) O ?_)))))))
  obtain⟨e,a2,h⟩:=Gd h
  refine JLh (LT 1 I64 e) (Gt O (Y3 i e a2) Ged ⟨O,O,ø⟩) O (JLm (LT 1 I64 e) O (G6 (a1 (G1 (JLm (OW 1064 1 (LT 1 I64) d) O (JLm (LT 1 I64 e) O (JLh (LS 1 (LT 1 I64) [e]) (H8 (xs:=[LT 1 I64 e]) O ⟨O,O,ø⟩ Gc Z2 O O O O) O ?_)))))))
  obtain⟨a3,h⟩:=J3 h
  refine JLh (OW 1064 1 (LT 1 I64) (d++[e])) (Rz (f:=(LT 1 I64)) (xs:=d) (ys:=[e]) O O O O Gc G42 a3 (fun _=>O) (.inl O) O) O (JLm (OW 1064 1 (LT 1 I64) (d++[e])) O (G6 (a0 (G1 (JLm (E7 c) O (JLh (I64 ((c+1:Nat):Int)) (J2 (Hi m w) O O O) O (JLm (I64 ((c+1:Nat):Int)) O (G6 (c5 _ _ (c+1) (d++[e]) (app1 z h) (by omega) ⟨(.sm O O),⟨⟨_,rfl,.same⟩,ø⟩,rfl⟩)))))))))
 ·
  have h:=app1 p (Hq k (Ha hb))
  refine Hg (c2 (Js fun a4=>Jr fun a5=>(JLm (I64 0) O (G6 (a5 (Gg ?_))))))
  obtain⟨a6,h⟩:=J3 h
  obtain⟨c6,a7,a8,q,h⟩:=Gbb h
  refine H9 (fun b (a:(List (Ln Int)))=>upto c6 a7 ((12:Int).toNat - b) b a=some r) (fun b a=>[(0,LS 1 (E1) l),(3,OW 1064 1 (LT 1 I64) a),(6,E7 b)]) (fun b a=>[(1064,.spare 25 1 a.length a.length)]) (fun b=>(12:Int).toNat - b) 0 d h ⟨(.sm O O),⟨⟨_,O,.same⟩,ø⟩,O⟩ ?_
  clear h
  intro b a n d4 c7
  refine Js fun a9=>Jr fun b0=>(JLm (E7 b) O (JLh (BL (decide ((b:Int) < 12))) (Hz O O O) O (G6 (b0 (Gh O (fun hb=>?_) (fun hb=>?_))))))
  ·
   have o:=G84 hb
   obtain⟨d0,b1,h⟩:=G7d n o
   replace h:=Jb8 a8 h
   refine Gk (a9 (Js fun b2=>Gg (G1 (JLm (OW 1064 1 (LT 1 I64) a) O (JLm (E7 b) O ?_)))))
   obtain⟨g,b3,h⟩:=Gd h
   refine JLh (LT 1 I64 (g,([]:List Int))) (Gj.cv (Cv.of0 g) (Gt O (G2a 1 (b:Int) g b3) He5 ⟨O,O,O,O,ø⟩)) O (JLh (LS 1 (LT 1 I64) ([(g,([]:List Int))])) (H8 (xs:=[LT 1 I64 (g,([]:List Int))]) O ⟨O,O,ø⟩ Gc Z2 O O O O) O ?_)
   obtain⟨b4,h⟩:=J3 h
   refine JLh (OW 1064 1 (LT 1 I64) (a++[(g,([]:List Int))])) (Rz (f:=(LT 1 I64)) (xs:=a) (ys:=[(g,([]:List Int))]) O O O O Gc G42 b4 (fun _=>O) (.inl O) O) O (JLm (OW 1064 1 (LT 1 I64) (a++[(g,([]:List Int))])) O (G6 (b2 (G1 (JLm (E7 b) O (JLh (I64 ((b+1:Nat):Int)) (J2 (Hi o (G47 a6)) O O O) O (JLm (I64 ((b+1:Nat):Int)) O (G6 (c7 _ _ (b+1) (a++[(g,([]:List Int))]) (app1 b1 h) (by omega) ⟨(.sm O O),⟨⟨_,rfl,.same⟩,ø⟩,rfl⟩)))))))))
  ·
   have h:=app1 q (G7e n (Zj hb))
   refine Hg (a4 (Jr fun b5=>(JLm (OW 1064 1 (LT 1 I64) a) O (JLm (LS 1 (E1) l) O (JLl Gc O O O fun d1=>?_)))))
   obtain⟨j,b6,h⟩:=Gd h
   refine JLh (LT 1 (LT 1 I64) (a.take j,a.drop j)) (R1b (f:=(LT 1 I64)) (xs:=a) O O O Gc (Hc b6)) O (JLm (LT 1 (LT 1 I64) (a.take j,a.drop j)) O (G6 (b5 (H1 (fin1 (fun r:(Ln (Ln Int))=>(LT 1 (LT 1 I64) r:AV)) h)))))

def Qt (y:Gn):Option Q8:=
 bnd (R3 y.Stacks) fun a=>
 some (Q8.mk a y.Height)
theorem G13 (y:Gn) (r:Q8) (h:Qt y=some r):Pure E8 31 [.agg [LS 1 (E1) y.Stacks,I64 y.Height]] (·=.agg [LT 1 (LT 1 I64) r.Stacks,I64 r.Height]):=by
 unfold Qt at h
 refine Hb [.cell 2 24] Try.func31 O O (Jr fun b=>(JLh (.ptr 1037 0) (Q9 (cs:=[LS 1 (E1) y.Stacks,I64 y.Height]) 1037 O O O O O) O (JLh (.ptr 1038 0) (Gb3 1038 [LS 1 (E1) ([]:List (List Int)),I64 0] [.slice none 0 0,E0] Ga0 ⟨.inr ⟨_,O,O⟩,.inl O,ø⟩ O O) O (G6 (b (Jr fun c=>(JLh (.ptr 1037 0) (Hv Hw O O) O (JLh (LS 1 (E1) y.Stacks) (Hu Gq O O O O) O ?_))))))))
 obtain⟨a,d,h⟩:=Gd h
 refine JLh (LT 1 (LT 1 I64) a) (Gt O (G98 y.Stacks a d) Je3 ⟨O,O,ø⟩) O (JLh (.ptr 1037 0) (Hv Hw O O) O (J9 (u:=.junk) (Ho (u:=LT 1 (LT 1 I64) a) (ds:=[LT 1 (LT 1 I64) a,I64 y.Height]) Ga1 O O O O O O O O) (G6 (c (H5 [(1,.dptr [LT 1 (LT 1 I64) a,I64 y.Height]),(2,.ptr 1038 0)] [(1038,.box 24 [LS 1 (E1) ([]:List (List Int)),I64 0])] 1037 rfl rfl rfl ⟨⟨_,rfl,.boxEq rfl rfl⟩,ø⟩ rfl (by exact⟨.ptr,.conv (.same rfl),ø⟩) (Jr fun e=>(JLh (.agg [LT 1 (LT 1 I64) a,I64 y.Height]) (Gv Hn O O O) O (J9 (u:=.junk) (Ho (u:=.agg [LT 1 (LT 1 I64) a,I64 y.Height]) (ds:=[LT 1 (LT 1 I64) a,I64 y.Height]) G0b O O O O O O O O) (G6 (e (H1 ?_)))))))))))
 exact⟨[.agg [LT 1 (LT 1 I64) a,I64 y.Height]],[],ø,O,⟨⟨_,⟨_,_,_,_,O,O,O,.inl ⟨Hn,O⟩⟩,.conv (.same O)⟩,ø⟩,O,congrArg (fun r:Q8=>(.agg [LT 1 (LT 1 I64) r.Stacks,I64 r.Height]:AV)) (Ey h)⟩

def Ra (l:List G8):Option (List G5):=
 each (fun a d (b:(List G5)) c=>
  need (decide ((b.length+[(G5.mk a.From a.To)].length)*16≤140737488355328∧b.length+[(G5.mk a.From a.To)].length≤maxLen)) <|
  c (b++[(G5.mk a.From a.To)]))
 (fun(b:(List G5))=>
  some b) l 0 []
theorem G51 (l:List G8) (r:(List G5)) (h:Ra l=some r):Pure E8 38 [E4 l] (·=E2 r):=by
 unfold Ra at h
 refine Hb [.tmp 2] Try.func38 O O (Jr fun t=>(JLh (E2 ([]:List G5)) (Jn 2 O O) O (G6 (t (Jr fun u=>(JLh (OW 1046 2 G5.av ([]:List G5)) (Ge3 1046 39 2 O O O) O (G6 (u (Js fun v=>Jr fun w=>(JLm (I64 0) O (G6 (w (Gg ?_)))))))))))))
 obtain⟨x,i,j,g,h⟩:=J4 h
 refine H9 (fun b (c:(List G5))=>each x i (List.drop b l) b c=some r) (fun b c=>[(0,E4 l),(3,OW 1046 2 G5.av c),(4,E7 b)]) (fun b c=>[(1046,.spare 39 2 c.length c.length)]) (fun b=>l.length - b) 0 [] h ⟨(.sm O O),⟨⟨_,O,.same⟩,ø⟩,O⟩ ?_
 clear h
 intro b c d a2 z
 refine Js fun k=>Jr fun m=>(JLm (E7 b) O (JLm (E4 l) O (JLl Y0 O O O fun a0=>(JLh (BL (decide ((b:Int) < (l.length:Int)))) (Hz O O O) O (G6 (m (Gh O (fun hb=>?_) (fun hb=>?_))))))))
 ·
  have e:=Jq hb
  obtain⟨a,a1,n,o,h⟩:=Hp d e
  replace h:=Yo j h
  refine Gk (k (Js fun p=>Gg (G1 (JLm (OW 1046 2 G5.av c) O (JLm (E4 l) O (JLm (E7 b) O (JLh (.dptr [I64 a.From,I64 a.To]) (H0 (f:=G8.av) (xs:=l) (y:=a) O O O Y0 n O) O (JLh (.agg [I64 a.From,I64 a.To]) (Gv G1a O O O) O (JLh (E2 [(G5.mk a.From a.To)]) (H8 (xs:=[.agg [I64 a.From,I64 a.To]]) O ⟨O,O,ø⟩ Ja G48 O O O O) O ?_)))))))))
  obtain⟨q,h⟩:=J3 h
  refine JLh (OW 1046 2 G5.av (c++[(G5.mk a.From a.To)])) (Rz (f:=G5.av) (xs:=c) (ys:=[(G5.mk a.From a.To)]) O O O O Ja Ge8 q (fun _=>O) (.inl O) O) O (JLm (OW 1046 2 G5.av (c++[(G5.mk a.From a.To)])) O (G6 (p (G1 (JLm (E7 b) O (JLh (I64 ((b+1:Nat):Int)) (J2 (Hi e a0) O O O) O (JLm (I64 ((b+1:Nat):Int)) O (G6 (z _ _ (b+1) (c++[(G5.mk a.From a.To)]) (app1 o h) (by omega) ⟨(.sm O O),⟨⟨_,rfl,.same⟩,ø⟩,rfl⟩)))))))))
 ·
  have h:=app1 g (Hq d (Ha hb))
  refine Hg (v (Jr fun s=>(JLm (OW 1046 2 G5.av c) O (JLm (OW 1046 2 G5.av c) O (G6 (s (H1 (fin1l (fun r:(List G5)=>(E2 r:AV)) h))))))))

def R2 (F:Nat) (y:Gn) (order:List Int):Option Bool:=
 bnd (Qt y) fun f=>
 bnd (Jk order) fun j=>
 bnd (Z8 (Gn.mk (f.Stacks.1.map Prod.fst) f.Height) j.1) fun a=>
 bnd (Qo F (Gp.mk y.Stacks y.Height) order) fun b=>
 bnd (Z5 (Gn.mk (f.Stacks.1.map Prod.fst) f.Height) j.1) fun c=>
 bnd (Qs F (Gp.mk y.Stacks y.Height) order) fun d=>
 bnd (Jv F (Gn.mk (f.Stacks.1.map Prod.fst) f.Height) j.1) fun g=>
 bnd (J5 F (Gp.mk y.Stacks y.Height) order) fun h=>
 bnd (bif ((a.1==b.1)&&(decide (a.2=b.2))) then Jy c.1 d.1 else some default) fun e=>
 bnd (bif ((((a.1==b.1)&&(decide (a.2=b.2)))&&e)&&(decide (c.2=d.2))) then Ra h.1 else some default) fun l=>
 bnd (bif ((((a.1==b.1)&&(decide (a.2=b.2)))&&e)&&(decide (c.2=d.2))) then Jp g.1 l else some default) fun i=>
 bnd (bif ((((((a.1==b.1)&&(decide (a.2=b.2)))&&e)&&(decide (c.2=d.2)))&&i)&&(decide (g.2=h.2))) then Qk f y else some default) fun k=>
 bnd (bif (((((((a.1==b.1)&&(decide (a.2=b.2)))&&e)&&(decide (c.2=d.2)))&&i)&&(decide (g.2=h.2)))&&k) then Jm j order else some default) fun m=>
 some ((((((((a.1==b.1)&&(decide (a.2=b.2)))&&e)&&(decide (c.2=d.2)))&&i)&&(decide (g.2=h.2)))&&k)&&m)
theorem G97 (F:Nat) (y:Gn) (order:List Int) (r:Bool) (h:R2 F y order=some r):Pure E8 21 [.agg [LS 1 (E1) y.Stacks,I64 y.Height],E1 order] (·=BL r):=by
 unfold R2 at h
 refine Hb [.tmp 4] Try.func21 O O (Jr fun a8=>(JLh (.ptr 1026 0) (Q9 (cs:=[LS 1 (E1) y.Stacks,I64 y.Height]) 1026 O O O O O) O (JLm (BL false) O (G6 (a8 (H5 [(1,E1 order),(2,.dptr [LS 1 (E1) y.Stacks,I64 y.Height])] [] 1026 rfl rfl rfl ø rfl (by exact⟨.conv (.same rfl),.ptr,ø⟩) (Jr fun a9=>(JLh (.agg [LS 1 (E1) y.Stacks,I64 y.Height]) (Gv Hn O O O) O ?_))))))))
 obtain⟨c,b0,h⟩:=Gd h
 refine JLh (.agg [LT 1 (LT 1 I64) c.Stacks,I64 c.Height]) (Gt O (G13 y c b0) H54 ⟨O,O,ø⟩) O (JLm (E1 order) O ?_)
 obtain⟨l,b1,h⟩:=Gd h
 refine JLh (LT 1 I64 l) (Gt O (Y3 order l b1) Ged ⟨O,O,ø⟩) O (JLh (.ptr 1027 0) (Ji 1027 2 G22 O O) O (J9 (u:=.junk) (Ho (u:=.agg [LT 1 (LT 1 I64) c.Stacks,I64 c.Height]) (ds:=[LT 1 (LT 1 I64) c.Stacks,I64 c.Height]) G0b O O O O O O O O) (JLm (LT 1 I64 l) O (G6 (a9 (fzQ [(1,E1 order),(2,.dptr [LS 1 (E1) y.Stacks,I64 y.Height]),(5,.dptr [LT 1 (LT 1 I64) c.Stacks,I64 c.Height]),(6,LT 1 I64 l)] [] 1027 rfl rfl rfl ø rfl ?_))))))
 refine Jr fun b2=>(JLh (.agg [LS 1 (E1) y.Stacks,I64 y.Height]) (Gv Hn O O O) O (JLh (.ptr 1028 0) (Ji 1028 2 Yi O O) O (J9 (u:=.junk) (Ho (u:=.agg [LS 1 (E1) y.Stacks,I64 y.Height]) (ds:=[LS 1 (E1) y.Stacks,I64 y.Height]) Q5 O O O O O O O O) (G6 (b2 (fzQ [(1,E1 order),(2,.dptr [LS 1 (E1) y.Stacks,I64 y.Height]),(5,.dptr [LT 1 (LT 1 I64) c.Stacks,I64 c.Height]),(6,LT 1 I64 l),(7,.dptr [LS 1 (E1) y.Stacks,I64 y.Height])] [] 1028 rfl rfl rfl ø rfl ?_))))))
 refine Jr fun b3=>(JLh (.agg [LS 1 (E1) (c.Stacks.1.map Prod.fst),I64 c.Height]) (Gj.cv (Cv.aggL (cs:=[LT 1 (LT 1 I64) c.Stacks,I64 c.Height]) ⟨Cv.lstM (f:=(LT 1 I64)) (g:=(E1)) Prod.fst (fun x=>⟨Cv.lst0 x,ø⟩) c.Stacks,.same,ø⟩) (Gv Hn O O O)) O (JLh (E1 l.1) (Gj.cv (Cv.lst0 l) (G2 O O)) O ?_))
 obtain⟨a,b4,h⟩:=Gd h
 refine JLh (.tup [BL a.1,I64 a.2]) (Gt O (H66 (Gn.mk (c.Stacks.1.map Prod.fst) c.Height) l.1 a b4) Jf2 ⟨O,O,O,O,ø⟩) O (JLm (.tup [BL a.1,I64 a.2]) O (JLh (BL a.1) (Gu O O O) O (JLh (I64 a.2) (Gu O O O) O (JLm (BL a.1) O (JLm (I64 a.2) O (G6 (b3 (Jr fun b5=>(JLh (.agg [LS 1 (E1) y.Stacks,I64 y.Height]) (Gv He O O O) O (JLm (E1 order) O ?_))))))))))
 obtain⟨b,b6,h⟩:=Gd h
 refine JLh (.tup [BL b.1,I64 b.2]) (Gt O (Gb7 F (Gp.mk y.Stacks y.Height) order b b6) Jea ⟨O,O,O,O,ø⟩) O (JLm (.tup [BL b.1,I64 b.2]) O (JLh (BL b.1) (Gu O O O) O (JLh (I64 b.2) (Gu O O O) O (JLm (BL b.1) O (JLm (I64 b.2) O (G6 (b5 (Jr fun q=>(JLh (.agg [LS 1 (E1) (c.Stacks.1.map Prod.fst),I64 c.Height]) (Gj.cv (Cv.aggL (cs:=[LT 1 (LT 1 I64) c.Stacks,I64 c.Height]) ⟨Cv.lstM (f:=(LT 1 I64)) (g:=(E1)) Prod.fst (fun x=>⟨Cv.lst0 x,ø⟩) c.Stacks,.same,ø⟩) (Gv Hn O O O)) O (JLh (E1 l.1) (Gj.cv (Cv.lst0 l) (G2 O O)) O ?_))))))))))
 obtain⟨d,s,h⟩:=Gd h
 refine JLh (.tup [E1 d.1,I64 d.2]) (Gt O (H07 (Gn.mk (c.Stacks.1.map Prod.fst) c.Height) l.1 d s) Hf1 ⟨O,O,O,O,ø⟩) O (JLm (.tup [E1 d.1,I64 d.2]) O (JLh (E1 d.1) (Gu O O O) O (JLh (I64 d.2) (Gu O O O) O (JLm (E1 d.1) O (JLm (I64 d.2) O (G6 (q (Jr fun t=>(JLh (.agg [LS 1 (E1) y.Stacks,I64 y.Height]) (Gv He O O O) O (JLm (E1 order) O ?_))))))))))
 obtain⟨e,v,h⟩:=Gd h
 refine JLh (.tup [E1 e.1,I64 e.2]) (Gt O (G61 F (Gp.mk y.Stacks y.Height) order e v) Hed ⟨O,O,O,O,ø⟩) O (JLm (.tup [E1 e.1,I64 e.2]) O (JLh (E1 e.1) (Gu O O O) O (JLh (I64 e.2) (Gu O O O) O (JLm (E1 e.1) O (JLm (I64 e.2) O (G6 (t (Jr fun w=>(JLh (.agg [LS 1 (E1) (c.Stacks.1.map Prod.fst),I64 c.Height]) (Gj.cv (Cv.aggL (cs:=[LT 1 (LT 1 I64) c.Stacks,I64 c.Height]) ⟨Cv.lstM (f:=(LT 1 I64)) (g:=(E1)) Prod.fst (fun x=>⟨Cv.lst0 x,ø⟩) c.Stacks,.same,ø⟩) (Gv Hn O O O)) O (JLh (E1 l.1) (Gj.cv (Cv.lst0 l) (G2 O O)) O ?_))))))))))
 obtain⟨i,z,h⟩:=Gd h
 refine JLh (.tup [E2 i.1,I64 i.2]) (Gt O (Yy F (Gn.mk (c.Stacks.1.map Prod.fst) c.Height) l.1 i z) Ga5 ⟨O,O,O,O,ø⟩) O (JLm (.tup [E2 i.1,I64 i.2]) O (JLh (E2 i.1) (Gu O O O) O (JLh (I64 i.2) (Gu O O O) O (JLm (E2 i.1) O (JLm (I64 i.2) O (G6 (w (Jr fun a0=>(JLh (.agg [LS 1 (E1) y.Stacks,I64 y.Height]) (Gv He O O O) O (JLm (E1 order) O ?_))))))))))
 obtain⟨j,a1,h⟩:=Gd h
 refine JLh (.tup [E4 j.1,I64 j.2]) (Gt O (Gae F (Gp.mk y.Stacks y.Height) order j a1) Je9 ⟨O,O,O,O,ø⟩) O (JLm (.tup [E4 j.1,I64 j.2]) O (JLh (E4 j.1) (Gu O O O) O (JLh (I64 j.2) (Gu O O O) O (JLm (E4 j.1) O (JLm (I64 j.2) O (G6 (a0 ?_)))))))
 refine Jr fun a2=>(JLm (BL a.1) O (JLm (BL b.1) O (JLh (BL (a.1==b.1)) (Jca J3f O O O) O (JLm (BL (a.1==b.1)) O (JLo (I64 a.2) [] O .sct ø (fun hc=>G2 O O) O (JLo (I64 b.2) [] O .sct ø (fun hc=>G2 O O) O (JLo (BL (decide (a.2=b.2))) [65,66] O .sct ⟨Ua,Ua,ø⟩ (fun hc=>Ym O O O) O (JLh (BL ((a.1==b.1)&&(decide (a.2=b.2)))) (Yn O O O O) O (JLm (BL ((a.1==b.1)&&(decide (a.2=b.2)))) O (JLo (E1 d.1) [] O .sct ø (fun hc=>G2 O O) O (JLo (E1 e.1) [] O .sct ø (fun hc=>G2 O O) O ?_)))))))))))
 obtain⟨k,a3,h⟩:=Gd h
 refine JLo (BL k) [70,71] O .sct ⟨Ua,Ua,ø⟩ (fun hc=>Gt (args:=[E1 d.1,E1 e.1]) O (Zf d.1 e.1 k (H6 hc a3)) H52 ⟨O,O,O,O,ø⟩) O (JLh (BL (((a.1==b.1)&&(decide (a.2=b.2)))&&k)) (Yn O O O O) O (JLm (BL (((a.1==b.1)&&(decide (a.2=b.2)))&&k)) O (JLo (I64 d.2) [] O .sct ø (fun hc=>G2 O O) O (JLo (I64 e.2) [] O .sct ø (fun hc=>G2 O O) O (JLo (BL (decide (d.2=e.2))) [75,76] O .sct ⟨Ua,Ua,ø⟩ (fun hc=>Ym O O O) O (JLh (BL ((((a.1==b.1)&&(decide (a.2=b.2)))&&k)&&(decide (d.2=e.2)))) (Yn O O O O) O (JLm (BL ((((a.1==b.1)&&(decide (a.2=b.2)))&&k)&&(decide (d.2=e.2)))) O (JLo (E2 i.1) [] O .sct ø (fun hc=>G2 O O) O (JLo (E4 j.1) [] O .sct ø (fun hc=>G2 O O) O ?_)))))))))
 obtain⟨o,a4,h⟩:=Gd h
 refine JLo (E2 o) [81] O .sct ⟨Ua,ø⟩ (fun hc=>Gt (args:=[E4 j.1]) O (G51 j.1 o (H6 hc a4)) Hef ⟨O,O,ø⟩) O ?_
 obtain⟨m,a5,h⟩:=Gd h
 refine JLo (BL m) [80,82] O .sct ⟨Ua,Ua,ø⟩ (fun hc=>Gt (args:=[E2 i.1,E2 o]) O (Qp i.1 o m (H6 hc a5)) G6d ⟨O,O,O,O,ø⟩) O (JLh (BL (((((a.1==b.1)&&(decide (a.2=b.2)))&&k)&&(decide (d.2=e.2)))&&m)) (Yn O O O O) O (JLm (BL (((((a.1==b.1)&&(decide (a.2=b.2)))&&k)&&(decide (d.2=e.2)))&&m)) O (JLo (I64 i.2) [] O .sct ø (fun hc=>G2 O O) O (JLo (I64 j.2) [] O .sct ø (fun hc=>G2 O O) O (JLo (BL (decide (i.2=j.2))) [86,87] O .sct ⟨Ua,Ua,ø⟩ (fun hc=>Ym O O O) O (JLh (BL ((((((a.1==b.1)&&(decide (a.2=b.2)))&&k)&&(decide (d.2=e.2)))&&m)&&(decide (i.2=j.2)))) (Yn O O O O) O (JLm (BL ((((((a.1==b.1)&&(decide (a.2=b.2)))&&k)&&(decide (d.2=e.2)))&&m)&&(decide (i.2=j.2)))) O (JLo (.agg [LT 1 (LT 1 I64) c.Stacks,I64 c.Height]) [] O .sct ø (fun hc=>Gv Hn O O O) O (JLo (.agg [LS 1 (E1) y.Stacks,I64 y.Height]) [] O .sct ø (fun hc=>Gv Hn O O O) O ?_)))))))))
 obtain⟨n,a6,h⟩:=Gd h
 refine JLo (BL n) [91,92] O .sct ⟨Ua,Ua,ø⟩ (fun hc=>Gt (args:=[.agg [LT 1 (LT 1 I64) c.Stacks,I64 c.Height],.agg [LS 1 (E1) y.Stacks,I64 y.Height]]) O (G04 c y n (H6 hc a6)) H53 ⟨O,O,O,O,ø⟩) O (JLh (BL (((((((a.1==b.1)&&(decide (a.2=b.2)))&&k)&&(decide (d.2=e.2)))&&m)&&(decide (i.2=j.2)))&&n)) (Yn O O O O) O (JLm (BL (((((((a.1==b.1)&&(decide (a.2=b.2)))&&k)&&(decide (d.2=e.2)))&&m)&&(decide (i.2=j.2)))&&n)) O (JLo (LT 1 I64 l) [] O .sct ø (fun hc=>G2 O O) O (JLo (E1 order) [] O .sct ø (fun hc=>G2 O O) O ?_))))
 obtain⟨p,a7,h⟩:=Gd h
 refine JLo (BL p) [96,97] O .sct ⟨Ua,Ua,ø⟩ (fun hc=>Gt (args:=[LT 1 I64 l,E1 order]) O (Y4 l order p (H6 hc a7)) Gec ⟨O,O,O,O,ø⟩) O (JLh (BL ((((((((a.1==b.1)&&(decide (a.2=b.2)))&&k)&&(decide (d.2=e.2)))&&m)&&(decide (i.2=j.2)))&&n)&&p)) (Yn O O O O) O (JLm (BL ((((((((a.1==b.1)&&(decide (a.2=b.2)))&&k)&&(decide (d.2=e.2)))&&m)&&(decide (i.2=j.2)))&&n)&&p)) O (G6 (a2 (H1 (fin1 BL h))))))
end
end Go.Proofs.Ytokjlondbjdlfaa
