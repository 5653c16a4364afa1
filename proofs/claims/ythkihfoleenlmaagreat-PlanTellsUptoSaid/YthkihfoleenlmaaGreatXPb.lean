/- Walks of functions. -/
import Derived.Test.YthkihfoleenlmaaGreatXPa
set_option maxRecDepth 100000
set_option maxHeartbeats 1000000
set_option linter.unusedVariables false
set_option linter.unusedSimpArgs false
namespace Go.Proofs.YthkihfoleenlmaaGreat
open Go.RowKit
noncomputable section
open XAF
open XLF
open XPF

def Y5 (bx:List Box) (calls:Int):Option Bool:=
 bif (((decide (calls < 1))||(decide (20 < calls)))||(decide (2000 < (bx.length:Int)))) then
 (some false)
 else
 (each (fun a b (d:Unit) c=>
   bnd (bif ((!((decide (a.ID < 1))||(decide (999999 < a.ID))))&&(decide (0 < (b:Int)))) then chk ((b:Int) - 1) some else some 0) fun e=>
   bnd (bif ((!((decide (a.ID < 1))||(decide (999999 < a.ID))))&&(decide (0 < (b:Int)))) then Jo bx e some else some default) fun f=>
   bif (((decide (a.ID < 1))||(decide (999999 < a.ID)))||((decide (0 < (b:Int)))&&(decide (a.ID≤f.ID)))) then
   (some false)
   else
   (bif (((decide (a.Size≠20))&&(decide (a.Size≠40)))||((decide (a.Size=20))&&a.High)) then
    (some false)
    else
    (bif (((decide (a.Load < 0))||(decide (a.Discharge≤a.Load)))||(decide (calls≤a.Discharge))) then
     (some false)
     else
     (c ()))))
  (fun(d:Unit)=>
   some true) bx 0 ())
abbrev M8 (calls:Int):Bool:=((decide (calls < 1))||(decide (20 < calls)))
theorem iS (bx:List Box) (calls:Int) (r:Bool) (h:Y5 bx calls=some r):Pure Ek 14 [E3 bx,I64 calls] (·=BL r):=by
 unfold Y5 at h
 refine Gy [.tmp 4] Tryz.func14 G G (Jr fun a6=>(JLm (BL false) G (G5 (a6 (Js fun a7=>?_)))))
 refine Jr fun a8=>(JLm (I64 calls) G (JLh (BL (decide (calls < 1))) (Hr G G G) G (JLm (BL (decide (calls < 1))) G (JLo (I64 calls) [] G .scf U (fun hc=>G3 G G) G (JLo (BL (decide (20 < calls))) [10] G .scf ⟨Ua,U⟩ (fun hc=>dE G G G) G (JLh (BL (M8 calls)) (Rm G G G G) G (JLm (BL (M8 calls)) G (JLo (E3 bx) [] G .scf U (fun hc=>G3 G G) G (JLo (Ej bx.length) [14] G .scf ⟨Ua,U⟩ (fun hc=>Q8 (f:=Box.av) (xs:=bx) J3 G G) G (JLo (BL (decide (2000 < (bx.length:Int)))) [15] G .scf ⟨Ua,U⟩ (fun hc=>dE G G G) G (JLh (BL ((M8 calls)||(decide (2000 < (bx.length:Int))))) (Rm G G G G) G (G5 (a8 (JCc G h (fun h hb=>?_) (fun h hb=>?_)))))))))))))))
 ·
  refine Jr fun a9=>(JLm (BL false) G (G5 (a9 (Gs (fin1 BL h)))))
 ·
  refine Gn (a7 (Js fun b0=>Jr fun b1=>(JLm (I64 0) G (G5 (b1 (Gf ?_))))))
  obtain⟨b2,j,k,i,h⟩:=Hy h
  refine H8 (fun b (d:Unit)=>each b2 j (List.drop b bx) b d=some r) (fun b d=>[(0,E3 bx),(1,I64 calls),(5,Ej b)]) (fun b d=>[]) (fun b=>bx.length - b) 0 () h ⟨(.sm G G),U,G⟩ ?_
  clear h
  intro b d e b6 b3
  refine Js fun l=>Jr fun m=>(JLm (Ej b) G (JLm (E3 bx) G (JLl J3 G G G fun n=>(JLh (BL (decide ((b:Int) < (bx.length:Int)))) (Hr G G G) G (G5 (m (Gg G (fun hb=>?_) (fun hb=>?_))))))))
  ·
   have g:=Je hb
   obtain⟨a,b5,o,p,h⟩:=Hh e g
   replace h:=Rx k h
   refine Gn (l (Js fun q=>Gf (Jr fun s=>(JLm (E3 bx) G (JLm (Ej b) G (JLh (Eg a) (Gr (f:=Box.av) (xs:=bx) (y:=a) G G G J3 o G) G (JLh (.agg (Box.cs a)) (Gj bN G G G) G (JLh (.ptr 1021 0) (Jp 1021 9 dX G G) G (J7 (u:=.junk) (Hv (u:=.agg (Box.cs a)) (ds:=(Box.cs a)) cJ G G G G G G G G) (G5 (s (fzQ [(0,E3 bx),(1,I64 calls),(5,Ej b),(6,Eg a)] [] 1021 rfl rfl rfl U rfl (Js fun t=>Js fun v=>?_)))))))))))))
   obtain⟨b4,w,h⟩:=Gd h
   obtain⟨c,x,h⟩:=Gd h
   refine JC_d0 Jd (by kernel_rfl) (Dq (Eg a) (Ga Yq G G G) G (Dq (I64 a.ID) (Ge Gb G G G) G (Dq (BL (decide (a.ID < 1))) (Hr G G G) G (Dq (BL (decide (a.ID < 1))) (G3 G G) G (Do (Eg a) [] G .scf U (fun hc=>Ga Yq G G G) G (Do (I64 a.ID) [32] G .scf ⟨Ua,U⟩ (fun hc=>Ge Gb G G G) G (Do (BL (decide (999999 < a.ID))) [33] G .scf ⟨Ua,U⟩ (fun hc=>dE G G G) G (Dq (BL ((decide (a.ID < 1))||(decide (999999 < a.ID)))) (Rm G G G G) G (Dq (BL ((decide (a.ID < 1))||(decide (999999 < a.ID)))) (G3 G G) G (Do (Ej b) [] G .scf U (fun hc=>G3 G G) G (Do (BL (decide (0 < (b:Int)))) [37] G .scf ⟨Ua,U⟩ (fun hc=>dE G G G) G (Do (BL (decide (0 < (b:Int)))) [38] G .scf ⟨Ua,U⟩ (fun hc=>G3 G G) G (Do (E3 bx) [] G .optt U (fun hc=>G3 G G) G ?_)))))))))))))
   refine Do (Ej b) [] G .optt U (fun hc=>G3 G G) G (Do (I64 b4) [41] G .optt ⟨Ua,U⟩ (fun hc=>kX (aM (Gv hc w)) G G G) G (Do (Eg c) [40,42] G .optt ⟨Ua,Ua,U⟩ (fun hc=>(match Jt (Gv hc x) with | ⟨_,hm_,hy_⟩=>Gr (f:=Box.av) (xs:=bx) (y:=c) G G G J3 hy_ hm_)) G (Do (Eg c) [43] G .optt ⟨Ua,U⟩ (fun hc=>Ga Yq G G G) G (Do (I64 c.ID) [44] G .optt ⟨Ua,U⟩ (fun hc=>Ge Gb G G G) G (Do (Eg a) [] G .optt U (fun hc=>Ga Yq G G G) G (Do (I64 a.ID) [46] G .optt ⟨Ua,U⟩ (fun hc=>Ge Gb G G G) G (Do (BL (decide (a.ID≤c.ID))) [45,47] G .optt ⟨Ua,Ua,U⟩ (fun hc=>cH G G G) G (Dg (.opt (!((decide (a.ID < 1))||(decide (999999 < a.ID)))) (BL ((decide (0 < (b:Int)))&&(decide (a.ID≤c.ID))))) (Gc [(39,BL (decide (0 < (b:Int)))),(48,_)] G G G .scf ⟨.all id,.part,U⟩ (fun hc=>J9 G G G G) G) G (Dq (BL (((decide (a.ID < 1))||(decide (999999 < a.ID)))||((decide (0 < (b:Int)))&&(decide (a.ID≤c.ID))))) (Rm G G G G) G (Dnil ?_))))))))))
   refine v (JCc G h (fun h hb=>?_) (fun h hb=>?_))
   ·
    refine Jr fun z=>(JLm (BL false) G (G5 (z (Gs (fin1 BL h)))))
   ·
    refine Gn (t (Js fun a0=>?_))
    refine Jr fun a1=>(JLh (.dptr ((Box.cs a).drop 2)) (Ga eI G G G) G (JLh (U8 a.Size) (Ge Jw G G G) G (JLh (BL (decide (a.Size≠20))) (aH G G G) G (JLm (BL (decide (a.Size≠20))) G (JLo (.dptr ((Box.cs a).drop 2)) [] G .sct U (fun hc=>Ga eI G G G) G (JLo (U8 a.Size) [55] G .sct ⟨Ua,U⟩ (fun hc=>Ge Jw G G G) G (JLo (BL (decide (a.Size≠40))) [56] G .sct ⟨Ua,U⟩ (fun hc=>aH G G G) G (JLh (BL ((decide (a.Size≠20))&&(decide (a.Size≠40)))) (J9 G G G G) G (JLm (BL ((decide (a.Size≠20))&&(decide (a.Size≠40)))) G (JLo (.dptr ((Box.cs a).drop 2)) [] G .scf U (fun hc=>Ga eI G G G) G (JLo (U8 a.Size) [60] G .scf ⟨Ua,U⟩ (fun hc=>Ge Jw G G G) G (JLo (BL (decide (a.Size=20))) [61] G .scf ⟨Ua,U⟩ (fun hc=>Qc G G G) G (JLo (BL (decide (a.Size=20))) [62] G .scf ⟨Ua,U⟩ (fun hc=>G3 G G) G ?_)))))))))))))
    refine JLo (.dptr ((Box.cs a).drop 3)) [] G .optt U (fun hc=>Ga lU G G G) G (JLo (BL a.High) [64] G .optt ⟨Ua,U⟩ (fun hc=>Ge Ye G G G) G (G9 (u:=BL ((decide (a.Size=20))&&a.High)) [(63,BL (decide (a.Size=20))),(65,_)] G G G .scf ⟨.all id,.part,U⟩ (fun hc=>J9 G G G G) ?_))
    refine JLh (BL (((decide (a.Size≠20))&&(decide (a.Size≠40)))||((decide (a.Size=20))&&a.High))) (Rm G G G G) G (G5 (a1 (JCc G h (fun h hb=>?_) (fun h hb=>?_))))
    ·
     refine Jr fun a2=>(JLm (BL false) G (G5 (a2 (Gs (fin1 BL h)))))
    ·
     refine Gn (a0 ?_)
     refine Jr fun a3=>(JLh (.dptr ((Box.cs a).drop 5)) (Ga fT G G G) G (JLh (I64 a.Load) (Ge Gb G G G) G (JLh (BL (decide (a.Load < 0))) (Hr G G G) G (JLm (BL (decide (a.Load < 0))) G (JLo (.dptr ((Box.cs a).drop 6)) [] G .scf U (fun hc=>Ga fS G G G) G (JLo (I64 a.Discharge) [72] G .scf ⟨Ua,U⟩ (fun hc=>Ge Gb G G G) G (JLo (.dptr ((Box.cs a).drop 5)) [] G .scf U (fun hc=>Ga fT G G G) G (JLo (I64 a.Load) [74] G .scf ⟨Ua,U⟩ (fun hc=>Ge Gb G G G) G (JLo (BL (decide (a.Discharge≤a.Load))) [73,75] G .scf ⟨Ua,Ua,U⟩ (fun hc=>rQ G G G) G (JLh (BL ((decide (a.Load < 0))||(decide (a.Discharge≤a.Load)))) (Rm G G G G) G (JLm (BL ((decide (a.Load < 0))||(decide (a.Discharge≤a.Load)))) G (JLo (.dptr ((Box.cs a).drop 6)) [] G .scf U (fun hc=>Ga fS G G G) G (JLo (I64 a.Discharge) [79] G .scf ⟨Ua,U⟩ (fun hc=>Ge Gb G G G) G ?_)))))))))))))
     refine JLo (I64 calls) [] G .scf U (fun hc=>G3 G G) G (JLo (BL (decide (calls≤a.Discharge))) [80,81] G .scf ⟨Ua,Ua,U⟩ (fun hc=>cH G G G) G (JLh (BL (((decide (a.Load < 0))||(decide (a.Discharge≤a.Load)))||(decide (calls≤a.Discharge)))) (Rm G G G G) G (G5 (a3 (JCc G h (fun h hb=>?_) (fun h hb=>?_))))))
     ·
      refine Jr fun a4=>(JLm (BL false) G (G5 (a4 (Gs (fin1 BL h)))))
     ·
      refine Gn (q (G1 (JLm (Ej b) G (JLh (I64 ((b+1:Nat):Int)) (Hs (Hb g n) G G G) G (JLm (I64 ((b+1:Nat):Int)) G (G5 (b3 _ _ (b+1) () (app1 p h) (by omega) ⟨(.sm G G),U,rfl⟩)))))))
  ·
   have h:=app1 i (Hi e (H6 hb))
   refine H9 (b0 (Jr fun a5=>(JLm (BL true) G (G5 (a5 (Gs (fin1 BL h)))))))

def Ze (bx:List Box) (id_:Int):Option (Box×Bool):=
 each (fun a d (c:Unit) b=>
  bif decide (a.ID=id_) then
  (some (a,true))
  else
  (b ()))
 (fun(c:Unit)=>
  some ((Box.mk 0 ByteArray.empty 0 false 0 0 0 0 false),false)) bx 0 ()
abbrev M9:List AV:=[I64 0,ST P5,U8 0,BL false,I64 0,I64 0,I64 0,U8 0,BL false]
theorem jV (bx:List Box) (id_:Int) (r:Box×Bool) (h:Ze bx id_=some r):Pure Ek 110 [E3 bx,I64 id_] (·=.tup [.agg (Box.cs r.1),BL r.2]):=by
 unfold Ze at h
 refine Gy [.cell 4 77,.tmp 5] Tryz.func110 G G (Jr fun t=>(JLh (.ptr 1124 0) (Rn 1124 M9 [E0,.string ByteArray.empty,.int .u8 0,.bool false,E0,E0,E0,.int .u8 0,.bool false] fG (zzQ G) G G) G (JLm (BL false) G (G5 (t (Js fun v=>Jr fun w=>(JLm (I64 0) G (G5 (w (Gf ?_))))))))))
 obtain⟨x,j,k,i,h⟩:=Hy h
 refine H8 (fun a (c:Unit)=>each x j (List.drop a bx) a c=some r) (fun a c=>[(0,E3 bx),(1,I64 id_),(4,.ptr 1124 0),(6,Ej a)]) (fun a c=>[(1124,.box 77 M9)]) (fun a=>bx.length - a) 0 () h ⟨(.sm G G),⟨fbQ G (.sm G G),U⟩,rfl⟩ ?_
 clear h
 intro a c d a2 z
 refine Js fun l=>Jr fun m=>(JLm (Ej a) G (JLm (E3 bx) G (JLl J3 G G G fun a0=>(JLh (BL (decide ((a:Int) < (bx.length:Int)))) (Hr G G G) G (G5 (m (Gg G (fun hb=>?_) (fun hb=>?_))))))))
 ·
  have e:=Je hb
  obtain⟨b,a1,g,n,h⟩:=Hh d e
  replace h:=Rx k h
  refine Gn (l (Js fun o=>Gf (Jr fun p=>(JLm (E3 bx) G (JLm (Ej a) G (JLh (Eg b) (Gr (f:=Box.av) (xs:=bx) (y:=b) G G G J3 g G) G (JLh (Eg b) (Ga Yq G G G) G (JLh (I64 b.ID) (Ge Gb G G G) G (JLm (I64 id_) G (JLh (BL (decide (b.ID=id_))) (Qc G G G) G (G5 (p (JCc G h (fun h hb=>?_) (fun h hb=>?_))))))))))))))
  ·
   refine Jr fun q=>(JLm (E3 bx) G (JLm (Ej a) G (JLh (Eg b) (Gr (f:=Box.av) (xs:=bx) (y:=b) G G G J3 g G) G (JLh (.agg (Box.cs b)) (Gj bN G G G) G (J7 (u:=.junk) (Hv (u:=.agg (Box.cs b)) (ds:=(Box.cs b)) cJ G G G G G G G G) (JLm (BL true) G (G5 (q (Gs (⟨[.agg (Box.cs b),BL true],[],U,G,⟨⟨_,⟨_,_,_,_,G,G,G,.inl ⟨bN,G⟩⟩,.conv (.same G)⟩,⟨_,G,.conv (.same G)⟩,U⟩,G,congrArg (fun r:Box×Bool=>(.tup [.agg (Box.cs r.1),BL r.2]:AV)) (Pc h)⟩))))))))))
  ·
   refine Gn (o (G1 (JLm (Ej a) G (JLh (I64 ((a+1:Nat):Int)) (Hs (Hb e a0) G G G) G (JLm (I64 ((a+1:Nat):Int)) G (G5 (z _ _ (a+1) () (app1 n h) (by omega) ⟨(.sm G G),⟨fbQ G (.sm G G),U⟩,rfl⟩)))))))
 ·
  have h:=app1 i (Hi d (H6 hb))
  refine H9 (v ?_)
  refine Jr fun s=>(JLh (.agg M9) (Jq (cs:=M9) [(0,1),(1,1),(2,1),(3,1),(4,1),(5,1),(6,1),(7,1),(8,1)] M9 [E0,.string ByteArray.empty,.int .u8 0,.bool false,E0,E0,E0,.int .u8 0,.bool false] hY fG (zzQ G) G G) G (J7 (u:=.junk) (Hv (u:=.agg M9) (ds:=M9) cJ G G G G G G G G) (JLm (BL false) G (G5 (s ?_)))))
  refine Gs (⟨[.agg M9,BL false],[],U,G,⟨⟨_,⟨_,_,_,_,G,G,G,.inl ⟨bN,G⟩⟩,.conv (.same G)⟩,⟨_,G,.conv (.same G)⟩,U⟩,G,congrArg (fun r:Box×Bool=>(.tup [.agg (Box.cs r.1),BL r.2]:AV)) (Pc h)⟩)

def aP (s:Gq) (x:Slot) (size:Int):Option Bool:=
 bnd (bif (!(((decide (x.G6 < 0))||(decide ((s.Columns.length:Int)≤x.G6)))||(decide (x.Tier < 0)))) then Jo s.Columns x.G6 some else some default) fun a=>
 bif ((((decide (x.G6 < 0))||(decide ((s.Columns.length:Int)≤x.G6)))||(decide (x.Tier < 0)))||(decide (a.Tiers≤x.Tier))) then
 (some false)
 else
 (some (((decide (size=40))&&(decide (x.Half=0)))||((decide (size=20))&&((decide (x.Half=1))||(decide (x.Half=2))))))
abbrev Ma (x:Slot) (s:Gq):Bool:=((decide (x.G6 < 0))||(decide ((s.Columns.length:Int)≤x.G6)))
abbrev Mb (x:Slot):List AV:=[I64 x.G6,I64 x.Tier,U8 x.Half]
abbrev Mc (x:Slot):Bool:=((decide (x.Half=1))||(decide (x.Half=2)))
abbrev Md (size:Int) (x:Slot):Bool:=((decide (size=40))&&(decide (x.Half=0)))
theorem sB (s:Gq) (x:Slot) (size:Int) (r:Bool) (h:aP s x size=some r):Pure Ek 111 [.agg (Gq.cs s),.agg [I64 x.G6,I64 x.Tier,U8 x.Half],I64 size] (·=BL r):=by
 unfold aP at h
 refine Gy [.tmp 6] Tryz.func111 G G (Jr fun b=>(JLh (.ptr 1125 0) (Jy (cs:=(Gq.cs s)) 1125 G G G G G) G (JLh (.ptr 1126 0) (Jy (cs:=(Mb x)) 1126 G G G G G) G (JLm (BL false) G (G5 (b (Gw [(2,I64 size),(3,Ed s),(4,.ptr 1126 0)] [(1126,.box 81 (Mb x))] 1125 rfl rfl rfl ⟨⟨_,rfl,.boxEq rfl rfl⟩,U⟩ rfl (by exact⟨.conv (.same rfl),.ptr,.conv (.same rfl),U⟩) ?_)))))))
 refine Gw [(2,I64 size),(3,Ed s),(4,.dptr (Mb x))] [] 1126 rfl rfl rfl U rfl (by exact⟨.conv (.same rfl),.conv (.same rfl),.ptr,U⟩) (Js fun c=>Js fun d=>?_)
 obtain⟨a,e,h⟩:=Gd h
 refine JC_d0 Jd (by kernel_rfl) (Dq (.dptr (Mb x)) (Ga Jk G G G) G (Dq (I64 x.G6) (Ge Gb G G G) G (Dq (BL (decide (x.G6 < 0))) (Hr G G G) G (Dq (BL (decide (x.G6 < 0))) (G3 G G) G (Do (.dptr (Mb x)) [] G .scf U (fun hc=>Ga Jk G G G) G (Do (I64 x.G6) [11] G .scf ⟨Ua,U⟩ (fun hc=>Ge Gb G G G) G (Do (Ed s) [] G .scf U (fun hc=>Ga Hu G G G) G (Do (E4 s.Columns) [13] G .scf ⟨Ua,U⟩ (fun hc=>Ge J2 G G G) G (Do (Ej s.Columns.length) [14] G .scf ⟨Ua,U⟩ (fun hc=>Q8 (f:=G6.av) (xs:=s.Columns) Hd G G) G (Do (BL (decide ((s.Columns.length:Int)≤x.G6))) [12,15] G .scf ⟨Ua,Ua,U⟩ (fun hc=>cH G G G) G (Dq (BL (Ma x s)) (Rm G G G G) G (Dq (BL (Ma x s)) (G3 G G) G (Do (.dptr [I64 x.Tier,U8 x.Half]) [] G .scf U (fun hc=>Ga Qz G G G) G ?_)))))))))))))
 refine Do (I64 x.Tier) [19] G .scf ⟨Ua,U⟩ (fun hc=>Ge Gb G G G) G (Do (BL (decide (x.Tier < 0))) [20] G .scf ⟨Ua,U⟩ (fun hc=>Hr G G G) G (Dq (BL ((Ma x s)||(decide (x.Tier < 0)))) (Rm G G G G) G (Dq (BL ((Ma x s)||(decide (x.Tier < 0)))) (G3 G G) G (Do (.dptr [I64 x.Tier,U8 x.Half]) [] G .scf U (fun hc=>Ga Qz G G G) G (Do (I64 x.Tier) [24] G .scf ⟨Ua,U⟩ (fun hc=>Ge Gb G G G) G (Do (Ed s) [] G .scf U (fun hc=>Ga Hu G G G) G (Do (E4 s.Columns) [26] G .scf ⟨Ua,U⟩ (fun hc=>Ge J2 G G G) G (Do (.dptr (Mb x)) [] G .scf U (fun hc=>Ga Jk G G G) G (Do (I64 x.G6) [28] G .scf ⟨Ua,U⟩ (fun hc=>Ge Gb G G G) G (Do (Ef a) [27,29] G .scf ⟨Ua,Ua,U⟩ (fun hc=>(match Jt (Gv hc e) with | ⟨_,hm_,hy_⟩=>Gr (f:=G6.av) (xs:=s.Columns) (y:=a) G G G Hd hy_ hm_)) G (Do (.dptr ((G6.cs a).drop 3)) [30] G .scf ⟨Ua,U⟩ (fun hc=>Ga bR G G G) G (Do (I64 a.Tiers) [31] G .scf ⟨Ua,U⟩ (fun hc=>Ge Gb G G G) G (Do (BL (decide (a.Tiers≤x.Tier))) [25,32] G .scf ⟨Ua,Ua,U⟩ (fun hc=>cH G G G) G ?_)))))))))))))
 refine Dq (BL (((Ma x s)||(decide (x.Tier < 0)))||(decide (a.Tiers≤x.Tier)))) (Rm G G G G) G (Dnil (d (JCc G h (fun h hb=>?_) (fun h hb=>?_))))
 ·
  refine Jr fun g=>(JLm (BL false) G (G5 (g (Gs (fin1 BL h)))))
 ·
  refine Gn (c (Jr fun i=>(JLm (I64 size) G (JLh (BL (decide (size=40))) (Qc G G G) G (JLm (BL (decide (size=40))) G (JLo (.dptr [U8 x.Half]) [] G .sct U (fun hc=>Ga Q4 G G G) G (JLo (U8 x.Half) [38] G .sct ⟨Ua,U⟩ (fun hc=>Ge Jw G G G) G (JLo (BL (decide (x.Half=0))) [39] G .sct ⟨Ua,U⟩ (fun hc=>Qc G G G) G (JLh (BL (Md size x)) (J9 G G G G) G (JLm (BL (Md size x)) G (JLo (I64 size) [] G .scf U (fun hc=>G3 G G) G (JLo (BL (decide (size=20))) [43] G .scf ⟨Ua,U⟩ (fun hc=>Qc G G G) G (JLo (BL (decide (size=20))) [44] G .scf ⟨Ua,U⟩ (fun hc=>G3 G G) G (JLo (.dptr [U8 x.Half]) [] G .optt U (fun hc=>Ga Q4 G G G) G (JLo (U8 x.Half) [46] G .optt ⟨Ua,U⟩ (fun hc=>Ge Jw G G G) G ?_)))))))))))))))
  refine JLo (BL (decide (x.Half=1))) [47] G .optt ⟨Ua,U⟩ (fun hc=>Qc G G G) G (JLo (BL (decide (x.Half=1))) [48] G .optt ⟨Ua,U⟩ (fun hc=>G3 G G) G (JLo (.dptr [U8 x.Half]) [] G .optf U (fun hc=>Ga Q4 G G G) G (JLo (U8 x.Half) [50] G .optf ⟨Ua,U⟩ (fun hc=>Ge Jw G G G) G (JLo (BL (decide (x.Half=2))) [51] G .optf ⟨Ua,U⟩ (fun hc=>Qc G G G) G (G9 (u:=BL (Mc x)) [(49,BL (decide (x.Half=1))),(52,_)] G G G .optt ⟨.all id,.part,U⟩ (fun hc=>Rm G G G G) ?_)))))
  refine G9 (u:=BL ((decide (size=20))&&(Mc x))) [(45,BL (decide (size=20))),(53,_)] G G G .scf ⟨.all id,.part,U⟩ (fun hc=>J9 G G G G) ?_
  refine JLh (BL ((Md size x)||((decide (size=20))&&(Mc x)))) (Rm G G G G) G (JLm (BL ((Md size x)||((decide (size=20))&&(Mc x)))) G (G5 (i (Gs (fin1 BL h)))))

def aO (l:List G2):Option (List Slot):=
 each (fun b d (a:(List Slot)) c=>
  need (decide ((a.length+[b.Slot].length)*24≤140737488355328/\a.length+[b.Slot].length≤maxLen)) <|
  c (a++[b.Slot]))
 (fun(a:(List Slot))=>
  some a) l 0 []
theorem sA (l:List G2) (r:(List Slot)) (h:aO l=some r):Pure Ek 113 [E1 l] (·=E6 r):=by
 unfold aO at h
 refine Gy [.tmp 2] Tryz.func113 G G (Jr fun t=>(JLh (E6 ([]:List Slot)) (Qd 3 G G) G (G5 (t (Jr fun u=>(JLh (OW 1128 3 Slot.av ([]:List Slot)) (kY 1128 81 3 G G G) G (G5 (u (Js fun v=>Jr fun w=>(JLm (I64 0) G (G5 (w (Gf ?_)))))))))))))
 obtain⟨x,i,j,g,h⟩:=Hy h
 refine H8 (fun a (b:(List Slot))=>each x i (List.drop a l) a b=some r) (fun a b=>[(0,E1 l),(3,OW 1128 3 Slot.av b),(4,Ej a)]) (fun a b=>[(1128,.spare 81 3 b.length b.length)]) (fun a=>l.length - a) 0 [] h ⟨(.sm G G),⟨⟨_,G,.same⟩,U⟩,G⟩ ?_
 clear h
 intro a b d a2 z
 refine Js fun k=>Jr fun m=>(JLm (Ej a) G (JLm (E1 l) G (JLl H5 G G G fun a0=>(JLh (BL (decide ((a:Int) < (l.length:Int)))) (Hr G G G) G (G5 (m (Gg G (fun hb=>?_) (fun hb=>?_))))))))
 ·
  have e:=Je hb
  obtain⟨c,a1,n,o,h⟩:=Hh d e
  replace h:=Rx j h
  refine Gn (k (Js fun p=>Gf (G1 (JLm (OW 1128 3 Slot.av b) G (JLm (E1 l) G (JLm (Ej a) G (JLh (Ee c) (Gr (f:=G2.av) (xs:=l) (y:=c) G G G H5 n G) G (JLh (.dptr ((G2.cs c).drop 1)) (Ga Jj G G G) G (JLh (.agg ((G2.cs c).drop 1)) (Gj Q9 G G G) G (JLh (E6 [c.Slot]) (Hf (xs:=[.agg ((G2.cs c).drop 1)]) G ⟨G,G,U⟩ Yt cY G G G G) G ?_))))))))))
  obtain⟨q,h⟩:=J5 h
  refine JLh (OW 1128 3 Slot.av (b++[c.Slot])) (R8 (f:=Slot.av) (xs:=b) (ys:=[c.Slot]) G G G G Yt ZG q (fun _=>G) (.inl G) G) G (JLm (OW 1128 3 Slot.av (b++[c.Slot])) G (G5 (p (G1 (JLm (Ej a) G (JLh (I64 ((a+1:Nat):Int)) (Hs (Hb e a0) G G G) G (JLm (I64 ((a+1:Nat):Int)) G (G5 (z _ _ (a+1) (b++[c.Slot]) (app1 o h) (by omega) ⟨(.sm G G),⟨⟨_,rfl,.same⟩,U⟩,rfl⟩)))))))))
 ·
  have h:=app1 g (Hi d (H6 hb))
  refine H9 (v (Jr fun s=>(JLm (OW 1128 3 Slot.av b) G (JLm (OW 1128 3 Slot.av b) G (G5 (s (Gs (fin1l (fun r:(List Slot)=>(E6 r:AV)) h))))))))

def Y0 (l:List Slot) (x:Slot) (half:Int):Option Bool:=
 each (fun a e (c:Unit) b=>
  bnd (bif decide (a.G6=x.G6) then chk (x.Tier - 1) some else some 0) fun d=>
  bif (((decide (a.G6=x.G6))&&(decide (a.Tier=d)))&&(decide (a.Half=half))) then
  (some true)
  else
  (b ()))
 (fun(c:Unit)=>
  some false) l 0 ()
theorem cT (l:List Slot) (x:Slot) (half:Int) (r:Bool) (h:Y0 l x half=some r):Pure Ek 193 [E6 l,.agg [I64 x.G6,I64 x.Tier,U8 x.Half],U8 half] (·=BL r):=by
 unfold Y0 at h
 refine Gy [.tmp 6] Tryz.func193 G G (Jr fun z=>(JLh (.ptr 1162 0) (Jy (cs:=[I64 x.G6,I64 x.Tier,U8 x.Half]) 1162 G G G G G) G (JLm (BL false) G (G5 (z (Gw [(0,E6 l),(2,U8 half),(4,.dptr [I64 x.G6,I64 x.Tier,U8 x.Half])] [] 1162 rfl rfl rfl U rfl (by exact⟨.conv (.same rfl),.conv (.same rfl),.ptr,U⟩) (Js fun a0=>Jr fun a1=>(JLm (I64 0) G (G5 (a1 (Gf ?_)))))))))))
 obtain⟨a2,k,m,j,h⟩:=Hy h
 refine H8 (fun b (e:Unit)=>each a2 k (List.drop b l) b e=some r) (fun b e=>[(0,E6 l),(2,U8 half),(4,.dptr [I64 x.G6,I64 x.Tier,U8 x.Half]),(7,Ej b)]) (fun b e=>[]) (fun b=>l.length - b) 0 () h ⟨(.sm G G),U,rfl⟩ ?_
 clear h
 intro b e g a5 a3
 refine Js fun n=>Jr fun o=>(JLm (Ej b) G (JLm (E6 l) G (JLl Yt G G G fun p=>(JLh (BL (decide ((b:Int) < (l.length:Int)))) (Hr G G G) G (G5 (o (Gg G (fun hb=>?_) (fun hb=>?_))))))))
 ·
  have i:=Je hb
  obtain⟨a,a4,d,q,h⟩:=Hh g i
  replace h:=Rx m h
  refine Gn (n (Js fun s=>Gf (Js fun t=>?_)))
  obtain⟨c,u,h⟩:=Gd h
  refine JC_d0 Jd (by kernel_rfl) (Dq (E6 l) (G3 G G) G (Dq (Ej b) (G3 G G) G (Dq (Eh a) (Gr (f:=Slot.av) (xs:=l) (y:=a) G G G Yt d G) G (Dq (Eh a) (Ga Jk G G G) G (Dq (I64 a.G6) (Ge Gb G G G) G (Dq (.dptr [I64 x.G6,I64 x.Tier,U8 x.Half]) (Ga Jk G G G) G (Dq (I64 x.G6) (Ge Gb G G G) G (Dq (BL (decide (a.G6=x.G6))) (Qc G G G) G (Dq (BL (decide (a.G6=x.G6))) (G3 G G) G (Do (E6 l) [] G .sct U (fun hc=>G3 G G) G (Do (Ej b) [] G .sct U (fun hc=>G3 G G) G (Do (Eh a) [23,24] G .sct ⟨Ua,Ua,U⟩ (fun hc=>Gr (f:=Slot.av) (xs:=l) (y:=a) G G G Yt d G) G (Do (.dptr [I64 a.Tier,U8 a.Half]) [25] G .sct ⟨Ua,U⟩ (fun hc=>Ga Qz G G G) G ?_)))))))))))))
  refine Do (I64 a.Tier) [26] G .sct ⟨Ua,U⟩ (fun hc=>Ge Gb G G G) G (Do (.dptr [I64 x.Tier,U8 x.Half]) [] G .sct U (fun hc=>Ga Qz G G G) G (Do (I64 x.Tier) [28] G .sct ⟨Ua,U⟩ (fun hc=>Ge Gb G G G) G (Do (I64 c) [29] G .sct ⟨Ua,U⟩ (fun hc=>kX (aM (Gv hc u)) G G G) G (Do (BL (decide (a.Tier=c))) [27,30] G .sct ⟨Ua,Ua,U⟩ (fun hc=>Qc G G G) G (Dq (BL ((decide (a.G6=x.G6))&&(decide (a.Tier=c)))) (J9 G G G G) G (Dq (BL ((decide (a.G6=x.G6))&&(decide (a.Tier=c)))) (G3 G G) G (Do (E6 l) [] G .sct U (fun hc=>G3 G G) G (Do (Ej b) [] G .sct U (fun hc=>G3 G G) G (Do (Eh a) [34,35] G .sct ⟨Ua,Ua,U⟩ (fun hc=>Gr (f:=Slot.av) (xs:=l) (y:=a) G G G Yt d G) G (Do (.dptr [U8 a.Half]) [36] G .sct ⟨Ua,U⟩ (fun hc=>Ga Q4 G G G) G (Do (U8 a.Half) [37] G .sct ⟨Ua,U⟩ (fun hc=>Ge Jw G G G) G (Do (U8 half) [] G .sct U (fun hc=>G3 G G) G (Do (BL (decide (a.Half=half))) [38,39] G .sct ⟨Ua,Ua,U⟩ (fun hc=>Qc G G G) G ?_)))))))))))))
  refine Dq (BL (((decide (a.G6=x.G6))&&(decide (a.Tier=c)))&&(decide (a.Half=half)))) (J9 G G G G) G (Dnil (t (JCc G h (fun h hb=>?_) (fun h hb=>?_))))
  ·
   refine Jr fun v=>(JLm (BL true) G (G5 (v (Gs (fin1 BL h)))))
  ·
   refine Gn (s (G1 (JLm (Ej b) G (JLh (I64 ((b+1:Nat):Int)) (Hs (Hb i p) G G G) G (JLm (I64 ((b+1:Nat):Int)) G (G5 (a3 _ _ (b+1) () (app1 q h) (by omega) ⟨(.sm G G),U,rfl⟩)))))))
 ·
  have h:=app1 j (Hi g (H6 hb))
  refine H9 (a0 (Jr fun w=>(JLm (BL false) G (G5 (w (Gs (fin1 BL h)))))))

def bL (x:Slot) (l:List Slot):Option Bool:=
 bif decide (x.Tier≤0) then
 (some true)
 else
 (bif decide (x.Half=0) then
  (bnd (Y0 l x 0) fun a=>
   bnd (bif (!a) then Y0 l x 1 else some default) fun b=>
   bnd (bif ((!a)&&b) then Y0 l x 2 else some default) fun c=>
   some (a||(b&&c)))
  else
  (bnd (Y0 l x x.Half) fun d=>
   some d))
theorem tC (x:Slot) (l:List Slot) (r:Bool) (h:bL x l=some r):Pure Ek 112 [.agg [I64 x.G6,I64 x.Tier,U8 x.Half],E6 l] (·=BL r):=by
 unfold bL at h
 refine Gy [.tmp 4] Tryz.func112 G G (Jr fun i=>(JLh (.ptr 1127 0) (Jy (cs:=[I64 x.G6,I64 x.Tier,U8 x.Half]) 1127 G G G G G) G (JLm (BL false) G (G5 (i (Gw [(1,E6 l),(2,.dptr [I64 x.G6,I64 x.Tier,U8 x.Half])] [] 1127 rfl rfl rfl U rfl (by exact⟨.conv (.same rfl),.ptr,U⟩) (Js fun j=>Jr fun k=>(JLh (.dptr [I64 x.Tier,U8 x.Half]) (Ga Qz G G G) G (JLh (I64 x.Tier) (Ge Gb G G G) G (JLh (BL (decide (x.Tier≤0))) (rQ G G G) G (G5 (k (JCc G h (fun h hb=>?_) (fun h hb=>?_))))))))))))))
 ·
  refine Jr fun m=>(JLm (BL true) G (G5 (m (Gs (fin1 BL h)))))
 ·
  refine Gn (j (Js fun n=>Jr fun o=>(JLh (.dptr [U8 x.Half]) (Ga Q4 G G G) G (JLh (U8 x.Half) (Ge Jw G G G) G (JLh (BL (decide (x.Half=0))) (Qc G G G) G (G5 (o (JCc G h (fun h hb=>?_) (fun h hb=>?_)))))))))
  ·
   refine Jr fun p=>(JLm (E6 l) G (JLh (.agg [I64 x.G6,I64 x.Tier,U8 x.Half]) (Gj Q9 G G G) G ?_))
   obtain⟨c,q,h⟩:=Gd h
   refine JLh (BL c) (Gi G (cT l x 0 c q) qS ⟨G,G,G,G,G,G,U⟩) G (JLm (BL c) G (JLo (E6 l) [] G .scf U (fun hc=>G3 G G) G (JLo (.agg [I64 x.G6,I64 x.Tier,U8 x.Half]) [] G .scf U (fun hc=>Gj Q9 G G G) G ?_)))
   obtain⟨b,s,h⟩:=Gd h
   refine JLo (BL b) [15,16] G .scf ⟨Ua,Ua,U⟩ (fun hc=>Gi (args:=[E6 l,.agg [I64 x.G6,I64 x.Tier,U8 x.Half],U8 1]) G (cT l x 1 b (Gv hc s)) qS ⟨G,G,G,G,G,G,U⟩) G (JLo (BL b) [17] G .scf ⟨Ua,U⟩ (fun hc=>G3 G G) G (JLo (E6 l) [] G .optt U (fun hc=>G3 G G) G (JLo (.agg [I64 x.G6,I64 x.Tier,U8 x.Half]) [] G .optt U (fun hc=>Gj Q9 G G G) G ?_)))
   obtain⟨a,e,h⟩:=Gd h
   refine JLo (BL a) [19,20] G .optt ⟨Ua,Ua,U⟩ (fun hc=>Gi (args:=[E6 l,.agg [I64 x.G6,I64 x.Tier,U8 x.Half],U8 2]) G (cT l x 2 a (Gv hc e)) qS ⟨G,G,G,G,G,G,U⟩) G (G9 (u:=BL (b&&a)) [(18,BL b),(21,_)] G G G .scf ⟨.all id,.part,U⟩ (fun hc=>J9 G G G G) ?_)
   refine JLh (BL (c||(b&&a))) (Rm G G G G) G (JLm (BL (c||(b&&a))) G (G5 (p (Gs (fin1 BL h)))))
  ·
   refine Gn (n (Jr fun f=>(JLm (E6 l) G (JLh (.agg [I64 x.G6,I64 x.Tier,U8 x.Half]) (Gj Q9 G G G) G (JLh (.dptr [U8 x.Half]) (Ga Q4 G G G) G (JLh (U8 x.Half) (Ge Jw G G G) G ?_))))))
   obtain⟨d,g,h⟩:=Gd h
   refine JLh (BL d) (Gi G (cT l x x.Half d g) qS ⟨G,G,G,G,G,G,U⟩) G (JLm (BL d) G (G5 (f (Gs (fin1 BL h)))))

def Rt (a:Int) (b:Int):Option Bool:=
 some (((decide (a=b))||(decide (a=0)))||(decide (b=0)))
abbrev Me (a:Int) (b:Int):Bool:=((decide (a=b))||(decide (a=0)))
theorem iG (a:Int) (b:Int) (r:Bool) (h:Rt a b=some r):Pure Ek 194 [U8 a,U8 b] (·=BL r):=by
 unfold Rt at h
 refine Gy [.tmp 4] Tryz.func194 G G (Jr fun c=>(JLm (BL false) G (G5 (c (Jr fun d=>(JLm (U8 a) G (JLm (U8 b) G (JLh (BL (decide (a=b))) (Qc G G G) G (JLm (BL (decide (a=b))) G (JLo (U8 a) [] G .scf U (fun hc=>G3 G G) G (JLo (BL (decide (a=0))) [9] G .scf ⟨Ua,U⟩ (fun hc=>Qc G G G) G (JLh (BL (Me a b)) (Rm G G G G) G (JLm (BL (Me a b)) G (JLo (U8 b) [] G .scf U (fun hc=>G3 G G) G (JLo (BL (decide (b=0))) [13] G .scf ⟨Ua,U⟩ (fun hc=>Qc G G G) G (JLh (BL ((Me a b)||(decide (b=0)))) (Rm G G G G) G (JLm (BL ((Me a b)||(decide (b=0)))) G (G5 (d (Gs (fin1 BL h)))))))))))))))))))))

def bK (a:Slot) (b:Slot):Option Bool:=
 bnd (bif ((decide (a.G6=b.G6))&&(decide (a.Tier=b.Tier))) then Rt a.Half b.Half else some default) fun c=>
 some (((decide (a.G6=b.G6))&&(decide (a.Tier=b.Tier)))&&c)
abbrev Mf (a:Slot) (b:Slot):Bool:=((decide (a.G6=b.G6))&&(decide (a.Tier=b.Tier)))
theorem sY (a:Slot) (b:Slot) (r:Bool) (h:bK a b=some r):Pure Ek 114 [.agg [I64 a.G6,I64 a.Tier,U8 a.Half],.agg [I64 b.G6,I64 b.Tier,U8 b.Half]] (·=BL r):=by
 unfold bK at h
 refine Gy [.tmp 4] Tryz.func114 G G (Jr fun d=>(JLh (.ptr 1129 0) (Jy (cs:=(Mb a)) 1129 G G G G G) G (JLh (.ptr 1130 0) (Jy (cs:=(Mb b)) 1130 G G G G G) G (JLm (BL false) G (G5 (d (Gw [(2,.dptr (Mb a)),(3,.ptr 1130 0)] [(1130,.box 81 (Mb b))] 1129 rfl rfl rfl ⟨⟨_,rfl,.boxEq rfl rfl⟩,U⟩ rfl (by exact⟨.ptr,.conv (.same rfl),U⟩) (Gw [(2,.dptr (Mb a)),(3,.dptr (Mb b))] [] 1130 rfl rfl rfl U rfl (by exact⟨.conv (.same rfl),.ptr,U⟩) ?_))))))))
 refine Jr fun e=>(JLh (.dptr (Mb a)) (Ga Jk G G G) G (JLh (I64 a.G6) (Ge Gb G G G) G (JLh (.dptr (Mb b)) (Ga Jk G G G) G (JLh (I64 b.G6) (Ge Gb G G G) G (JLh (BL (decide (a.G6=b.G6))) (Qc G G G) G (JLm (BL (decide (a.G6=b.G6))) G (JLo (.dptr [I64 a.Tier,U8 a.Half]) [] G .sct U (fun hc=>Ga Qz G G G) G (JLo (I64 a.Tier) [11] G .sct ⟨Ua,U⟩ (fun hc=>Ge Gb G G G) G (JLo (.dptr [I64 b.Tier,U8 b.Half]) [] G .sct U (fun hc=>Ga Qz G G G) G (JLo (I64 b.Tier) [13] G .sct ⟨Ua,U⟩ (fun hc=>Ge Gb G G G) G (JLo (BL (decide (a.Tier=b.Tier))) [12,14] G .sct ⟨Ua,Ua,U⟩ (fun hc=>Qc G G G) G (JLh (BL (Mf a b)) (J9 G G G G) G (JLm (BL (Mf a b)) G ?_)))))))))))))
 refine JLo (.dptr [U8 a.Half]) [] G .sct U (fun hc=>Ga Q4 G G G) G (JLo (U8 a.Half) [18] G .sct ⟨Ua,U⟩ (fun hc=>Ge Jw G G G) G (JLo (.dptr [U8 b.Half]) [] G .sct U (fun hc=>Ga Q4 G G G) G (JLo (U8 b.Half) [20] G .sct ⟨Ua,U⟩ (fun hc=>Ge Jw G G G) G ?_)))
 obtain⟨c,f,h⟩:=Gd h
 refine JLo (BL c) [19,21] G .sct ⟨Ua,Ua,U⟩ (fun hc=>Gi (args:=[U8 a.Half,U8 b.Half]) G (iG a.Half b.Half c (Gv hc f)) QL ⟨G,G,G,G,U⟩) G (JLh (BL ((Mf a b)&&c)) (J9 G G G G) G (JLm (BL ((Mf a b)&&c)) G (G5 (e (Gs (fin1 BL h))))))

def Rs (bx:List Box) (l:List G2) (column:Int) (half:Int):Option Int:=
 each (fun c i (a:Int) e=>
  jp (fun b=>
   bnd (Ze bx c.Box) fun d=>
   bif (((!d.2)||(decide (c.Slot.G6≠column)))||((decide (c.Slot.Half≠half))&&(decide (c.Slot.Half≠0)))) then
   (b a)
   else
   (bif d.1.High then
    (chk (a+2896) fun f=>
     b f)
    else
    (chk (a+2591) fun g=>
     b g))) fun(h:Int)=>
  e h)
 (fun(a:Int)=>
  some a) l 0 0
theorem iF (bx:List Box) (l:List G2) (column:Int) (half:Int) (r:Int) (h:Rs bx l column half=some r):Pure Ek 195 [E3 bx,E1 l,I64 column,U8 half] (·=I64 r):=by
 unfold Rs at h
 refine Gy [.tmp 8] Tryz.func195 G G (Jr fun a8=>(JLm (I64 0) G (G5 (a8 (Jr fun a9=>(JLm (I64 0) G (G5 (a9 (Js fun b0=>Jr fun b1=>(JLm (I64 0) G (G5 (b1 (Gf ?_)))))))))))))
 obtain⟨b2,q,s,o,h⟩:=Hy h
 refine H8 (fun d (e:Int)=>each b2 q (List.drop d l) d e=some r) (fun d e=>[(0,E3 bx),(1,E1 l),(2,I64 column),(3,U8 half),(9,I64 e),(10,Ej d)]) (fun d e=>[]) (fun d=>l.length - d) 0 0 h ⟨(.sm G G),U,rfl⟩ ?_
 clear h
 intro d e j b5 b3
 refine Js fun t=>Jr fun v=>(JLm (Ej d) G (JLm (E1 l) G (JLl H5 G G G fun w=>(JLh (BL (decide ((d:Int) < (l.length:Int)))) (Hr G G G) G (G5 (v (Gg G (fun hb=>?_) (fun hb=>?_))))))))
 ·
  have k:=Je hb
  obtain⟨a,b4,i,x,h⟩:=Hh j k
  replace h:=Rx s h
  refine Gn (t ?_)
  obtain⟨z,p,h⟩:=gF h
  refine Zc (fun g:Int=>z g=some r) (fun g=>[(0,E3 bx),(1,E1 l),(2,I64 column),(3,U8 half),(9,I64 g),(10,Ej d)]) (fun g=>[]) (fun Kj45 ej45=>?_) ?_
  ·
   refine Gf (Jr fun a0=>(JLm (E3 bx) G (JLm (E1 l) G (JLm (Ej d) G (JLh (Ee a) (Gr (f:=G2.av) (xs:=l) (y:=a) G G G H5 i G) G (JLh (Ee a) (Ga Qf G G G) G (JLh (I64 a.Box) (Ge Gb G G G) G ?_)))))))
   obtain⟨c,a1,h⟩:=Gd h
   refine JLh (.tup [.agg (Box.cs c.1),BL c.2]) (Gi G (jV bx a.Box c a1) QU ⟨G,G,G,G,U⟩) G (JLm (.tup [.agg (Box.cs c.1),BL c.2]) G (JLh (.agg (Box.cs c.1)) (Hx G G G) G (JLh (BL c.2) (Hx G G G) G (JLh (.ptr 1163 0) (Jp 1163 9 dX G G) G (J7 (u:=.junk) (Hv (u:=.agg (Box.cs c.1)) (ds:=(Box.cs c.1)) cJ G G G G G G G G) (JLm (BL c.2) G (G5 (a0 (fzQ [(0,E3 bx),(1,E1 l),(2,I64 column),(3,U8 half),(9,I64 e),(10,Ej d),(11,Eg c.1),(12,BL c.2)] [] 1163 rfl rfl rfl U rfl ?_)))))))))
   refine Js fun a2=>?_
   refine Jr fun a3=>(JLm (BL c.2) G (JLh (BL (!c.2)) (Qj (b:=c.2) G G) G (JLm (BL (!c.2)) G (JLo (E1 l) [] G .scf U (fun hc=>G3 G G) G (JLo (Ej d) [] G .scf U (fun hc=>G3 G G) G (JLo (Ee a) [32,33] G .scf ⟨Ua,Ua,U⟩ (fun hc=>Gr (f:=G2.av) (xs:=l) (y:=a) G G G H5 i G) G (JLo (.dptr ((G2.cs a).drop 1)) [34] G .scf ⟨Ua,U⟩ (fun hc=>Ga Jj G G G) G (JLo (.dptr ((G2.cs a).drop 1)) [35] G .scf ⟨Ua,U⟩ (fun hc=>Ga Jk G G G) G (JLo (I64 a.Slot.G6) [36] G .scf ⟨Ua,U⟩ (fun hc=>Ge Gb G G G) G (JLo (I64 column) [] G .scf U (fun hc=>G3 G G) G (JLo (BL (decide (a.Slot.G6≠column))) [37,38] G .scf ⟨Ua,Ua,U⟩ (fun hc=>aH G G G) G (JLh (BL ((!c.2)||(decide (a.Slot.G6≠column)))) (Rm G G G G) G (JLm (BL ((!c.2)||(decide (a.Slot.G6≠column)))) G ?_)))))))))))))
   refine JLo (E1 l) [] G .scf U (fun hc=>G3 G G) G (JLo (Ej d) [] G .scf U (fun hc=>G3 G G) G (JLo (Ee a) [42,43] G .scf ⟨Ua,Ua,U⟩ (fun hc=>Gr (f:=G2.av) (xs:=l) (y:=a) G G G H5 i G) G (JLo (.dptr ((G2.cs a).drop 1)) [44] G .scf ⟨Ua,U⟩ (fun hc=>Ga Jj G G G) G (JLo (.dptr [U8 a.Slot.Half]) [45] G .scf ⟨Ua,U⟩ (fun hc=>Ga Q4 G G G) G (JLo (U8 a.Slot.Half) [46] G .scf ⟨Ua,U⟩ (fun hc=>Ge Jw G G G) G (JLo (U8 half) [] G .scf U (fun hc=>G3 G G) G (JLo (BL (decide (a.Slot.Half≠half))) [47,48] G .scf ⟨Ua,Ua,U⟩ (fun hc=>aH G G G) G (JLo (BL (decide (a.Slot.Half≠half))) [49] G .scf ⟨Ua,U⟩ (fun hc=>G3 G G) G (JLo (E1 l) [] G .optt U (fun hc=>G3 G G) G (JLo (Ej d) [] G .optt U (fun hc=>G3 G G) G (JLo (Ee a) [51,52] G .optt ⟨Ua,Ua,U⟩ (fun hc=>Gr (f:=G2.av) (xs:=l) (y:=a) G G G H5 i G) G (JLo (.dptr ((G2.cs a).drop 1)) [53] G .optt ⟨Ua,U⟩ (fun hc=>Ga Jj G G G) G (JLo (.dptr [U8 a.Slot.Half]) [54] G .optt ⟨Ua,U⟩ (fun hc=>Ga Q4 G G G) G ?_)))))))))))))
   refine JLo (U8 a.Slot.Half) [55] G .optt ⟨Ua,U⟩ (fun hc=>Ge Jw G G G) G (JLo (BL (decide (a.Slot.Half≠0))) [56] G .optt ⟨Ua,U⟩ (fun hc=>aH G G G) G (G9 (u:=BL ((decide (a.Slot.Half≠half))&&(decide (a.Slot.Half≠0)))) [(50,BL (decide (a.Slot.Half≠half))),(57,_)] G G G .scf ⟨.all id,.part,U⟩ (fun hc=>J9 G G G G) ?_))
   refine JLh (BL (((!c.2)||(decide (a.Slot.G6≠column)))||((decide (a.Slot.Half≠half))&&(decide (a.Slot.Half≠0))))) (Rm G G G G) G (G5 (a3 (JCc G h (fun h hb=>?_) (fun h hb=>?_))))
   ·
    refine H9 (ej45 _ _ e h ⟨(.sm G G),U,rfl⟩)
   ·
    refine Gn (a2 (Jr fun a4=>(JLh (.dptr ((Box.cs c.1).drop 3)) (Ga lU G G G) G (JLh (BL c.1.High) (Ge Ye G G G) G (G5 (a4 (JCc G h (fun h hb=>?_) (fun h hb=>?_))))))))
    ·
     refine G1 (JLm (I64 e) G ?_)
     obtain⟨m,a5,h⟩:=R2 h
     refine JLh (I64 m) (Hs a5 G G G) G (JLm (I64 m) G (G5 (ej45 _ _ m h ⟨(.sm G G),U,rfl⟩)))
    ·
     refine G1 (JLm (I64 e) G ?_)
     obtain⟨n,a6,h⟩:=R2 h
     refine JLh (I64 n) (Hs a6 G G G) G (JLm (I64 n) G (G5 (ej45 _ _ n h ⟨(.sm G G),U,rfl⟩)))
  .intro g h
   replace h:=app1 p h
   refine G1 (JLm (Ej d) G (JLh (I64 ((d+1:Nat):Int)) (Hs (Hb k w) G G G) G (JLm (I64 ((d+1:Nat):Int)) G (G5 (b3 _ _ (d+1) g (app1 x h) (by omega) ⟨(.sm G G),U,rfl⟩)))))
 ·
  have h:=app1 o (Hi j (H6 hb))
  refine H9 (b0 (Jr fun a7=>(JLm (I64 e) G (JLm (I64 e) G (G5 (a7 (Gs (fin1 I64 h))))))))

def bI (s:Gq) (bx:List Box) (l:List G2) (c:Int):Option Bool:=
 Jo s.Columns c fun f=>
 bif decide (f.Height=0) then
 (some false)
 else
 (bnd (Rs bx l c 1) fun a=>
  Jo s.Columns c fun b=>
  bnd (bif (!(decide (b.Height < a))) then Rs bx l c 2 else some default) fun d=>
  bnd (bif (!(decide (b.Height < a))) then Jo s.Columns c some else some default) fun e=>
  some ((decide (b.Height < a))||(decide (e.Height < d))))
theorem sW (s:Gq) (bx:List Box) (l:List G2) (c:Int) (r:Bool) (h:bI s bx l c=some r):Pure Ek 115 [.agg (Gq.cs s),E3 bx,E1 l,I64 c] (·=BL r):=by
 unfold bI at h
 refine Gy [.tmp 8] Tryz.func115 G G (Jr fun m=>(JLh (.ptr 1131 0) (Jy (cs:=(Gq.cs s)) 1131 G G G G G) G (JLm (BL false) G (G5 (m (fzQ [(1,E3 bx),(2,E1 l),(3,I64 c),(4,Ed s)] [] 1131 rfl rfl rfl U rfl (Js fun n=>Jr fun o=>(JLh (Ed s) (Ga Hu G G G) G (JLh (E4 s.Columns) (Ge J2 G G G) G (JLm (I64 c) G ?_))))))))))
 obtain⟨z,g,p,q,h⟩:=R0 h
 refine JLh (Ef g) (Gr (f:=G6.av) (xs:=s.Columns) (y:=g) G G G Hd q p) G (JLh (.dptr ((G6.cs g).drop 4)) (Ga dA G G G) G (JLh (I64 g.Height) (Ge Gb G G G) G (JLh (BL (decide (g.Height=0))) (Qc G G G) G (G5 (o (JCc G h (fun h hb=>?_) (fun h hb=>?_)))))))
 ·
  refine Jr fun t=>(JLm (BL false) G (G5 (t (Gs (fin1 BL h)))))
 ·
  refine Gn (n (Js fun u=>?_))
  obtain⟨e,v,h⟩:=Gd h
  obtain⟨x,b,i,w,h⟩:=R0 h
  obtain⟨d,j,h⟩:=Gd h
  obtain⟨a,k,h⟩:=Gd h
  refine JC_d0 Jd (by kernel_rfl) (Dq (E3 bx) (G3 G G) G (Dq (E1 l) (G3 G G) G (Dq (I64 c) (G3 G G) G (Dq (I64 e) (Gi (args:=[E3 bx,E1 l,I64 c,U8 1]) G (iF bx l c 1 e v) QK ⟨G,G,G,G,G,G,G,G,U⟩) G (Dq (Ed s) (Ga Hu G G G) G (Dq (E4 s.Columns) (Ge J2 G G G) G (Dq (I64 c) (G3 G G) G (Dq (Ef b) (Gr (f:=G6.av) (xs:=s.Columns) (y:=b) G G G Hd w i) G (Dq (.dptr ((G6.cs b).drop 4)) (Ga dA G G G) G (Dq (I64 b.Height) (Ge Gb G G G) G (Dq (BL (decide (b.Height < e))) (dE G G G) G (Dq (BL (decide (b.Height < e))) (G3 G G) G (Do (E3 bx) [] G .scf U (fun hc=>G3 G G) G ?_)))))))))))))
  refine Do (E1 l) [] G .scf U (fun hc=>G3 G G) G (Do (I64 c) [] G .scf U (fun hc=>G3 G G) G (Do (I64 d) [28,29,30] G .scf ⟨Ua,Ua,Ua,U⟩ (fun hc=>Gi (args:=[E3 bx,E1 l,I64 c,U8 2]) G (iF bx l c 2 d (Gv hc j)) QK ⟨G,G,G,G,G,G,G,G,U⟩) G (Do (Ed s) [] G .scf U (fun hc=>Ga Hu G G G) G (Do (E4 s.Columns) [32] G .scf ⟨Ua,U⟩ (fun hc=>Ge J2 G G G) G (Do (I64 c) [] G .scf U (fun hc=>G3 G G) G (Do (Ef a) [33,34] G .scf ⟨Ua,Ua,U⟩ (fun hc=>(match Jt (Gv hc k) with | ⟨_,hm_,hy_⟩=>Gr (f:=G6.av) (xs:=s.Columns) (y:=a) G G G Hd hy_ hm_)) G (Do (.dptr ((G6.cs a).drop 4)) [35] G .scf ⟨Ua,U⟩ (fun hc=>Ga dA G G G) G (Do (I64 a.Height) [36] G .scf ⟨Ua,U⟩ (fun hc=>Ge Gb G G G) G (Do (BL (decide (a.Height < d))) [31,37] G .scf ⟨Ua,Ua,U⟩ (fun hc=>dE G G G) G (Dq (BL ((decide (b.Height < e))||(decide (a.Height < d)))) (Rm G G G G) G (Dq (BL ((decide (b.Height < e))||(decide (a.Height < d)))) (G7 G G) G (Dnil ?_))))))))))))
  refine u (Gs (fin1 BL h))

def Y6 (F:Nat) (s:Gq) (bx:List Box) (l:List G2):Option Bool:=
 bnd (Yv F s) fun u=>
 bif (!u) then
 (some false)
 else
 (each (fun b h (v:Unit) i=>
   bnd (Ze bx b.Box) fun a=>
   bnd (bif (!(!a.2)) then chk (a.1.Size) some else some 0) fun j=>
   bnd (bif (!(!a.2)) then aP s b.Slot j else some default) fun c=>
   bnd (bif (!((!a.2)||(!c))) then aO l else some default) fun k=>
   bnd (bif (!((!a.2)||(!c))) then bL b.Slot k else some default) fun m=>
   bif (((!a.2)||(!c))||(!m)) then
   (some false)
   else
   (need (decide ((h:Int)≤9223372036854775807)) <|
    upto (fun e (n:Unit) f=>
     Jo l (e:Int) fun d=>
     bnd (bif (!(decide (b.Box≤d.Box))) then Jo l (e:Int) some else some default) fun o=>
     bnd (bif (!(decide (b.Box≤d.Box))) then bK o.Slot b.Slot else some default) fun p=>
     bif ((decide (b.Box≤d.Box))||p) then
     (some false)
     else
     (f ()))
    (fun(n:Unit)=>
     i ()) (h:Int).toNat 0 ()))
  (fun(v:Unit)=>
   each (fun w q (r:Unit) g=>
    bnd (bI s bx l (q:Int)) fun t=>
    bif t then
    (some false)
    else
    (g ()))
   (fun(r:Unit)=>
    some true) s.Columns 0 ()) l 0 ())
theorem eN (F:Nat) (s:Gq) (bx:List Box) (l:List G2) (r:Bool) (h:Y6 F s bx l=some r):Pure Ek 48 [.agg (Gq.cs s),E3 bx,E1 l] (·=BL r):=by
 unfold Y6 at h
 refine Gy [.tmp 6] Tryz.func48 G G (Jr fun f0=>(JLh (.ptr 1072 0) (Jy (cs:=(Gq.cs s)) 1072 G G G G G) G (JLm (BL false) G (G5 (f0 (Gw [(1,E3 bx),(2,E1 l),(3,Ed s)] [] 1072 rfl rfl rfl U rfl (by exact⟨.conv (.same rfl),.conv (.same rfl),.ptr,U⟩) (Js fun f1=>Jr fun f2=>(JLh (.agg (Gq.cs s)) (Gj J4 G G G) G ?_))))))))
 obtain⟨r4,f3,h⟩:=Gd h
 refine JLh (BL r4) (Gi G (iT F s r4 f3) ZQ ⟨G,G,U⟩) G (JLh (BL (!r4)) (Qj (b:=r4) G G) G (G5 (f2 (JCc G h (fun h hb=>?_) (fun h hb=>?_)))))
 ·
  refine Jr fun f4=>(JLm (BL false) G (G5 (f4 (Gs (fin1 BL h)))))
 ·
  refine Gn (f1 (Js fun f5=>Jr fun f6=>(JLm (I64 0) G (G5 (f6 (Gf ?_))))))
  obtain⟨b8,f7,f8,a8,h⟩:=Hy h
  refine H8 (fun d (s8:Unit)=>each b8 f7 (List.drop d l) d s8=some r) (fun d s8=>[(1,E3 bx),(2,E1 l),(3,Ed s),(7,Ej d)]) (fun d s8=>[]) (fun d=>l.length - d) 0 () h ⟨(.sm G G),U,rfl⟩ ?_
  clear h
  intro d s8 a5 K8 e8
  refine Js fun f9=>Jr fun a9=>(JLm (Ej d) G (JLm (E1 l) G (JLl H5 G G G fun b0=>(JLh (BL (decide ((d:Int) < (l.length:Int)))) (Hr G G G) G (G5 (a9 (Gg G (fun hb=>?_) (fun hb=>?_))))))))
  ·
   have a6:=Je hb
   obtain⟨c,h0,m,g0,h⟩:=Hh a5 a6
   replace h:=Rx f8 h
   refine Gn (f9 (Js fun b1=>Gf (Jr fun b2=>(JLm (E3 bx) G (JLm (E1 l) G (JLm (Ej d) G (JLh (Ee c) (Gr (f:=G2.av) (xs:=l) (y:=c) G G G H5 m G) G (JLh (Ee c) (Ga Qf G G G) G (JLh (I64 c.Box) (Ge Gb G G G) G ?_)))))))))
   obtain⟨a,b3,h⟩:=Gd h
   refine JLh (.tup [.agg (Box.cs a.1),BL a.2]) (Gi G (jV bx c.Box a b3) QU ⟨G,G,G,G,U⟩) G (JLm (.tup [.agg (Box.cs a.1),BL a.2]) G (JLh (.agg (Box.cs a.1)) (Hx G G G) G (JLh (BL a.2) (Hx G G G) G (JLh (.ptr 1073 0) (Jp 1073 9 dX G G) G (J7 (u:=.junk) (Hv (u:=.agg (Box.cs a.1)) (ds:=(Box.cs a.1)) cJ G G G G G G G G) (JLm (BL a.2) G (G5 (b2 (fzQ [(1,E3 bx),(2,E1 l),(3,Ed s),(7,Ej d),(8,Eg a.1),(9,BL a.2)] [] 1073 rfl rfl rfl U rfl (Js fun b4=>Js fun b5=>?_))))))))))
   obtain⟨t,b6,h⟩:=Gd h
   obtain⟨i,b7,h⟩:=Gd h
   obtain⟨o,b9,h⟩:=Gd h
   obtain⟨n,c0,h⟩:=Gd h
   refine JC_d0 Jd (by kernel_rfl) (Dq (BL a.2) (G3 G G) G (Dq (BL (!a.2)) (Qj (b:=a.2) G G) G (Dq (BL (!a.2)) (G3 G G) G (Do (.agg (Gq.cs s)) [] G .scf U (fun hc=>Gj J4 G G G) G (Do (E1 l) [] G .scf U (fun hc=>G3 G G) G (Do (Ej d) [] G .scf U (fun hc=>G3 G G) G (Do (Ee c) [35,36] G .scf ⟨Ua,Ua,U⟩ (fun hc=>Gr (f:=G2.av) (xs:=l) (y:=c) G G G H5 m G) G (Do (.dptr ((G2.cs c).drop 1)) [37] G .scf ⟨Ua,U⟩ (fun hc=>Ga Jj G G G) G (Do (.agg ((G2.cs c).drop 1)) [38] G .scf ⟨Ua,U⟩ (fun hc=>Gj Q9 G G G) G (Do (.dptr ((Box.cs a.1).drop 2)) [] G .scf U (fun hc=>Ga eI G G G) G (Do (U8 a.1.Size) [40] G .scf ⟨Ua,U⟩ (fun hc=>Ge Jw G G G) G (Do (I64 t) [41] G .scf ⟨Ua,U⟩ (fun hc=>Haa Gd4 Gd3 (aM (Gv hc b6)) G G) G (Do (BL i) [34,39,42] G .scf ⟨Ua,Ua,Ua,U⟩ (fun hc=>Gi (args:=[.agg (Gq.cs s),.agg ((G2.cs c).drop 1),I64 t]) G (sB s c.Slot t i (Gv hc b7)) Gfc ⟨G,G,G,G,G,G,U⟩) G ?_)))))))))))))
   refine Do (BL (!i)) [43] G .scf ⟨Ua,U⟩ (fun hc=>Qj (b:=i) G G) G (Dq (BL ((!a.2)||(!i))) (Rm G G G G) G (Dq (BL ((!a.2)||(!i))) (G3 G G) G (Do (E1 l) [] G .scf U (fun hc=>G3 G G) G (Do (Ej d) [] G .scf U (fun hc=>G3 G G) G (Do (Ee c) [47,48] G .scf ⟨Ua,Ua,U⟩ (fun hc=>Gr (f:=G2.av) (xs:=l) (y:=c) G G G H5 m G) G (Do (.dptr ((G2.cs c).drop 1)) [49] G .scf ⟨Ua,U⟩ (fun hc=>Ga Jj G G G) G (Do (.agg ((G2.cs c).drop 1)) [50] G .scf ⟨Ua,U⟩ (fun hc=>Gj Q9 G G G) G (Do (E1 l) [] G .scf U (fun hc=>G3 G G) G (Do (E6 o) [52] G .scf ⟨Ua,U⟩ (fun hc=>Gi (args:=[E1 l]) G (sA l o (Gv hc b9)) Gfa ⟨G,G,U⟩) G (Do (BL n) [51,53] G .scf ⟨Ua,Ua,U⟩ (fun hc=>Gi (args:=[.agg ((G2.cs c).drop 1),E6 o]) G (tC c.Slot o n (Gv hc c0)) Gfb ⟨G,G,G,G,U⟩) G (Do (BL (!n)) [54] G .scf ⟨Ua,U⟩ (fun hc=>Qj (b:=n) G G) G (Dq (BL (((!a.2)||(!i))||(!n))) (Rm G G G G) G (Dnil ?_)))))))))))))
   refine b5 (JCc G h (fun h hb=>?_) (fun h hb=>?_))
   ·
    refine Jr fun c1=>(JLm (BL false) G (G5 (c1 (Gs (fin1 BL h)))))
   ·
    refine Gn (b4 (Jr fun c2=>(JLm (I64 0) G (G5 (c2 (Gf ?_))))))
    obtain⟨c3,h⟩:=J5 h
    obtain⟨g1,c4,c5,a3,h⟩:=dW h
    refine H8 (fun e (p:Unit)=>upto g1 c4 ((d:Int).toNat - e) e p=some r) (fun e p=>[(1,E3 bx),(2,E1 l),(3,Ed s),(7,Ej d),(10,Ej e)]) (fun e p=>[]) (fun e=>(d:Int).toNat - e) 0 () h ⟨(.sm G G),U,rfl⟩ ?_
    clear h
    intro e p v h1 g2
    refine Js fun c6=>Jr fun c7=>(JLm (Ej e) G (JLm (Ej d) G (JLh (BL (decide ((e:Int) < (d:Int)))) (Hr G G G) G (G5 (c7 (Gg G (fun hb=>?_) (fun hb=>?_)))))))
    ·
     have w:=cE hb
     obtain⟨g7,c8,h⟩:=cA v w
     replace h:=vG c5 h
     refine Gn (c6 (Js fun c9=>Gf (Js fun d0=>?_)))
     obtain⟨h2,j,d1,d2,h⟩:=R0 h
     obtain⟨k,d3,h⟩:=Gd h
     obtain⟨x,d4,h⟩:=Gd h
     refine JC_d0 Jd (by kernel_rfl) (Dq (E1 l) (G3 G G) G (Dq (Ej e) (G3 G G) G (Dq (Ee j) (Gr (f:=G2.av) (xs:=l) (y:=j) G G G H5 d2 d1) G (Dq (Ee j) (Ga Qf G G G) G (Dq (I64 j.Box) (Ge Gb G G G) G (Dq (E1 l) (G3 G G) G (Dq (Ej d) (G3 G G) G (Dq (Ee c) (Gr (f:=G2.av) (xs:=l) (y:=c) G G G H5 m G) G (Dq (Ee c) (Ga Qf G G G) G (Dq (I64 c.Box) (Ge Gb G G G) G (Dq (BL (decide (c.Box≤j.Box))) (cH G G G) G (Dq (BL (decide (c.Box≤j.Box))) (G3 G G) G (Do (E1 l) [] G .scf U (fun hc=>G3 G G) G ?_)))))))))))))
     refine Do (Ej e) [] G .scf U (fun hc=>G3 G G) G (Do (Ee k) [74,75] G .scf ⟨Ua,Ua,U⟩ (fun hc=>(match Jt (Gv hc d3) with | ⟨_,hm_,hy_⟩=>Gr (f:=G2.av) (xs:=l) (y:=k) G G G H5 hy_ hm_)) G (Do (.dptr ((G2.cs k).drop 1)) [76] G .scf ⟨Ua,U⟩ (fun hc=>Ga Jj G G G) G (Do (.agg ((G2.cs k).drop 1)) [77] G .scf ⟨Ua,U⟩ (fun hc=>Gj Q9 G G G) G (Do (E1 l) [] G .scf U (fun hc=>G3 G G) G (Do (Ej d) [] G .scf U (fun hc=>G3 G G) G (Do (Ee c) [79,80] G .scf ⟨Ua,Ua,U⟩ (fun hc=>Gr (f:=G2.av) (xs:=l) (y:=c) G G G H5 m G) G (Do (.dptr ((G2.cs c).drop 1)) [81] G .scf ⟨Ua,U⟩ (fun hc=>Ga Jj G G G) G (Do (.agg ((G2.cs c).drop 1)) [82] G .scf ⟨Ua,U⟩ (fun hc=>Gj Q9 G G G) G (Do (BL x) [78,83] G .scf ⟨Ua,Ua,U⟩ (fun hc=>Gi (args:=[.agg ((G2.cs k).drop 1),.agg ((G2.cs c).drop 1)]) G (sY k.Slot c.Slot x (Gv hc d4)) Gf9 ⟨G,G,G,G,U⟩) G (Dq (BL ((decide (c.Box≤j.Box))||x)) (Rm G G G G) G (Dnil ?_)))))))))))
     refine d0 (JCc G h (fun h hb=>?_) (fun h hb=>?_))
     ·
      refine Jr fun d5=>(JLm (BL false) G (G5 (d5 (Gs (fin1 BL h)))))
     ·
      refine Gn (c9 (G1 (JLm (Ej e) G (JLh (I64 ((e+1:Nat):Int)) (Hs (Hb w (Zr c3)) G G G) G (JLm (I64 ((e+1:Nat):Int)) G (G5 (g2 _ _ (e+1) () (app1 c8 h) (by omega) ⟨(.sm G G),U,rfl⟩)))))))
    ·
     have h:=app1 a3 (cB v (R9 hb))
     refine H9 (b1 (G1 (JLm (Ej d) G (JLh (I64 ((d+1:Nat):Int)) (Hs (Hb a6 b0) G G G) G (JLm (I64 ((d+1:Nat):Int)) G (G5 (e8 _ _ (d+1) () (app1 g0 h) (by omega) ⟨(.sm G G),U,rfl⟩)))))))
  ·
   have h:=app1 a8 (Hi a5 (H6 hb))
   refine H9 (f5 (Js fun d6=>Jr fun d7=>(JLm (I64 0) G (G5 (d7 (Gf ?_))))))
   obtain⟨g3,d8,d9,a4,h⟩:=Hy h
   refine H8 (fun g (q:Unit)=>each g3 d8 (List.drop g s.Columns) g q=some r) (fun g q=>[(1,E3 bx),(2,E1 l),(3,Ed s),(11,Ej g)]) (fun g q=>[]) (fun g=>s.Columns.length - g) 0 () h ⟨(.sm G G),U,rfl⟩ ?_
   clear h
   intro g q z h3 g4
   refine Js fun e0=>Jr fun e1=>(JLm (Ej g) G (JLh (Ed s) (Ga Hu G G G) G (JLh (E4 s.Columns) (Ge J2 G G G) G (JLl Hd G G G fun e2=>(JLh (BL (decide ((g:Int) < (s.Columns.length:Int)))) (Hr G G G) G (G5 (e1 (Gg G (fun hb=>?_) (fun hb=>?_)))))))))
   ·
    have a0:=Je hb
    obtain⟨h4,g8,g9,e3,h⟩:=Hh z a0
    replace h:=Rx d9 h
    refine Gn (e0 (Js fun e4=>Gf (Jr fun e5=>(JLh (.agg (Gq.cs s)) (Gj J4 G G G) G (JLm (E3 bx) G (JLm (E1 l) G (JLm (Ej g) G ?_)))))))
    obtain⟨a7,e6,h⟩:=Gd h
    refine JLh (BL a7) (Gi G (sW s bx l (g:Int) a7 e6) Gf8 ⟨G,G,G,G,G,G,G,G,U⟩) G (G5 (e5 (JCc G h (fun h hb=>?_) (fun h hb=>?_))))
    ·
     refine Jr fun e7=>(JLm (BL false) G (G5 (e7 (Gs (fin1 BL h)))))
    ·
     refine Gn (e4 (G1 (JLm (Ej g) G (JLh (I64 ((g+1:Nat):Int)) (Hs (Hb a0 e2) G G G) G (JLm (I64 ((g+1:Nat):Int)) G (G5 (g4 _ _ (g+1) () (app1 e3 h) (by omega) ⟨(.sm G G),U,rfl⟩)))))))
   ·
    have h:=app1 a4 (Hi z (H6 hb))
    refine H9 (d6 (Jr fun e9=>(JLm (BL true) G (G5 (e9 (Gs (fin1 BL h)))))))

def Yi (bx:List Box) (call:Int):Option (List Int):=
 each (fun b f (a:(List Int)) d=>
  jp (fun c=>
   bif ((decide (b.Load≤call))&&(decide (call < b.Discharge))) then
   (need (decide ((a.length+[b.ID].length)*8≤140737488355328/\a.length+[b.ID].length≤maxLen)) <|
    c (a++[b.ID]))
   else
   (c a)) fun(e:(List Int))=>
  d e)
 (fun(a:(List Int))=>
  some a) bx 0 []
theorem iE (bx:List Box) (call:Int) (r:(List Int)) (h:Yi bx call=some r):Pure Ek 17 [E3 bx,I64 call] (·=E2 r):=by
 unfold Yi at h
 refine Gy [.tmp 4] Tryz.func17 G G (Jr fun v=>(JLh (E2 ([]:List Int)) (Qd 1 G G) G (G5 (v (Jr fun w=>(JLh (OW 1024 1 I64 ([]:List Int)) (kY 1024 3 1 G G G) G (G5 (w (Js fun x=>Jr fun z=>(JLm (I64 0) G (G5 (z (Gf ?_)))))))))))))
 obtain⟨a0,l,m,j,h⟩:=Hy h
 refine H8 (fun b (c:(List Int))=>each a0 l (List.drop b bx) b c=some r) (fun b c=>[(0,E3 bx),(1,I64 call),(5,OW 1024 1 I64 c),(6,Ej b)]) (fun b c=>[(1024,.spare 3 1 c.length c.length)]) (fun b=>bx.length - b) 0 [] h ⟨(.sm G G),⟨⟨_,rfl,.same⟩,U⟩,rfl⟩ ?_
 clear h
 intro b c g a4 a1
 refine Js fun n=>Jr fun o=>(JLm (Ej b) G (JLm (E3 bx) G (JLl J3 G G G fun a2=>(JLh (BL (decide ((b:Int) < (bx.length:Int)))) (Hr G G G) G (G5 (o (Gg G (fun hb=>?_) (fun hb=>?_))))))))
 ·
  have i:=Je hb
  obtain⟨a,a3,e,p,h⟩:=Hh g i
  replace h:=Rx m h
  refine Gn (n ?_)
  obtain⟨q,k,h⟩:=gF h
  refine Zc (fun d:(List Int)=>q d=some r) (fun d=>[(0,E3 bx),(1,I64 call),(5,OW 1024 1 I64 d),(6,Ej b)]) (fun d=>[(1024,.spare 3 1 d.length d.length)]) (fun Kj27 ej27=>?_) ?_
  ·
   refine Gf (Jr fun s=>(JLm (E3 bx) G (JLm (Ej b) G (JLh (Eg a) (Gr (f:=Box.av) (xs:=bx) (y:=a) G G G J3 e G) G (JLh (.dptr ((Box.cs a).drop 5)) (Ga fT G G G) G (JLh (I64 a.Load) (Ge Gb G G G) G (JLm (I64 call) G (JLh (BL (decide (a.Load≤call))) (rQ G G G) G (JLm (BL (decide (a.Load≤call))) G (JLo (E3 bx) [] G .sct U (fun hc=>G3 G G) G (JLo (Ej b) [] G .sct U (fun hc=>G3 G G) G (JLo (Eg a) [21,22] G .sct ⟨Ua,Ua,U⟩ (fun hc=>Gr (f:=Box.av) (xs:=bx) (y:=a) G G G J3 e G) G (JLo (.dptr ((Box.cs a).drop 6)) [23] G .sct ⟨Ua,U⟩ (fun hc=>Ga fS G G G) G (JLo (I64 a.Discharge) [24] G .sct ⟨Ua,U⟩ (fun hc=>Ge Gb G G G) G ?_))))))))))))))
   refine JLo (I64 call) [] G .sct U (fun hc=>G3 G G) G (JLo (BL (decide (call < a.Discharge))) [25,26] G .sct ⟨Ua,Ua,U⟩ (fun hc=>dE G G G) G (JLh (BL ((decide (a.Load≤call))&&(decide (call < a.Discharge)))) (J9 G G G G) G (G5 (s (JCc G h (fun h hb=>?_) (fun h hb=>?_))))))
   ·
    refine G1 (JLm (OW 1024 1 I64 c) G (JLm (E3 bx) G (JLm (Ej b) G (JLh (Eg a) (Gr (f:=Box.av) (xs:=bx) (y:=a) G G G J3 e G) G (JLh (Eg a) (Ga Yq G G G) G (JLh (I64 a.ID) (Ge Gb G G G) G (JLh (E2 [a.ID]) (Hf (xs:=[I64 a.ID]) G ⟨G,G,U⟩ Gz Zq G G G G) G ?_)))))))
    obtain⟨t,h⟩:=J5 h
    refine JLh (OW 1024 1 I64 (c++[a.ID])) (R8 (f:=I64) (xs:=c) (ys:=[a.ID]) G G G G Gz fY t (fun _=>G) (.inl G) G) G (JLm (OW 1024 1 I64 (c++[a.ID])) G (G5 (ej27 _ _ (c++[a.ID]) h ⟨(.sm G G),⟨⟨_,rfl,.same⟩,U⟩,rfl⟩)))
   ·
    refine Gn (ej27 _ _ c h ⟨(.sm G G),⟨⟨_,rfl,.same⟩,U⟩,rfl⟩)
  .intro d h
   replace h:=app1 k h
   refine G1 (JLm (Ej b) G (JLh (I64 ((b+1:Nat):Int)) (Hs (Hb i a2) G G G) G (JLm (I64 ((b+1:Nat):Int)) G (G5 (a1 _ _ (b+1) d (app1 p h) (by omega) ⟨(.sm G G),⟨⟨_,rfl,.same⟩,U⟩,rfl⟩)))))
 ·
  have h:=app1 j (Hi g (H6 hb))
  refine H9 (x (Jr fun u=>(JLm (OW 1024 1 I64 c) G (JLm (OW 1024 1 I64 c) G (G5 (u (Gs (fin1l (fun r:(List Int)=>(E2 r:AV)) h))))))))

def Jg (l:List G2) (id_:Int):Option Int:=
 each (fun b c (d:Unit) a=>
  bif decide (b.Box=id_) then
  (some (c:Int))
  else
  (a ()))
 (fun(d:Unit)=>
  some (-1)) l 0 ()
theorem Qt (l:List G2) (id_:Int) (r:Int) (h:Jg l id_=some r):Pure Ek 49 [E1 l,I64 id_] (·=I64 r):=by
 unfold Jg at h
 refine Gy [.tmp 4] Tryz.func49 G G (Jr fun u=>(JLm (I64 0) G (G5 (u (Js fun v=>Jr fun w=>(JLm (I64 0) G (G5 (w (Gf ?_)))))))))
 obtain⟨x,i,j,g,h⟩:=Hy h
 refine H8 (fun a (c:Unit)=>each x i (List.drop a l) a c=some r) (fun a c=>[(0,E1 l),(1,I64 id_),(5,Ej a)]) (fun a c=>[]) (fun a=>l.length - a) 0 () h ⟨(.sm G G),U,G⟩ ?_
 clear h
 intro a c d a2 z
 refine Js fun k=>Jr fun m=>(JLm (Ej a) G (JLm (E1 l) G (JLl H5 G G G fun a0=>(JLh (BL (decide ((a:Int) < (l.length:Int)))) (Hr G G G) G (G5 (m (Gg G (fun hb=>?_) (fun hb=>?_))))))))
 ·
  have e:=Je hb
  obtain⟨b,a1,n,o,h⟩:=Hh d e
  replace h:=Rx j h
  refine Gn (k (Js fun p=>Gf (Jr fun q=>(JLm (E1 l) G (JLm (Ej a) G (JLh (Ee b) (Gr (f:=G2.av) (xs:=l) (y:=b) G G G H5 n G) G (JLh (Ee b) (Ga Qf G G G) G (JLh (I64 b.Box) (Ge Gb G G G) G (JLm (I64 id_) G (JLh (BL (decide (b.Box=id_))) (Qc G G G) G (G5 (q (JCc G h (fun h hb=>?_) (fun h hb=>?_))))))))))))))
  ·
   refine Jr fun s=>(JLm (Ej a) G (JLm (Ej a) G (G5 (s (Gs (fin1 I64 h))))))
  ·
   refine Gn (p (G1 (JLm (Ej a) G (JLh (I64 ((a+1:Nat):Int)) (Hs (Hb e a0) G G G) G (JLm (I64 ((a+1:Nat):Int)) G (G5 (z _ _ (a+1) () (app1 o h) (by omega) ⟨(.sm G G),U,rfl⟩)))))))
 ·
  have h:=app1 g (Hi d (H6 hb))
  refine H9 (v (Jr fun t=>(JLm (I64 (-1)) G (G5 (t (Gs (fin1 I64 h)))))))

def Qy (F:Nat) (s:Gq) (bx:List Box) (calls:Int) (p:Ya):Option (Int×Int):=
 bnd (Yv F s) fun m=>
 bif (!m) then
 (some (0,2))
 else
 (bnd (Y5 bx calls) fun n=>
  bif (!n) then
  (some (0,230))
  else
  (bif decide ((p.States.length:Int)≠calls) then
   (some (0,231))
   else
   (need (decide (calls≤9223372036854775807)) <|
    upto (fun a (e:Unit) c=>
     Jo p.States (a:Int) fun f=>
     bnd (Y6 F s bx f) fun g=>
     bif (!g) then
     (some ((a:Int),232))
     else
     (bnd (Yi bx (a:Int)) fun b=>
      Jo p.States (a:Int) fun h=>
      bif decide ((b.length:Int)≠(h.length:Int)) then
      (some ((a:Int),233))
      else
      (each (fun i o (j:Unit) d=>
        Jo p.States (a:Int) fun k=>
        bnd (Jg k i) fun l=>
        bif decide (l < 0) then
        (some ((a:Int),233))
        else
        (d ()))
       (fun(j:Unit)=>
        c ()) b 0 ())))
    (fun(e:Unit)=>
     some (0,0)) calls.toNat 0 ())))
abbrev Mg (p:Ya):List AV:=[LS 1 (E1) p.States,LS 1 (E2) p.Water]
theorem iR (F:Nat) (s:Gq) (bx:List Box) (calls:Int) (p:Ya) (r:Int×Int) (h:Qy F s bx calls p=some r):Pure Ek 12 [.agg (Gq.cs s),E3 bx,I64 calls,.agg [LS 1 (E1) p.States,LS 1 (E2) p.Water]] (·=.tup [I64 r.1,I64 r.2]):=by
 unfold Qy at h
 refine Gy [.tmp 8,.tmp 9] Tryz.func12 G G (Jr fun e0=>(JLh (.ptr 1018 0) (Jy (cs:=(Gq.cs s)) 1018 G G G G G) G (JLh (.ptr 1019 0) (Jy (cs:=(Mg p)) 1019 G G G G G) G (JLm (I64 0) G (JLm (I64 0) G (G5 (e0 (fzQ [(1,E3 bx),(2,I64 calls),(4,Ed s),(7,.ptr 1019 0)] [(1019,.box 37 (Mg p))] 1018 rfl rfl rfl ⟨⟨_,rfl,.boxEq rfl rfl⟩,U⟩ rfl ?_))))))))
 refine fzQ [(1,E3 bx),(2,I64 calls),(4,Ed s),(7,.dptr (Mg p))] [] 1019 rfl rfl rfl U rfl (Js fun e1=>Jr fun e2=>(JLh (.agg (Gq.cs s)) (Gj J4 G G G) G ?_))
 obtain⟨w,e3,h⟩:=Gd h
 refine JLh (BL w) (Gi G (iT F s w e3) ZQ ⟨G,G,U⟩) G (JLh (BL (!w)) (Qj (b:=w) G G) G (G5 (e2 (JCc G h (fun h hb=>?_) (fun h hb=>?_)))))
 ·
  refine Jr fun e4=>(JLm (I64 0) G (JLm (I64 2) G (G5 (e4 (Gs (⟨[I64 0,I64 2],[],U,G,⟨⟨_,G,.conv (.same G)⟩,⟨_,G,.conv (.same G)⟩,U⟩,G,congrArg (fun r:Int×Int=>(.tup [I64 r.1,I64 r.2]:AV)) (Pc h)⟩))))))
 ·
  refine Gn (e1 (Js fun e5=>Jr fun e6=>(JLm (E3 bx) G (JLm (I64 calls) G ?_))))
  obtain⟨x,e7,h⟩:=Gd h
  refine JLh (BL x) (Gi G (iS bx calls x e7) ZX ⟨G,G,G,G,U⟩) G (JLh (BL (!x)) (Qj (b:=x) G G) G (G5 (e6 (JCc G h (fun h hb=>?_) (fun h hb=>?_)))))
  ·
   refine Jr fun e8=>(JLm (I64 0) G (JLm (I64 230) G (G5 (e8 (Gs (⟨[I64 0,I64 230],[],U,G,⟨⟨_,G,.conv (.same G)⟩,⟨_,G,.conv (.same G)⟩,U⟩,G,congrArg (fun r:Int×Int=>(.tup [I64 r.1,I64 r.2]:AV)) (Pc h)⟩))))))
  ·
   refine Gn (e5 (Js fun a1=>Jr fun a2=>(JLh (.dptr (Mg p)) (Ga Qr G G G) G (JLh (LS 1 (E1) p.States) (Ge Qe G G G) G (JLl Hn G G G fun n=>(JLm (I64 calls) G (JLh (BL (decide ((p.States.length:Int)≠calls))) (aH G G G) G (G5 (a2 (JCc G h (fun h hb=>?_) (fun h hb=>?_)))))))))))
   ·
    refine Jr fun a3=>(JLm (I64 0) G (JLm (I64 231) G (G5 (a3 (Gs (⟨[I64 0,I64 231],[],U,G,⟨⟨_,G,.conv (.same G)⟩,⟨_,G,.conv (.same G)⟩,U⟩,G,congrArg (fun r:Int×Int=>(.tup [I64 r.1,I64 r.2]:AV)) (Pc h)⟩))))))
   ·
    refine Gn (a1 (Js fun a4=>Jr fun a5=>(JLm (I64 0) G (G5 (a5 (Gf ?_))))))
    obtain⟨a6,h⟩:=J5 h
    obtain⟨e9,a7,a8,z,h⟩:=dW h
    refine H8 (fun a (j:Unit)=>upto e9 a7 (calls.toNat - a) a j=some r) (fun a j=>[(1,E3 bx),(2,I64 calls),(4,Ed s),(7,.dptr (Mg p)),(10,Ej a)]) (fun a j=>[]) (fun a=>calls.toNat - a) 0 () h ⟨(.sm G G),U,rfl⟩ ?_
    clear h
    intro a j o f7 f0
    refine Js fun a9=>Jr fun b0=>(JLm (Ej a) G (JLm (I64 calls) G (JLh (BL (decide ((a:Int) < calls))) (Hr G G G) G (G5 (b0 (Gg G (fun hb=>?_) (fun hb=>?_)))))))
    ·
     have q:=cE hb
     obtain⟨f3,b1,h⟩:=cA o q
     replace h:=vG a8 h
     refine Gn (a9 (Js fun b2=>Gf (Js fun b3=>Js fun b4=>?_)))
     obtain⟨f8,e,n,b5,h⟩:=R0 h
     obtain⟨k,b6,h⟩:=Gd h
     refine JC_d0 Jd (by kernel_rfl) (Dq (.agg (Gq.cs s)) (Gj J4 G G G) G (Dq (E3 bx) (G3 G G) G (Dq (.dptr (Mg p)) (Ga Qr G G G) G (Dq (LS 1 (E1) p.States) (Ge Qe G G G) G (Dq (Ej a) (G3 G G) G (Dq (.dptr [E1 e]) (Gr (f:=(E1)) (xs:=p.States) (y:=e) G G G Hn b5 n) G (Dq (E1 e) (Ge Q6 G G G) G (Dq (BL k) (Gi (args:=[.agg (Gq.cs s),E3 bx,E1 e]) G (eN F s bx e k b6) yU ⟨G,G,G,G,G,G,U⟩) G (Dq (BL (!k)) (Qj (b:=k) G G) G (Dnil (b4 (JCc G h (fun h hb=>?_) (fun h hb=>?_)))))))))))))
     ·
      refine Jr fun b7=>(JLm (Ej a) G (JLm (Ej a) G (JLm (I64 232) G (G5 (b7 (Gs (⟨[Ej a,I64 232],[],U,G,⟨⟨_,G,.conv (.same G)⟩,⟨_,G,.conv (.same G)⟩,U⟩,G,congrArg (fun r:Int×Int=>(.tup [I64 r.1,I64 r.2]:AV)) (Pc h)⟩)))))))
     ·
      refine Gn (b3 (Jr fun b8=>(JLm (E3 bx) G (JLm (Ej a) G ?_))))
      obtain⟨d,b9,h⟩:=Gd h
      refine JLh (E2 d) (Gi G (iE bx (a:Int) d b9) ZW ⟨G,G,G,G,U⟩) G (JLm (E2 d) G (G5 (b8 (Js fun c0=>Jr fun c1=>(JLm (E2 d) G (JLl Gz G G G fun f4=>(JLh (.dptr (Mg p)) (Ga Qr G G G) G (JLh (LS 1 (E1) p.States) (Ge Qe G G G) G (JLm (Ej a) G ?_)))))))))
      obtain⟨f9,l,c2,c3,h⟩:=R0 h
      refine JLh (.dptr [E1 l]) (Gr (f:=(E1)) (xs:=p.States) (y:=l) G G G Hn c3 c2) G (JLh (E1 l) (Ge Q6 G G G) G (JLl H5 G G G fun f5=>(JLh (BL (decide ((d.length:Int)≠(l.length:Int)))) (aH G G G) G (G5 (c1 (JCc G h (fun h hb=>?_) (fun h hb=>?_)))))))
      ·
       refine Jr fun c4=>(JLm (Ej a) G (JLm (Ej a) G (JLm (I64 233) G (G5 (c4 (Gs (⟨[Ej a,I64 233],[],U,G,⟨⟨_,G,.conv (.same G)⟩,⟨_,G,.conv (.same G)⟩,U⟩,G,congrArg (fun r:Int×Int=>(.tup [I64 r.1,I64 r.2]:AV)) (Pc h)⟩)))))))
      ·
       refine Gn (c0 (Jr fun c5=>(JLm (I64 0) G (G5 (c5 (Gf ?_))))))
       obtain⟨f1,c6,c7,a0,h⟩:=Hy h
       refine H8 (fun c (m:Unit)=>each f1 c6 (List.drop c d) c m=some r) (fun c m=>[(1,E3 bx),(2,I64 calls),(4,Ed s),(7,.dptr (Mg p)),(10,Ej a),(11,E2 d),(12,Ej c)]) (fun c m=>[]) (fun c=>d.length - c) 0 () h ⟨(.sm G G),U,rfl⟩ ?_
       clear h
       intro c m t g0 f2
       refine Js fun c8=>Jr fun c9=>(JLm (Ej c) G (JLm (E2 d) G (JLl Gz G G G fun d0=>(JLh (BL (decide ((c:Int) < (d.length:Int)))) (Hr G G G) G (G5 (c9 (Gg G (fun hb=>?_) (fun hb=>?_))))))))
       ·
        have u:=Je hb
        obtain⟨g,f6,d1,d2,h⟩:=Hh t u
        replace h:=Rx c7 h
        refine Gn (c8 (Js fun d3=>Gf (Js fun d4=>?_)))
        obtain⟨g1,i,d5,d6,h⟩:=R0 h
        obtain⟨v,d7,h⟩:=Gd h
        refine JC_d0 Jd (by kernel_rfl) (Dq (.dptr (Mg p)) (Ga Qr G G G) G (Dq (LS 1 (E1) p.States) (Ge Qe G G G) G (Dq (Ej a) (G3 G G) G (Dq (.dptr [E1 i]) (Gr (f:=(E1)) (xs:=p.States) (y:=i) G G G Hn d6 d5) G (Dq (E1 i) (Ge Q6 G G G) G (Dq (E2 d) (G3 G G) G (Dq (Ej c) (G3 G G) G (Dq (.dptr [I64 g]) (Gr (f:=I64) (xs:=d) (y:=g) G G G Gz d1 G) G (Dq (I64 g) (Ge Gb G G G) G (Dq (I64 v) (Gi (args:=[E1 i,I64 g]) G (Qt i g v d7) eJ ⟨G,G,G,G,U⟩) G (Dq (BL (decide (v < 0))) (Hr G G G) G (Dnil (d4 ?_)))))))))))))
        refine JCc G h ?_ ?_<;>intro h hb
        ·
         refine Jr fun d8=>(JLm (Ej a) G (JLm (Ej a) G (JLm (I64 233) G (G5 (d8 (Gs (⟨[Ej a,I64 233],[],U,G,⟨⟨_,G,.conv (.same G)⟩,⟨_,G,.conv (.same G)⟩,U⟩,G,congrArg (fun r:Int×Int=>(.tup [I64 r.1,I64 r.2]:AV)) (Pc h)⟩)))))))
        ·
         refine Gn (d3 (G1 (JLm (Ej c) G (JLh (I64 ((c+1:Nat):Int)) (Hs (Hb u d0) G G G) G (JLm (I64 ((c+1:Nat):Int)) G (G5 (f2 _ _ (c+1) () (app1 d2 h) (by omega) ⟨(.sm G G),U,rfl⟩)))))))
       ·
        have h:=app1 a0 (Hi t (H6 hb))
        refine H9 (b2 (G1 (JLm (Ej a) G (JLh (I64 ((a+1:Nat):Int)) (Hs (Hb q (Zr a6)) G G G) G (JLm (I64 ((a+1:Nat):Int)) G (G5 (f0 _ _ (a+1) () (app1 b1 h) (by omega) ⟨(.sm G G),U,rfl⟩)))))))
    ·
     have h:=app1 z (cB o (R9 hb))
     refine H9 (a4 (Jr fun d9=>(JLm (I64 0) G (JLm (I64 0) G (G5 (d9 (Gs (⟨[I64 0,I64 0],[],U,G,⟨⟨_,G,.conv (.same G)⟩,⟨_,G,.conv (.same G)⟩,U⟩,G,congrArg (fun r:Int×Int=>(.tup [I64 r.1,I64 r.2]:AV)) (Pc h)⟩))))))))

def Yu (bf:List G2) (af:List G2) (id_:Int):Option Bool:=
 bnd (Jg bf id_) fun a=>
 bnd (Jg af id_) fun b=>
 bnd (bif (!((decide (a < 0))||(decide (b < 0)))) then Jo bf a some else some default) fun c=>
 bnd (bif (!((decide (a < 0))||(decide (b < 0)))) then Jo af b some else some default) fun d=>
 some (((decide (a < 0))||(decide (b < 0)))||(!decide (c.Slot=d.Slot)))
abbrev Mh (a:Int) (b:Int):Bool:=((decide (a < 0))||(decide (b < 0)))
theorem rX (bf:List G2) (af:List G2) (id_:Int) (r:Bool) (h:Yu bf af id_=some r):Pure Ek 125 [E1 bf,E1 af,I64 id_] (·=BL r):=by
 unfold Yu at h
 refine Gy [.tmp 6] Tryz.func125 G G (Jr fun e=>(JLm (BL false) G (G5 (e (Jr fun g=>(JLm (E1 bf) G (JLm (I64 id_) G ?_)))))))
 obtain⟨a,i,h⟩:=Gd h
 refine JLh (I64 a) (Gi G (Qt bf id_ a i) eJ ⟨G,G,G,G,U⟩) G (JLm (E1 af) G (JLm (I64 id_) G ?_))
 obtain⟨d,j,h⟩:=Gd h
 refine JLh (I64 d) (Gi G (Qt af id_ d j) eJ ⟨G,G,G,G,U⟩) G (JLm (I64 a) G (JLm (I64 d) G (G5 (g (Js fun k=>?_)))))
 obtain⟨b,l,h⟩:=Gd h
 obtain⟨c,m,h⟩:=Gd h
 refine JC_d0 Jd (by kernel_rfl) (Dq (I64 a) (G3 G G) G (Dq (BL (decide (a < 0))) (Hr G G G) G (Dq (BL (decide (a < 0))) (G3 G G) G (Do (I64 d) [] G .scf U (fun hc=>G3 G G) G (Do (BL (decide (d < 0))) [18] G .scf ⟨Ua,U⟩ (fun hc=>Hr G G G) G (Dq (BL (Mh a d)) (Rm G G G G) G (Dq (BL (Mh a d)) (G3 G G) G (Do (E1 bf) [] G .scf U (fun hc=>G3 G G) G (Do (I64 a) [] G .scf U (fun hc=>G3 G G) G (Do (Ee b) [22,23] G .scf ⟨Ua,Ua,U⟩ (fun hc=>(match Jt (Gv hc l) with | ⟨_,hm_,hy_⟩=>Gr (f:=G2.av) (xs:=bf) (y:=b) G G G H5 hy_ hm_)) G (Do (.dptr ((G2.cs b).drop 1)) [24] G .scf ⟨Ua,U⟩ (fun hc=>Ga Jj G G G) G (Do (.agg ((G2.cs b).drop 1)) [25] G .scf ⟨Ua,U⟩ (fun hc=>Gj Q9 G G G) G (Do (E1 af) [] G .scf U (fun hc=>G3 G G) G ?_)))))))))))))
 refine Do (I64 d) [] G .scf U (fun hc=>G3 G G) G (Do (Ee c) [27,28] G .scf ⟨Ua,Ua,U⟩ (fun hc=>(match Jt (Gv hc m) with | ⟨_,hm_,hy_⟩=>Gr (f:=G2.av) (xs:=af) (y:=c) G G G H5 hy_ hm_)) G (Do (.dptr ((G2.cs c).drop 1)) [29] G .scf ⟨Ua,U⟩ (fun hc=>Ga Jj G G G) G (Do (.agg ((G2.cs c).drop 1)) [30] G .scf ⟨Ua,U⟩ (fun hc=>Gj Q9 G G G) G (Do (BL (!decide (b.Slot=c.Slot))) [26,31] G .scf ⟨Ua,Ua,U⟩ (fun hc=>uY (vs:=[.int .i64 b.Slot.G6,.int .i64 b.Slot.Tier,.int .u8 b.Slot.Half]) (us:=[.int .i64 c.Slot.G6,.int .i64 c.Slot.Tier,.int .u8 c.Slot.Half]) 4 G (Haf b.Slot c.Slot) qV xD G G G) G (Dq (BL ((Mh a d)||(!decide (b.Slot=c.Slot)))) (Rm G G G G) G (Dq (BL ((Mh a d)||(!decide (b.Slot=c.Slot)))) (G7 G G) G (Dnil ?_)))))))
 refine k (Gs (fin1 BL h))

def bJ (a:Slot) (b:Slot):Option Bool:=
 bnd (bif ((decide (a.G6=b.G6))&&(decide (b.Tier < a.Tier))) then Rt a.Half b.Half else some default) fun c=>
 some (((decide (a.G6=b.G6))&&(decide (b.Tier < a.Tier)))&&c)
abbrev Mi (a:Slot) (b:Slot):Bool:=((decide (a.G6=b.G6))&&(decide (b.Tier < a.Tier)))
theorem sX (a:Slot) (b:Slot) (r:Bool) (h:bJ a b=some r):Pure Ek 201 [.agg [I64 a.G6,I64 a.Tier,U8 a.Half],.agg [I64 b.G6,I64 b.Tier,U8 b.Half]] (·=BL r):=by
 unfold bJ at h
 refine Gy [.tmp 4] Tryz.func201 G G (Jr fun d=>(JLh (.ptr 1169 0) (Jy (cs:=(Mb a)) 1169 G G G G G) G (JLh (.ptr 1170 0) (Jy (cs:=(Mb b)) 1170 G G G G G) G (JLm (BL false) G (G5 (d (Gw [(2,.dptr (Mb a)),(3,.ptr 1170 0)] [(1170,.box 81 (Mb b))] 1169 rfl rfl rfl ⟨⟨_,rfl,.boxEq rfl rfl⟩,U⟩ rfl (by exact⟨.ptr,.conv (.same rfl),U⟩) (Gw [(2,.dptr (Mb a)),(3,.dptr (Mb b))] [] 1170 rfl rfl rfl U rfl (by exact⟨.conv (.same rfl),.ptr,U⟩) ?_))))))))
 refine Jr fun e=>(JLh (.dptr (Mb a)) (Ga Jk G G G) G (JLh (I64 a.G6) (Ge Gb G G G) G (JLh (.dptr (Mb b)) (Ga Jk G G G) G (JLh (I64 b.G6) (Ge Gb G G G) G (JLh (BL (decide (a.G6=b.G6))) (Qc G G G) G (JLm (BL (decide (a.G6=b.G6))) G (JLo (.dptr [I64 a.Tier,U8 a.Half]) [] G .sct U (fun hc=>Ga Qz G G G) G (JLo (I64 a.Tier) [11] G .sct ⟨Ua,U⟩ (fun hc=>Ge Gb G G G) G (JLo (.dptr [I64 b.Tier,U8 b.Half]) [] G .sct U (fun hc=>Ga Qz G G G) G (JLo (I64 b.Tier) [13] G .sct ⟨Ua,U⟩ (fun hc=>Ge Gb G G G) G (JLo (BL (decide (b.Tier < a.Tier))) [12,14] G .sct ⟨Ua,Ua,U⟩ (fun hc=>dE G G G) G (JLh (BL (Mi a b)) (J9 G G G G) G (JLm (BL (Mi a b)) G ?_)))))))))))))
 refine JLo (.dptr [U8 a.Half]) [] G .sct U (fun hc=>Ga Q4 G G G) G (JLo (U8 a.Half) [18] G .sct ⟨Ua,U⟩ (fun hc=>Ge Jw G G G) G (JLo (.dptr [U8 b.Half]) [] G .sct U (fun hc=>Ga Q4 G G G) G (JLo (U8 b.Half) [20] G .sct ⟨Ua,U⟩ (fun hc=>Ge Jw G G G) G ?_)))
 obtain⟨c,f,h⟩:=Gd h
 refine JLo (BL c) [19,21] G .sct ⟨Ua,Ua,U⟩ (fun hc=>Gi (args:=[U8 a.Half,U8 b.Half]) G (iG a.Half b.Half c (Gv hc f)) QL ⟨G,G,G,G,U⟩) G (JLh (BL ((Mi a b)&&c)) (J9 G G G G) G (JLm (BL ((Mi a b)&&c)) G (G5 (e (Gs (fin1 BL h))))))

def Rf (s:Gq) (column:Int):Option Int:=
 bif ((decide (column < 0))||(decide ((s.Columns.length:Int)≤column))) then
 (some (-1))
 else
 (each (fun a d (e:Unit) c=>
   Jo s.Columns column fun b=>
   bnd (bif decide (a.Bay=b.Bay) then Jo s.Columns column some else some default) fun f=>
   bnd (bif decide (a.Bay=b.Bay) then Qq a.Rows f.Row else some default) fun g=>
   bif ((decide (a.Bay=b.Bay))&&g) then
   (some (d:Int))
   else
   (c ()))
  (fun(e:Unit)=>
   some (-1)) s.Covers 0 ())
theorem gU (s:Gq) (column:Int) (r:Int) (h:Rf s column=some r):Pure Ek 238 [.agg (Gq.cs s),I64 column] (·=I64 r):=by
 unfold Rf at h
 refine Gy [.tmp 4] Tryz.func238 G G (Jr fun a3=>(JLh (.ptr 1183 0) (Jy (cs:=(Gq.cs s)) 1183 G G G G G) G (JLm (I64 0) G (G5 (a3 (Gw [(1,I64 column),(2,Ed s)] [] 1183 rfl rfl rfl U rfl (by exact⟨.conv (.same rfl),.ptr,U⟩) (Js fun a4=>?_)))))))
 refine Jr fun a5=>(JLm (I64 column) G (JLh (BL (decide (column < 0))) (Hr G G G) G (JLm (BL (decide (column < 0))) G (JLo (I64 column) [] G .scf U (fun hc=>G3 G G) G (JLo (Ed s) [] G .scf U (fun hc=>Ga Hu G G G) G (JLo (E4 s.Columns) [10] G .scf ⟨Ua,U⟩ (fun hc=>Ge J2 G G G) G (JLo (Ej s.Columns.length) [11] G .scf ⟨Ua,U⟩ (fun hc=>Q8 (f:=G6.av) (xs:=s.Columns) Hd G G) G (JLo (BL (decide ((s.Columns.length:Int)≤column))) [9,12] G .scf ⟨Ua,Ua,U⟩ (fun hc=>cH G G G) G (JLh (BL ((decide (column < 0))||(decide ((s.Columns.length:Int)≤column)))) (Rm G G G G) G (G5 (a5 (JCc G h (fun h hb=>?_) (fun h hb=>?_)))))))))))))
 ·
  refine Jr fun a6=>(JLm (I64 (-1)) G (G5 (a6 (Gs (fin1 I64 h)))))
 ·
  refine Gn (a4 (Js fun a7=>Jr fun a8=>(JLm (I64 0) G (G5 (a8 (Gf ?_))))))
  obtain⟨a9,m,n,l,h⟩:=Hy h
  refine H8 (fun a (e:Unit)=>each a9 m (List.drop a s.Covers) a e=some r) (fun a e=>[(1,I64 column),(2,Ed s),(5,Ej a)]) (fun a e=>[]) (fun a=>s.Covers.length - a) 0 () h ⟨(.sm G G),U,G⟩ ?_
  clear h
  intro a e g b2 b0
  refine Js fun o=>Jr fun p=>(JLm (Ej a) G (JLh (.dptr ((Gq.cs s).drop 1)) (Ga Qh G G G) G (JLh (E5 s.Covers) (Ge R4 G G G) G (JLl J1 G G G fun q=>(JLh (BL (decide ((a:Int) < (s.Covers.length:Int)))) (Hr G G G) G (G5 (p (Gg G (fun hb=>?_) (fun hb=>?_)))))))))
  ·
   have i:=Je hb
   obtain⟨b,b1,j,t,h⟩:=Hh g i
   replace h:=Rx n h
   refine Gn (o (Js fun u=>Gf (Js fun v=>?_)))
   obtain⟨b3,c,w,x,h⟩:=R0 h
   obtain⟨d,z,h⟩:=Gd h
   obtain⟨k,a0,h⟩:=Gd h
   refine JC_d0 Jd (by kernel_rfl) (Dq (.dptr ((Gq.cs s).drop 1)) (Ga Qh G G G) G (Dq (E5 s.Covers) (Ge R4 G G G) G (Dq (Ej a) (G3 G G) G (Dq (.dptr [I64 b.Bay,E2 b.Rows]) (Gr (f:=H3.av) (xs:=s.Covers) (y:=b) G G G J1 j G) G (Dq (.dptr [I64 b.Bay,E2 b.Rows]) (Ga aI G G G) G (Dq (I64 b.Bay) (Ge Gb G G G) G (Dq (Ed s) (Ga Hu G G G) G (Dq (E4 s.Columns) (Ge J2 G G G) G (Dq (I64 column) (G3 G G) G (Dq (Ef c) (Gr (f:=G6.av) (xs:=s.Columns) (y:=c) G G G Hd x w) G (Dq (Ef c) (Ga bU G G G) G (Dq (I64 c.Bay) (Ge Gb G G G) G (Dq (BL (decide (b.Bay=c.Bay))) (Qc G G G) G ?_)))))))))))))
   refine Dq (BL (decide (b.Bay=c.Bay))) (G3 G G) G (Do (.dptr ((Gq.cs s).drop 1)) [] G .sct U (fun hc=>Ga Qh G G G) G (Do (E5 s.Covers) [36] G .sct ⟨Ua,U⟩ (fun hc=>Ge R4 G G G) G (Do (Ej a) [] G .sct U (fun hc=>G3 G G) G (Do (.dptr [I64 b.Bay,E2 b.Rows]) [37,38] G .sct ⟨Ua,Ua,U⟩ (fun hc=>Gr (f:=H3.av) (xs:=s.Covers) (y:=b) G G G J1 j G) G (Do (.dptr [E2 b.Rows]) [39] G .sct ⟨Ua,U⟩ (fun hc=>Ga Qg G G G) G (Do (E2 b.Rows) [40] G .sct ⟨Ua,U⟩ (fun hc=>Ge He G G G) G (Do (Ed s) [] G .sct U (fun hc=>Ga Hu G G G) G (Do (E4 s.Columns) [42] G .sct ⟨Ua,U⟩ (fun hc=>Ge J2 G G G) G (Do (I64 column) [] G .sct U (fun hc=>G3 G G) G (Do (Ef d) [43,44] G .sct ⟨Ua,Ua,U⟩ (fun hc=>(match Jt (Gv hc z) with | ⟨_,hm_,hy_⟩=>Gr (f:=G6.av) (xs:=s.Columns) (y:=d) G G G Hd hy_ hm_)) G (Do (.dptr ((G6.cs d).drop 1)) [45] G .sct ⟨Ua,U⟩ (fun hc=>Ga bT G G G) G (Do (I64 d.Row) [46] G .sct ⟨Ua,U⟩ (fun hc=>Ge Gb G G G) G (Do (BL k) [41,47] G .sct ⟨Ua,Ua,U⟩ (fun hc=>Gi (args:=[E2 b.Rows,I64 d.Row]) G (iH b.Rows d.Row k (Gv hc a0)) QV ⟨G,G,G,G,U⟩) G ?_)))))))))))))
   refine Dq (BL ((decide (b.Bay=c.Bay))&&k)) (J9 G G G G) G (Dnil (v (JCc G h (fun h hb=>?_) (fun h hb=>?_))))
   ·
    refine Jr fun a1=>(JLm (Ej a) G (JLm (Ej a) G (G5 (a1 (Gs (fin1 I64 h))))))
   ·
    refine Gn (u (G1 (JLm (Ej a) G (JLh (I64 ((a+1:Nat):Int)) (Hs (Hb i q) G G G) G (JLm (I64 ((a+1:Nat):Int)) G (G5 (b0 _ _ (a+1) () (app1 t h) (by omega) ⟨(.sm G G),U,rfl⟩)))))))
  ·
   have h:=app1 l (Hi g (H6 hb))
   refine H9 (a7 (Jr fun a2=>(JLm (I64 (-1)) G (G5 (a2 (Gs (fin1 I64 h)))))))

def Ro (s:Gq) (l:List G2) (id_:Int) (column:Int):Option Bool:=
 bnd (Jg l id_) fun b=>
 bnd (bif (!(decide (b < 0))) then Jo s.Columns column some else some default) fun c=>
 bnd (bif (!((decide (b < 0))||c.Deck)) then Jo l b some else some default) fun f=>
 bnd (bif (!((decide (b < 0))||c.Deck)) then Jo s.Columns f.Slot.G6 some else some default) fun g=>
 bif (((decide (b < 0))||c.Deck)||(!g.Deck)) then
 (some false)
 else
 (bnd (Rf s column) fun a=>
  bnd (bif decide (0≤a) then Jo l b some else some default) fun d=>
  bnd (bif decide (0≤a) then Rf s d.Slot.G6 else some default) fun e=>
  some ((decide (0≤a))&&(decide (e=a))))
theorem jU (s:Gq) (l:List G2) (id_:Int) (column:Int) (r:Bool) (h:Ro s l id_ column=some r):Pure Ek 202 [.agg (Gq.cs s),E1 l,I64 id_,I64 column] (·=BL r):=by
 unfold Ro at h
 refine Gy [.tmp 8] Tryz.func202 G G (Jr fun q=>(JLh (.ptr 1171 0) (Jy (cs:=(Gq.cs s)) 1171 G G G G G) G (JLm (BL false) G (G5 (q (fzQ [(1,E1 l),(2,I64 id_),(3,I64 column),(4,Ed s)] [] 1171 rfl rfl rfl U rfl (Jr fun t=>(JLm (E1 l) G (JLm (I64 id_) G ?_)))))))))
 obtain⟨c,u,h⟩:=Gd h
 refine JLh (I64 c) (Gi G (Qt l id_ c u) eJ ⟨G,G,G,G,U⟩) G (JLm (I64 c) G (G5 (t (Js fun v=>Js fun w=>?_))))
 obtain⟨g,x,h⟩:=Gd h
 obtain⟨j,z,h⟩:=Gd h
 obtain⟨i,a0,h⟩:=Gd h
 refine JC_d0 Jd (by kernel_rfl) (Dq (I64 c) (G3 G G) G (Dq (BL (decide (c < 0))) (Hr G G G) G (Dq (BL (decide (c < 0))) (G3 G G) G (Do (Ed s) [] G .scf U (fun hc=>Ga Hu G G G) G (Do (E4 s.Columns) [17] G .scf ⟨Ua,U⟩ (fun hc=>Ge J2 G G G) G (Do (I64 column) [] G .scf U (fun hc=>G3 G G) G (Do (Ef g) [18,19] G .scf ⟨Ua,Ua,U⟩ (fun hc=>(match Jt (Gv hc x) with | ⟨_,hm_,hy_⟩=>Gr (f:=G6.av) (xs:=s.Columns) (y:=g) G G G Hd hy_ hm_)) G (Do (.dptr ((G6.cs g).drop 2)) [20] G .scf ⟨Ua,U⟩ (fun hc=>Ga bS G G G) G (Do (BL g.Deck) [21] G .scf ⟨Ua,U⟩ (fun hc=>Ge Ye G G G) G (Dq (BL ((decide (c < 0))||g.Deck)) (Rm G G G G) G (Dq (BL ((decide (c < 0))||g.Deck)) (G3 G G) G (Do (Ed s) [] G .scf U (fun hc=>Ga Hu G G G) G (Do (E4 s.Columns) [25] G .scf ⟨Ua,U⟩ (fun hc=>Ge J2 G G G) G ?_)))))))))))))
 refine Do (E1 l) [] G .scf U (fun hc=>G3 G G) G (Do (I64 c) [] G .scf U (fun hc=>G3 G G) G (Do (Ee j) [27,28] G .scf ⟨Ua,Ua,U⟩ (fun hc=>(match Jt (Gv hc z) with | ⟨_,hm_,hy_⟩=>Gr (f:=G2.av) (xs:=l) (y:=j) G G G H5 hy_ hm_)) G (Do (.dptr ((G2.cs j).drop 1)) [29] G .scf ⟨Ua,U⟩ (fun hc=>Ga Jj G G G) G (Do (.dptr ((G2.cs j).drop 1)) [30] G .scf ⟨Ua,U⟩ (fun hc=>Ga Jk G G G) G (Do (I64 j.Slot.G6) [31] G .scf ⟨Ua,U⟩ (fun hc=>Ge Gb G G G) G (Do (Ef i) [26,32] G .scf ⟨Ua,Ua,U⟩ (fun hc=>(match Jt (Gv hc a0) with | ⟨_,hm_,hy_⟩=>Gr (f:=G6.av) (xs:=s.Columns) (y:=i) G G G Hd hy_ hm_)) G (Do (.dptr ((G6.cs i).drop 2)) [33] G .scf ⟨Ua,U⟩ (fun hc=>Ga bS G G G) G (Do (BL i.Deck) [34] G .scf ⟨Ua,U⟩ (fun hc=>Ge Ye G G G) G (Do (BL (!i.Deck)) [35] G .scf ⟨Ua,U⟩ (fun hc=>Qj (b:=i.Deck) G G) G (Dq (BL (((decide (c < 0))||g.Deck)||(!i.Deck))) (Rm G G G G) G (Dnil ?_)))))))))))
 refine w (JCc G h (fun h hb=>?_) (fun h hb=>?_))
 ·
  refine Jr fun a1=>(JLm (BL false) G (G5 (a1 (Gs (fin1 BL h)))))
 ·
  refine Gn (v (Jr fun k=>(JLh (.agg (Gq.cs s)) (Gj J4 G G G) G (JLm (I64 column) G ?_))))
  obtain⟨a,m,h⟩:=Gd h
  refine JLh (I64 a) (Gi G (gU s column a m) QI ⟨G,G,G,G,U⟩) G (JLm (I64 a) G (G5 (k (Js fun n=>?_))))
  obtain⟨d,o,h⟩:=Gd h
  obtain⟨e,p,h⟩:=Gd h
  refine JC_d0 Jd (by kernel_rfl) (Dq (I64 a) (G3 G G) G (Dq (BL (decide (0≤a))) (cH G G G) G (Dq (BL (decide (0≤a))) (G3 G G) G (Do (.agg (Gq.cs s)) [] G .sct U (fun hc=>Gj J4 G G G) G (Do (E1 l) [] G .sct U (fun hc=>G3 G G) G (Do (I64 c) [] G .sct U (fun hc=>G3 G G) G (Do (Ee d) [45,46] G .sct ⟨Ua,Ua,U⟩ (fun hc=>(match Jt (Gv hc o) with | ⟨_,hm_,hy_⟩=>Gr (f:=G2.av) (xs:=l) (y:=d) G G G H5 hy_ hm_)) G (Do (.dptr ((G2.cs d).drop 1)) [47] G .sct ⟨Ua,U⟩ (fun hc=>Ga Jj G G G) G (Do (.dptr ((G2.cs d).drop 1)) [48] G .sct ⟨Ua,U⟩ (fun hc=>Ga Jk G G G) G (Do (I64 d.Slot.G6) [49] G .sct ⟨Ua,U⟩ (fun hc=>Ge Gb G G G) G (Do (I64 e) [44,50] G .sct ⟨Ua,Ua,U⟩ (fun hc=>Gi (args:=[.agg (Gq.cs s),I64 d.Slot.G6]) G (gU s d.Slot.G6 e (Gv hc p)) QI ⟨G,G,G,G,U⟩) G (Do (I64 a) [] G .sct U (fun hc=>G3 G G) G (Do (BL (decide (e=a))) [51,52] G .sct ⟨Ua,Ua,U⟩ (fun hc=>Qc G G G) G ?_)))))))))))))
  refine Dq (BL ((decide (0≤a))&&(decide (e=a)))) (J9 G G G G) G (Dq (BL ((decide (0≤a))&&(decide (e=a)))) (G7 G G) G (Dnil (n (Gs (fin1 BL h)))))

def R1 (s:Gq) (l:List G2) (other:List G2) (id_:Int) (cause:Int):Option Bool:=
 bnd (Jg l cause) fun c=>
 bif decide (c < 0) then
 (some false)
 else
 (bnd (Jg l id_) fun a=>
  bnd (bif decide (0≤a) then Jo l a some else some default) fun d=>
  bnd (bif decide (0≤a) then Jo l c some else some default) fun e=>
  bnd (bif decide (0≤a) then bJ d.Slot e.Slot else some default) fun f=>
  bif ((decide (0≤a))&&f) then
  (some true)
  else
  (Jo l c fun g=>
   bnd (Ro s l id_ g.Slot.G6) fun b=>
   bnd (bif (!b) then Jo l c some else some default) fun h=>
   bnd (bif (!b) then Ro s other id_ h.Slot.G6 else some default) fun i=>
   some (b||i)))
theorem gS (s:Gq) (l:List G2) (other:List G2) (id_:Int) (cause:Int) (r:Bool) (h:R1 s l other id_ cause=some r):Pure Ek 126 [.agg (Gq.cs s),E1 l,E1 other,I64 id_,I64 cause] (·=BL r):=by
 unfold R1 at h
 refine Gy [.tmp 10] Tryz.func126 G G (Jr fun a0=>(JLh (.ptr 1141 0) (Jy (cs:=(Gq.cs s)) 1141 G G G G G) G (JLm (BL false) G (G5 (a0 (fzQ [(1,E1 l),(2,E1 other),(3,I64 id_),(4,I64 cause),(5,Ed s)] [] 1141 rfl rfl rfl U rfl (Jr fun a1=>(JLm (E1 l) G (JLm (I64 cause) G ?_)))))))))
 obtain⟨e,a2,h⟩:=Gd h
 refine JLh (I64 e) (Gi G (Qt l cause e a2) eJ ⟨G,G,G,G,U⟩) G (JLm (I64 e) G (G5 (a1 (Js fun a3=>Jr fun a4=>(JLm (I64 e) G (JLh (BL (decide (e < 0))) (Hr G G G) G (G5 (a4 (JCc G h (fun h hb=>?_) (fun h hb=>?_))))))))))
 ·
  refine Jr fun a5=>(JLm (BL false) G (G5 (a5 (Gs (fin1 BL h)))))
 ·
  refine Gn (a3 (Jr fun a6=>(JLm (E1 l) G (JLm (I64 id_) G ?_))))
  obtain⟨g,a7,h⟩:=Gd h
  refine JLh (I64 g) (Gi G (Qt l id_ g a7) eJ ⟨G,G,G,G,U⟩) G (JLm (I64 g) G (G5 (a6 (Js fun a8=>Js fun m=>?_))))
  obtain⟨c,n,h⟩:=Gd h
  obtain⟨d,o,h⟩:=Gd h
  obtain⟨k,p,h⟩:=Gd h
  refine JC_d0 Jd (by kernel_rfl) (Dq (I64 g) (G3 G G) G (Dq (BL (decide (0≤g))) (cH G G G) G (Dq (BL (decide (0≤g))) (G3 G G) G (Do (E1 l) [] G .sct U (fun hc=>G3 G G) G (Do (I64 g) [] G .sct U (fun hc=>G3 G G) G (Do (Ee c) [24,25] G .sct ⟨Ua,Ua,U⟩ (fun hc=>(match Jt (Gv hc n) with | ⟨_,hm_,hy_⟩=>Gr (f:=G2.av) (xs:=l) (y:=c) G G G H5 hy_ hm_)) G (Do (.dptr ((G2.cs c).drop 1)) [26] G .sct ⟨Ua,U⟩ (fun hc=>Ga Jj G G G) G (Do (.agg ((G2.cs c).drop 1)) [27] G .sct ⟨Ua,U⟩ (fun hc=>Gj Q9 G G G) G (Do (E1 l) [] G .sct U (fun hc=>G3 G G) G (Do (I64 e) [] G .sct U (fun hc=>G3 G G) G (Do (Ee d) [29,30] G .sct ⟨Ua,Ua,U⟩ (fun hc=>(match Jt (Gv hc o) with | ⟨_,hm_,hy_⟩=>Gr (f:=G2.av) (xs:=l) (y:=d) G G G H5 hy_ hm_)) G (Do (.dptr ((G2.cs d).drop 1)) [31] G .sct ⟨Ua,U⟩ (fun hc=>Ga Jj G G G) G (Do (.agg ((G2.cs d).drop 1)) [32] G .sct ⟨Ua,U⟩ (fun hc=>Gj Q9 G G G) G ?_)))))))))))))
  refine Do (BL k) [28,33] G .sct ⟨Ua,Ua,U⟩ (fun hc=>Gi (args:=[.agg ((G2.cs c).drop 1),.agg ((G2.cs d).drop 1)]) G (sX c.Slot d.Slot k (Gv hc p)) Gdc ⟨G,G,G,G,U⟩) G (Dq (BL ((decide (0≤g))&&k)) (J9 G G G G) G (Dnil (m (JCc G h (fun h hb=>?_) (fun h hb=>?_)))))
  ·
   refine Jr fun q=>(JLm (BL true) G (G5 (q (Gs (fin1 BL h)))))
  ·
   refine Gn (a8 (Js fun t=>?_))
   obtain⟨a9,a,u,v,h⟩:=R0 h
   obtain⟨i,w,h⟩:=Gd h
   obtain⟨b,x,h⟩:=Gd h
   obtain⟨j,z,h⟩:=Gd h
   refine JC_d0 Jd (by kernel_rfl) (Dq (.agg (Gq.cs s)) (Gj J4 G G G) G (Dq (E1 l) (G3 G G) G (Dq (I64 id_) (G3 G G) G (Dq (E1 l) (G3 G G) G (Dq (I64 e) (G3 G G) G (Dq (Ee a) (Gr (f:=G2.av) (xs:=l) (y:=a) G G G H5 v u) G (Dq (.dptr ((G2.cs a).drop 1)) (Ga Jj G G G) G (Dq (.dptr ((G2.cs a).drop 1)) (Ga Jk G G G) G (Dq (I64 a.Slot.G6) (Ge Gb G G G) G (Dq (BL i) (Gi (args:=[.agg (Gq.cs s),E1 l,I64 id_,I64 a.Slot.G6]) G (jU s l id_ a.Slot.G6 i w) QJ ⟨G,G,G,G,G,G,G,G,U⟩) G (Dq (BL i) (G3 G G) G (Do (.agg (Gq.cs s)) [] G .scf U (fun hc=>Gj J4 G G G) G (Do (E1 other) [] G .scf U (fun hc=>G3 G G) G ?_)))))))))))))
   refine Do (I64 id_) [] G .scf U (fun hc=>G3 G G) G (Do (E1 l) [] G .scf U (fun hc=>G3 G G) G (Do (I64 e) [] G .scf U (fun hc=>G3 G G) G (Do (Ee b) [50,51] G .scf ⟨Ua,Ua,U⟩ (fun hc=>(match Jt (Gv hc x) with | ⟨_,hm_,hy_⟩=>Gr (f:=G2.av) (xs:=l) (y:=b) G G G H5 hy_ hm_)) G (Do (.dptr ((G2.cs b).drop 1)) [52] G .scf ⟨Ua,U⟩ (fun hc=>Ga Jj G G G) G (Do (.dptr ((G2.cs b).drop 1)) [53] G .scf ⟨Ua,U⟩ (fun hc=>Ga Jk G G G) G (Do (I64 b.Slot.G6) [54] G .scf ⟨Ua,U⟩ (fun hc=>Ge Gb G G G) G (Do (BL j) [47,48,49,55] G .scf ⟨Ua,Ua,Ua,Ua,U⟩ (fun hc=>Gi (args:=[.agg (Gq.cs s),E1 other,I64 id_,I64 b.Slot.G6]) G (jU s other id_ b.Slot.G6 j (Gv hc z)) QJ ⟨G,G,G,G,G,G,G,G,U⟩) G (Dq (BL (i||j)) (Rm G G G G) G (Dq (BL (i||j)) (G7 G G) G (Dnil ?_))))))))))
   refine t (Gs (fin1 BL h))

def bA (l:List Gt) (id_:Int):Option Bool:=
 each (fun a d (c:Unit) b=>
  bif ((decide (a.id=id_))&&a.in_) then
  (some true)
  else
  (b ()))
 (fun(c:Unit)=>
  some false) l 0 ()
theorem vH (l:List Gt) (id_:Int) (r:Bool) (h:bA l id_=some r):Pure Ek 127 [Ec l,I64 id_] (·=BL r):=by
 unfold bA at h
 refine Gy [.tmp 4] Tryz.func127 G G (Jr fun u=>(JLm (BL false) G (G5 (u (Js fun v=>Jr fun w=>(JLm (I64 0) G (G5 (w (Gf ?_)))))))))
 obtain⟨x,j,k,i,h⟩:=Hy h
 refine H8 (fun a (c:Unit)=>each x j (List.drop a l) a c=some r) (fun a c=>[(0,Ec l),(1,I64 id_),(5,Ej a)]) (fun a c=>[]) (fun a=>l.length - a) 0 () h ⟨(.sm G G),U,G⟩ ?_
 clear h
 intro a c d a2 z
 refine Js fun m=>Jr fun n=>(JLm (Ej a) G (JLm (Ec l) G (JLl Qx G G G fun a0=>(JLh (BL (decide ((a:Int) < (l.length:Int)))) (Hr G G G) G (G5 (n (Gg G (fun hb=>?_) (fun hb=>?_))))))))
 ·
  have e:=Je hb
  obtain⟨b,a1,g,o,h⟩:=Hh d e
  replace h:=Rx k h
  refine Gn (m (Js fun p=>Gf ?_))
  refine Jr fun q=>(JLm (Ec l) G (JLm (Ej a) G (JLh (.dptr [I64 b.id,BL b.in_]) (Gr (f:=Gt.av) (xs:=l) (y:=b) G G G Qx g G) G (JLh (.dptr [I64 b.id,BL b.in_]) (Ga aL G G G) G (JLh (I64 b.id) (Ge Gb G G G) G (JLm (I64 id_) G (JLh (BL (decide (b.id=id_))) (Qc G G G) G (JLm (BL (decide (b.id=id_))) G (JLo (Ec l) [] G .sct U (fun hc=>G3 G G) G (JLo (Ej a) [] G .sct U (fun hc=>G3 G G) G (JLo (.dptr [I64 b.id,BL b.in_]) [20,21] G .sct ⟨Ua,Ua,U⟩ (fun hc=>Gr (f:=Gt.av) (xs:=l) (y:=b) G G G Qx g G) G (JLo (.dptr [BL b.in_]) [22] G .sct ⟨Ua,U⟩ (fun hc=>Ga kO G G G) G (JLo (BL b.in_) [23] G .sct ⟨Ua,U⟩ (fun hc=>Ge Ye G G G) G ?_)))))))))))))
  refine JLh (BL ((decide (b.id=id_))&&b.in_)) (J9 G G G G) G (G5 (q (JCc G h (fun h hb=>?_) (fun h hb=>?_))))
  ·
   refine Jr fun s=>(JLm (BL true) G (G5 (s (Gs (fin1 BL h)))))
  ·
   refine Gn (p (G1 (JLm (Ej a) G (JLh (I64 ((a+1:Nat):Int)) (Hs (Hb e a0) G G G) G (JLm (I64 ((a+1:Nat):Int)) G (G5 (z _ _ (a+1) () (app1 o h) (by omega) ⟨(.sm G G),U,rfl⟩)))))))
 ·
  have h:=app1 i (Hi d (H6 hb))
  refine H9 (v (Jr fun t=>(JLm (BL false) G (G5 (t (Gs (fin1 BL h)))))))
end
end Go.Proofs.YthkihfoleenlmaaGreat
