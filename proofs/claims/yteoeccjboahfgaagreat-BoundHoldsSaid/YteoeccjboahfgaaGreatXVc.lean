/-
 Models of functions of the program,and that they return what the models say.
-/
import Derived.Test.YteoeccjboahfgaaGreatXVb
set_option maxRecDepth 100000
set_option linter.unusedVariables false
set_option linter.unusedSimpArgs false
namespace Go.Proofs.YteoeccjboahfgaaGreat
open Go.RowKit
noncomputable section
open XAF
open XVF

def Ye (s1_:List G7) (s2_:List Int) (eq:G7→Int→Option Bool):Option Bool:=
 bif decide ((s1_.length:Int)≠(s2_.length:Int)) then
 (some false)
 else
 (each (fun y29 i29 (s29:Unit) nx29=>
   Rm s2_ (i29:Int) fun y35=>
   bnd (eq y29 y35) fun r38=>
   bif (!r38) then
   (some false)
   else
   (nx29 ()))
  (fun(s29:Unit)=>
   some true) s1_ 0 ())
theorem H18 (s1_:List G7) (s2_:List Int) (eq:G7→Int→Option Bool) (eq_f:FuncId) (eq_c:List AV) (eq_B:Ho Tryz.prog eq_f=true) (eq_d:Rs (fun _=>false) eq_c=true) (eq_w:∀ a0 a1 q,eq a0 a1=some q→Pure Tryz.prog eq_f ([.agg (G7.cs a0),G1 a1]++eq_c) (·=BL q)) (r:Bool) (h:Ye s1_ s2_ eq=some r):Pure Tryz.prog 64 [E0 s1_,E1 s2_,.fn eq_f eq_c] (·=BL r):=by
 unfold Ye at h
 refine H4 [.tmp 6] Tryz.func64 O O (G5 fun K1 hK1=>G3 (JLh (BL false) (Gb O O) O (G8 (hK1 _ _ (G5 (fun K2 hK2=>G5 fun K3 hK3=>G3 (JLh (E0 s1_) (G6 O O) O (Hp (f:=G7.av) (xs:=s1_) Hw O O (fun hm11=>?_) O O O))))))))
 refine JLh (E1 s2_) (G6 O O) O (Hp (f:=G1) (xs:=s2_) Gt O O (fun hm13=>?_) O O O)
 refine JLh (BL (decide ((s1_.length:Int)≠(s2_.length:Int)))) (H78 O O O) O (G8 (hK3 _ _ (Gn O (fun hb=>?_) (fun hb=>?_))))
 ·
  replace h:=H1 hb h
  refine G5 fun K4 hK4=>G3 (JLh (BL false) (Gb O O) O (G8 (hK4 _ _ (Gx (⟨[BL false],[],G,O,⟨⟨_,O,.conv (.same O)⟩,G⟩,O,congrArg (fun r:Bool=>(BL r:AV)) (Option.some.inj h)⟩)))))
 ·
  replace h:=Hv hb h
  refine Gp (hK2 _ _ (G5 (fun K5 hK5=>G5 fun K6 hK6=>G3 (JLh (E0 s1_) (G6 O O) O (Hp (f:=G7.av) (xs:=s1_) Hw O O (fun hm16=>?_) O O O)))))
  refine JLh (G1 0) (G6 O O) O (G8 (hK6 _ _ (Gi ?_)))
  obtain⟨b29,kx29,hb29,hkx29,h⟩:=Hy h
  refine Ha (fun i29 (s29:Unit)=>each b29 kx29 (List.drop i29 s1_) i29 s29=some r) (fun i29 s29=>[(1,E1 s2_),(2,.fn eq_f eq_c),(15,E0 s1_),(16,Ek s1_.length),(17,Ek i29)]) (fun i29 s29=>[]) (fun i29=>s1_.length - i29) 0 () h ⟨⟨.same O,.same (Hx _ _ eq_d),.same O,.same O,.same O,G⟩,G,O⟩ ?_
  clear h
  intro i29 s29 hi29 K29 e29
  refine G5 fun K30 hK30=>G3 (JLh (BL (decide ((i29:Int) < (s1_.length:Int)))) (J2 O O O) O (G8 (hK30 _ _ (G5 (fun K31 hK31=>Gn O (fun hb=>?_) (fun hb=>?_))))))
  ·
   have hk29:=Jd hb
   obtain⟨y29,nx29,hy29,hn29,h⟩:=Hr hi29 hk29
   replace h:=Rq hb29 h
   refine Gp (hK31 _ _ (G5 (fun K32 hK32=>Gi (G5 fun K33 hK33=>G3 (JLh (Ek i29) (G6 O O) O (JLh (Ef y29) (Gz (f:=G7.av) (xs:=s1_) (y:=y29) O O O Hw hy29 O) O (JLh (.agg (G7.cs y29)) (Gh R6 O O O) O (JLh (.ptr 1156 0) (Hh 1156 4 Qp O O) O (JLh (Ek i29) (Gb O O) O (Hg (u:=.junk) (H5 (u:=.agg (G7.cs y29)) (ds:=[G1 y29.Gr,G1 y29.Slot.G9,G1 y29.Slot.Tier,U8 y29.Slot.Half]) Yj O O O O O O O O) (G8 (hK33 _ _ ?_))))))))))))
   refine Gq [(1,E1 s2_),(2,.fn eq_f eq_c),(7,Ek i29),(8,Ef y29),(15,E0 s1_),(16,Ek s1_.length),(17,Ek i29)] [] 1156 rfl rfl rfl G rfl (by exact⟨.conv (.same rfl),.conv (.same (Hx _ _ eq_d)),.conv (.same rfl),.ptr,.conv (.same rfl),.conv (.same rfl),.conv (.same rfl),G⟩) (G5 fun K34 hK34=>G3 (JLh (E1 s2_) (G6 O O) O (JLh (Ek i29) (G6 O O) O ?_)))
   obtain⟨m36,y35,hm36,hy35,h⟩:=Qk h
   refine JLh (.dptr [G1 y35]) (Gz (f:=G1) (xs:=s2_) (y:=y35) O O O Gt hy35 hm36) O (JLh (G1 y35) (Gk Gc O O O) O (JLh (G1 y35) (Gb O O) O (G8 (hK34 _ _ (G5 fun K37 hK37=>G3 (JLh (.fn eq_f eq_c) (G6 O O) O (JLh (.agg (G7.cs y29)) (Gh R6 O O O) O (JLh (G1 y35) (G6 O O) O ?_))))))))
   obtain⟨r38,hr38,h⟩:=Gf h
   refine JLh (BL r38) (Yy (args:=[.agg (G7.cs y29),G1 y35]) (caps:=eq_c) O O (eq_w y29 y35 _ hr38) eq_B ⟨O,O,O,O,G⟩ eq_d) O (JLh (BL (!r38)) (Zy (b:=r38) O O) O (G8 (hK37 _ _ (Gn O (fun hb=>?_) (fun hb=>?_)))))
   ·
    replace h:=H1 hb h
    refine G5 fun K39 hK39=>G3 (JLh (BL false) (Gb O O) O (G8 (hK39 _ _ (Gx (⟨[BL false],[],G,O,⟨⟨_,O,.conv (.same O)⟩,G⟩,O,congrArg (fun r:Bool=>(BL r:AV)) (Option.some.inj h)⟩)))))
   ·
    replace h:=Hv hb h
    refine Gp (hK32 _ _ (G3 (JLh (G1 ((i29+1:Nat):Int)) (Ht (Hn hk29 hm16) O O O) O (JLh (G1 ((i29+1:Nat):Int)) (G6 O O) O (G8 (e29 _ _ (i29+1) () (app1 hn29 h) (by omega) ⟨⟨.same rfl,.same (Hx _ _ eq_d),.same rfl,.same rfl,.same rfl,G⟩,G,rfl⟩))))))
  ·
   have h:=app1 hkx29 (Hs hi29 (H9 hb))
   refine Hi (hK5 _ _ (G5 fun K40 hK40=>G3 (JLh (BL true) (Gb O O) O (G8 (hK40 _ _ (Gx (⟨[BL true],[],G,O,⟨⟨_,O,.conv (.same O)⟩,G⟩,O,congrArg (fun r:Bool=>(BL r:AV)) (Option.some.inj h)⟩)))))))

def Zr (x:G7) (id_:Int):Option Bool:=
 some (decide (x.Gr=id_))
theorem J0a (x:G7) (id_:Int) (r:Bool) (h:Zr x id_=some r):Pure Tryz.prog 66 [.agg (G7.cs x),G1 id_] (·=BL r):=by
 unfold Zr at h
 refine H4 [.tmp 4] Tryz.func66 O O (G5 fun K1 hK1=>G3 (JLh (.ptr 1159 0) (Jw (u:=.agg (G7.cs x)) (cs:=[G1 x.Gr,G1 x.Slot.G9,G1 x.Slot.Tier,U8 x.Slot.Half]) 1159 O O O O O) O (JLh (BL false) (Gb O O) O (G8 (hK1 _ _ (Gq [(1,G1 id_),(2,Ef x)] [] 1159 rfl rfl rfl G rfl (by exact⟨.conv (.same rfl),.ptr,G⟩) (G5 fun K2 hK2=>G3 (JLh (Ef x) (Gd Jb O O O) O (JLh (G1 x.Gr) (Gk Gc O O O) O (JLh (G1 id_) (G6 O O) O (JLh (BL (decide (x.Gr=id_))) (Qh O O O) O (JLh (BL (decide (x.Gr=id_))) (Gb O O) O (G8 (hK2 _ _ (Gx (⟨[BL (decide (x.Gr=id_))],[],G,O,⟨⟨_,O,.conv (.same O)⟩,G⟩,O,congrArg (fun r:Bool=>(BL r:AV)) (Option.some.inj h)⟩))))))))))))))))

def G8c (s:Hc) (boxes:List Gr) (calls:Int) (p:G6a):Option (Int×Int):=
 bnd (Ya s) fun r4=>
 bif (!r4) then
 (some (0,2))
 else
 (bnd (G45 boxes calls) fun r7=>
  bif (!r7) then
  (some (0,230))
  else
  (bif decide ((p.States.length:Int)≠calls) then
   (some (0,231))
   else
   (each (fun y45 i45 (s45:Unit) nx45=>
     bnd (G07 s boxes y45) fun r52=>
     bif (!r52) then
     (some ((i45:Int),232))
     else
     (bnd (G5a boxes (i45:Int)) fun r55=>
      bnd (Ye y45 r55 (fun z0 z1=>Zr z0 z1)) fun r56=>
      bif (!r56) then
      (some ((i45:Int),233))
      else
      (nx45 ())))
    (fun(s45:Unit)=>
     some (0,0)) p.States 0 ())))
theorem J9d (s:Hc) (boxes:List Gr) (calls:Int) (p:G6a) (r:Int×Int) (h:G8c s boxes calls p=some r):Pure Tryz.prog 35 [.agg (Hc.cs s),E2 boxes,G1 calls,.agg [LS 1 (E0) p.States,LS 1 (E1) p.Water]] (·=.tup [G1 r.1,G1 r.2]):=by
 unfold G8c at h
 refine H4 [.tmp 8,.tmp 9] Tryz.func35 O O ?_
 refine G5 fun K1 hK1=>G3 (JLh (.ptr 1104 0) (Jw (u:=.agg (Hc.cs s)) (cs:=(Hc.cs s)) 1104 O O O O O) O (JLh (.ptr 1105 0) (Jw (u:=.agg [LS 1 (E0) p.States,LS 1 (E1) p.Water]) (cs:=[LS 1 (E0) p.States,LS 1 (E1) p.Water]) 1105 O O O O O) O (JLh (G1 0) (Gb O O) O (JLh (G1 0) (Gb O O) O (G8 (hK1 _ _ ?_))))))
 refine Gq [(1,E2 boxes),(2,G1 calls),(4,Ee s),(7,.ptr 1105 0)] [(1105,.box 42 [LS 1 (E0) p.States,LS 1 (E1) p.Water])] 1104 rfl rfl rfl ⟨⟨_,rfl,.boxEq rfl rfl⟩,G⟩ rfl (by repeat' (first | exact .ptr | constructor)) ?_
 refine Gq [(1,E2 boxes),(2,G1 calls),(4,Ee s),(7,.dptr [LS 1 (E0) p.States,LS 1 (E1) p.Water])] [] 1105 rfl rfl rfl G rfl (by repeat' (first | exact .ptr | constructor)) (G5 (fun K2 hK2=>Gi (G5 fun K3 hK3=>G3 (JLh (.agg (Hc.cs s)) (Gh J5 O O O) O ?_))))
 obtain⟨r4,hr4,h⟩:=Gf h
 refine JLh (BL r4) (Gy (args:=[.agg (Hc.cs s)]) O (G84.down s r4 hr4) H34 ⟨O,O,G⟩) O (JLh (BL (!r4)) (Zy (b:=r4) O O) O (JLh (BL (!r4)) (Gb O O) O (G8 (hK3 _ _ (Gn O (fun hb=>?_) (fun hb=>?_))))))
 ·
  replace h:=H1 hb h
  refine G5 fun K5 hK5=>G3 (JLh (G1 0) (Gb O O) O (JLh (G1 2) (Gb O O) O (G8 (hK5 _ _ (Gx (⟨[G1 0,G1 2],[],G,O,⟨⟨_,O,.conv (.same O)⟩,⟨_,O,.conv (.same O)⟩,G⟩,O,congrArg (fun r:Int×Int=>(.tup [G1 r.1,G1 r.2]:AV)) (Option.some.inj h)⟩))))))
 ·
  replace h:=Hv hb h
  refine G5 fun K6 hK6=>G3 (JLh (E2 boxes) (G6 O O) O (JLh (G1 calls) (G6 O O) O ?_))
  obtain⟨r7,hr7,h⟩:=Gf h
  refine JLh (BL r7) (Gy (args:=[E2 boxes,G1 calls]) O (H70 boxes calls r7 hr7) J69 ⟨O,O,O,O,G⟩) O (JLh (BL (!r7)) (Zy (b:=r7) O O) O (JLh (BL (!r7)) (Gb O O) O (G8 (hK6 _ _ (Gn O (fun hb=>?_) (fun hb=>?_))))))
  ·
   replace h:=H1 hb h
   refine G5 fun K8 hK8=>G3 (JLh (G1 0) (Gb O O) O (JLh (G1 230) (Gb O O) O (G8 (hK8 _ _ (Gx (⟨[G1 0,G1 230],[],G,O,⟨⟨_,O,.conv (.same O)⟩,⟨_,O,.conv (.same O)⟩,G⟩,O,congrArg (fun r:Int×Int=>(.tup [G1 r.1,G1 r.2]:AV)) (Option.some.inj h)⟩))))))
  ·
   replace h:=Hv hb h
   refine G5 fun K9 hK9=>G3 (JLh (.dptr [LS 1 (E0) p.States,LS 1 (E1) p.Water]) (Gd G50 O O O) O (JLh (LS 1 (E0) p.States) (Gk G05 O O O) O (Hp (f:=(E0)) (xs:=p.States) Qa O O (fun hm24=>?_) O O O)))
   refine JLh (G1 calls) (G6 O O) O (JLh (BL (decide ((p.States.length:Int)≠calls))) (H78 O O O) O (JLh (BL (decide ((p.States.length:Int)≠calls))) (Gb O O) O (G8 (hK9 _ _ (Gn O (fun hb=>?_) (fun hb=>?_))))))
   ·
    replace h:=H1 hb h
    refine G5 fun K10 hK10=>G3 (JLh (G1 0) (Gb O O) O (JLh (G1 231) (Gb O O) O (G8 (hK10 _ _ (Gx (⟨[G1 0,G1 231],[],G,O,⟨⟨_,O,.conv (.same O)⟩,⟨_,O,.conv (.same O)⟩,G⟩,O,congrArg (fun r:Int×Int=>(.tup [G1 r.1,G1 r.2]:AV)) (Option.some.inj h)⟩))))))
   ·
    replace h:=Hv hb h
    refine Gp (hK2 _ _ (G5 (fun K11 hK11=>G5 fun K12 hK12=>G3 (JLh (.dptr [LS 1 (E0) p.States,LS 1 (E1) p.Water]) (Gd G50 O O O) O (JLh (LS 1 (E0) p.States) (Gk G05 O O O) O (Hp (f:=(E0)) (xs:=p.States) Qa O O (fun hm29=>?_) O O O))))))
    refine JLh (G1 0) (G6 O O) O (G8 (hK12 _ _ (Gi ?_)))
    obtain⟨b45,kx45,hb45,hkx45,h⟩:=Hy h
    refine Ha (fun i45 (s45:Unit)=>each b45 kx45 (List.drop i45 p.States) i45 s45=some r) (fun i45 s45=>[(1,E2 boxes),(4,Ee s),(28,LS 1 (E0) p.States),(29,Ek p.States.length),(30,Ek i45)]) (fun i45 s45=>[]) (fun i45=>p.States.length - i45) 0 () h ⟨(by repeat' constructor),G,rfl⟩ ?_
    clear h
    intro i45 s45 hi45 K45 e45
    refine G5 fun K46 hK46=>G3 (JLh (BL (decide ((i45:Int) < (p.States.length:Int)))) (J2 O O O) O (G8 (hK46 _ _ (G5 (fun K47 hK47=>Gn O (fun hb=>?_) (fun hb=>?_))))))
    ·
     have hk45:=Jd hb
     obtain⟨y45,nx45,hy45,hn45,h⟩:=Hr hi45 hk45
     replace h:=Rq hb45 h
     refine Gp (hK47 _ _ (G5 (fun K48 hK48=>Gi (G5 fun K49 hK49=>G3 (JLh (Ek i45) (G6 O O) O (JLh (.dptr [E0 y45]) (Gz (f:=(E0)) (xs:=p.States) (y:=y45) O O O Qa hy45 O) O (JLh (E0 y45) (Gk Y3 O O O) O (JLh (Ek i45) (Gb O O) O (JLh (E0 y45) (Gb O O) O (G8 (hK49 _ _ (G5 (fun K50 hK50=>?_)))))))))))))
     refine G5 fun K51 hK51=>G3 (JLh (.agg (Hc.cs s)) (Gh J5 O O O) O (JLh (E2 boxes) (G6 O O) O (JLh (E0 y45) (G6 O O) O ?_)))
     obtain⟨r52,hr52,h⟩:=Gf h
     refine JLh (BL r52) (Gy (args:=[.agg (Hc.cs s),E2 boxes,E0 y45]) O (Ge8 s boxes y45 r52 hr52) Hab ⟨O,O,O,O,O,O,G⟩) O (JLh (BL (!r52)) (Zy (b:=r52) O O) O (G8 (hK51 _ _ (Gn O (fun hb=>?_) (fun hb=>?_)))))
     ·
      replace h:=H1 hb h
      refine G5 fun K53 hK53=>G3 (JLh (Ek i45) (G6 O O) O (JLh (Ek i45) (Gb O O) O (JLh (G1 232) (Gb O O) O (G8 (hK53 _ _ (Gx (⟨[Ek i45,G1 232],[],G,O,⟨⟨_,O,.conv (.same O)⟩,⟨_,O,.conv (.same O)⟩,G⟩,O,congrArg (fun r:Int×Int=>(.tup [G1 r.1,G1 r.2]:AV)) (Option.some.inj h)⟩)))))))
     ·
      replace h:=Hv hb h
      refine Gp (hK50 _ _ (G5 fun K54 hK54=>G3 (JLh (E0 y45) (G6 O O) O (JLh (E2 boxes) (G6 O O) O (JLh (Ek i45) (G6 O O) O ?_)))))
      obtain⟨r55,hr55,h⟩:=Gf h
      refine JLh (E1 r55) (Gy (args:=[E2 boxes,Ek i45]) O (J3b boxes (i45:Int) r55 hr55) Jf7 ⟨O,O,O,O,G⟩) O ?_
      obtain⟨r56,hr56,h⟩:=Gf h
      refine JLh (BL r56) (Gy (args:=[E0 y45,E1 r55,.fn 66 []]) O (H18 y45 r55 (fun z0 z1=>Zr z0 z1) 66 [] Jf6 O (fun z0 z1 q hq=>J0a z0 z1 q hq) r56 hr56) Jf8 ⟨O,O,O,O,O,O,G⟩) O (JLh (BL (!r56)) (Zy (b:=r56) O O) O (G8 (hK54 _ _ (Gn O (fun hb=>?_) (fun hb=>?_)))))
      ·
       replace h:=H1 hb h
       refine G5 fun K57 hK57=>G3 (JLh (Ek i45) (G6 O O) O (JLh (Ek i45) (Gb O O) O (JLh (G1 233) (Gb O O) O (G8 (hK57 _ _ (Gx (⟨[Ek i45,G1 233],[],G,O,⟨⟨_,O,.conv (.same O)⟩,⟨_,O,.conv (.same O)⟩,G⟩,O,congrArg (fun r:Int×Int=>(.tup [G1 r.1,G1 r.2]:AV)) (Option.some.inj h)⟩)))))))
      ·
       replace h:=Hv hb h
       refine Gp (hK48 _ _ (G3 (JLh (G1 ((i45+1:Nat):Int)) (Ht (Hn hk45 hm29) O O O) O (JLh (G1 ((i45+1:Nat):Int)) (G6 O O) O (G8 (e45 _ _ (i45+1) () (app1 hn45 h) (by omega) ⟨(by repeat' constructor),G,rfl⟩))))))
    ·
     have h:=app1 hkx45 (Hs hi45 (H9 hb))
     refine Hi (hK11 _ _ (G5 fun K58 hK58=>G3 (JLh (G1 0) (Gb O O) O (JLh (G1 0) (Gb O O) O (G8 (hK58 _ _ (Gx (⟨[G1 0,G1 0],[],G,O,⟨⟨_,O,.conv (.same O)⟩,⟨_,O,.conv (.same O)⟩,G⟩,O,congrArg (fun r:Int×Int=>(.tup [G1 r.1,G1 r.2]:AV)) (Option.some.inj h)⟩))))))))

def Gcf (p:G6a):Option Unit:=
 some ()
theorem J9b (p:G6a) (r:Unit) (h:Gcf p=some r):Pure Tryz.prog 36 [.agg [LS 1 (E0) p.States,LS 1 (E1) p.Water]] (·=.fn 67 [.dptr [LS 1 (E0) p.States,LS 1 (E1) p.Water]]):=by
 unfold Gcf at h
 refine H4 [.tmp 2] Tryz.func36 O O (G5 fun K1 hK1=>G3 (JLh (.ptr 1106 0) (Jw (u:=.agg [LS 1 (E0) p.States,LS 1 (E1) p.Water]) (cs:=[LS 1 (E0) p.States,LS 1 (E1) p.Water]) 1106 O O O O O) O (JLh (.sc .nilFunc) (Gb O O) O (G8 (hK1 _ _ (Gq [(1,.dptr [LS 1 (E0) p.States,LS 1 (E1) p.Water])] [] 1106 rfl rfl rfl G rfl (by exact⟨.ptr,G⟩) (G5 fun K2 hK2=>G3 (JLh (.fn 67 [.dptr [LS 1 (E0) p.States,LS 1 (E1) p.Water]]) (R9 (cs:=[.dptr [LS 1 (E0) p.States,LS 1 (E1) p.Water]]) O O) O (JLh (.fn 67 [.dptr [LS 1 (E0) p.States,LS 1 (E1) p.Water]]) (Gb O O) O (G8 (hK2 _ _ (Gx ?_))))))))))))
 exact⟨[.fn 67 [.dptr [LS 1 (E0) p.States,LS 1 (E1) p.Water]]],[],G,O,⟨⟨_,O,.conv (.same O)⟩,G⟩,O,congrArg (fun _:Unit=>(.fn 67 [.dptr [LS 1 (E0) p.States,LS 1 (E1) p.Water]]:AV)) (Option.some.inj h)⟩

def G59 (x:G7) (p1:Int):Option Bool:=
 some (decide (x.Gr=p1))
theorem J3a (x:G7) (p1:Int) (r:Bool) (h:G59 x p1=some r):Pure Tryz.prog 75 [.agg (G7.cs x),.dptr [G1 p1]] (·=BL r):=by
 unfold G59 at h
 refine H4 [.tmp 3] Tryz.func75 O O (G5 fun K1 hK1=>G3 (JLh (.ptr 1168 0) (Jw (u:=.agg (G7.cs x)) (cs:=[G1 x.Gr,G1 x.Slot.G9,G1 x.Slot.Tier,U8 x.Slot.Half]) 1168 O O O O O) O (JLh (BL false) (Gb O O) O (G8 (hK1 _ _ (Gq [(1,.dptr [G1 p1]),(2,Ef x)] [] 1168 rfl rfl rfl G rfl (by exact⟨.conv (.same rfl),.ptr,G⟩) (G5 fun K2 hK2=>G3 (JLh (Ef x) (Gd Jb O O O) O (JLh (G1 x.Gr) (Gk Gc O O O) O (JLh (G1 p1) (Gk Gc O O O) O (JLh (BL (decide (x.Gr=p1))) (Qh O O O) O (JLh (BL (decide (x.Gr=p1))) (Gb O O) O (G8 (hK2 _ _ (Gx (⟨[BL (decide (x.Gr=p1))],[],G,O,⟨⟨_,O,.conv (.same O)⟩,G⟩,O,congrArg (fun r:Bool=>(BL r:AV)) (Option.some.inj h)⟩))))))))))))))))

def Rr (s:List G7) (f:G7→Option Bool):Option Int:=
 each (fun y20 i20 (s20:Unit) nx20=>
  bnd (f y20) fun r26=>
  bif r26 then
  (some (i20:Int))
  else
  (nx20 ()))
 (fun(s20:Unit)=>
  some (-1)) s 0 ()
theorem G9c (s:List G7) (f:G7→Option Bool) (f_f:FuncId) (f_c:List AV) (f_B:Ho Tryz.prog f_f=true) (f_d:Rs (fun _=>false) f_c=true) (f_w:∀ a0 q,f a0=some q→Pure Tryz.prog f_f ([.agg (G7.cs a0)]++f_c) (·=BL q)) (r:Int) (h:Rr s f=some r):Pure Tryz.prog 74 [E0 s,.fn f_f f_c] (·=G1 r):=by
 unfold Rr at h
 refine H4 [.tmp 4] Tryz.func74 O O (G5 fun K1 hK1=>G3 (JLh (G1 0) (Gb O O) O (G8 (hK1 _ _ (G5 (fun K2 hK2=>G5 fun K3 hK3=>G3 (JLh (E0 s) (G6 O O) O (Hp (f:=G7.av) (xs:=s) Hw O O (fun hm7=>?_) O O O))))))))
 refine JLh (G1 0) (G6 O O) O (G8 (hK3 _ _ (Gi ?_)))
 obtain⟨b20,kx20,hb20,hkx20,h⟩:=Hy h
 refine Ha (fun i20 (s20:Unit)=>each b20 kx20 (List.drop i20 s) i20 s20=some r) (fun i20 s20=>[(0,E0 s),(1,.fn f_f f_c),(7,Ek s.length),(8,Ek i20)]) (fun i20 s20=>[]) (fun i20=>s.length - i20) 0 () h ⟨⟨.same O,.same (Hx _ _ f_d),.same O,.same O,G⟩,G,O⟩ ?_
 clear h
 intro i20 s20 hi20 K20 e20
 refine G5 fun K21 hK21=>G3 (JLh (BL (decide ((i20:Int) < (s.length:Int)))) (J2 O O O) O (G8 (hK21 _ _ (G5 (fun K22 hK22=>Gn O (fun hb=>?_) (fun hb=>?_))))))
 ·
  have hk20:=Jd hb
  obtain⟨y20,nx20,hy20,hn20,h⟩:=Hr hi20 hk20
  replace h:=Rq hb20 h
  refine Gp (hK22 _ _ (G5 (fun K23 hK23=>Gi (G5 fun K24 hK24=>G3 (JLh (Ek i20) (G6 O O) O (JLh (Ek i20) (Gb O O) O (G8 (hK24 _ _ (G5 fun K25 hK25=>G3 (JLh (.fn f_f f_c) (G6 O O) O (JLh (E0 s) (G6 O O) O (JLh (Ek i20) (G6 O O) O (JLh (Ef y20) (Gz (f:=G7.av) (xs:=s) (y:=y20) O O O Hw hy20 O) O (JLh (.agg (G7.cs y20)) (Gh R6 O O O) O ?_))))))))))))))
  obtain⟨r26,hr26,h⟩:=Gf h
  refine JLh (BL r26) (Yy (args:=[.agg (G7.cs y20)]) (caps:=f_c) O O (f_w y20 _ hr26) f_B ⟨O,O,G⟩ f_d) O (G8 (hK25 _ _ (Gn O (fun hb=>?_) (fun hb=>?_))))
  ·
   replace h:=H1 hb h
   refine G5 fun K27 hK27=>G3 (JLh (Ek i20) (G6 O O) O (JLh (Ek i20) (Gb O O) O (G8 (hK27 _ _ (Gx (⟨[Ek i20],[],G,O,⟨⟨_,O,.conv (.same O)⟩,G⟩,O,congrArg (fun r:Int=>(G1 r:AV)) (Option.some.inj h)⟩))))))
  ·
   replace h:=Hv hb h
   refine Gp (hK23 _ _ (G3 (JLh (G1 ((i20+1:Nat):Int)) (Ht (Hn hk20 hm7) O O O) O (JLh (G1 ((i20+1:Nat):Int)) (G6 O O) O (G8 (e20 _ _ (i20+1) () (app1 hn20 h) (by omega) ⟨⟨.same rfl,.same (Hx _ _ f_d),.same rfl,.same rfl,G⟩,G,rfl⟩))))))
 ·
  have h:=app1 hkx20 (Hs hi20 (H9 hb))
  refine Hi (hK2 _ _ (G5 fun K28 hK28=>G3 (JLh (G1 (-1)) (Gb O O) O (G8 (hK28 _ _ (Gx (⟨[G1 (-1)],[],G,O,⟨⟨_,O,.conv (.same O)⟩,G⟩,O,congrArg (fun r:Int=>(G1 r:AV)) (Option.some.inj h)⟩)))))))

def G09 (l:List G7) (id_:Int):Option (Slot×Bool):=
 bnd (Rr l (fun z0=>G59 z0 id_)) fun r3=>
 bif decide (r3 < 0) then
 (some ((Slot.mk 0 0 0),false))
 else
 (Rm l r3 fun y8=>
  some (y8.Slot,true))
theorem G13 (l:List G7) (id_:Int) (r:Slot×Bool) (h:G09 l id_=some r):Pure Tryz.prog 40 [E0 l,G1 id_] (·=.tup [.agg (Slot.cs r.1),BL r.2]):=by
 unfold G09 at h
 refine H4 [.cell 4 103,.tmp 5] Tryz.func40 O O (G5 fun K1 hK1=>G3 (JLh (.ptr 1121 0) (Jw (u:=G1 id_) (cs:=[G1 id_]) 1121 O O O O O) O (JLh (.ptr 1122 0) (G0b 1122 [G1 0,G1 0,U8 0] [.int .i64 0,.int .i64 0,.int .u8 0] Gf6 ⟨.inl O,.inl O,.inl O,G⟩ O O) O (JLh (BL false) (Gb O O) O (G8 (hK1 _ _ (Gq [(0,E0 l),(3,.dptr [G1 id_]),(4,.ptr 1122 0)] [(1122,.box 103 [G1 0,G1 0,U8 0])] 1121 rfl rfl rfl ⟨⟨_,rfl,.boxEq rfl rfl⟩,G⟩ rfl (by exact⟨.conv (.same rfl),.ptr,.conv (.same rfl),G⟩) (G5 fun K2 hK2=>G3 (JLh (E0 l) (G6 O O) O (JLh (.fn 75 [.dptr [G1 id_]]) (R9 (cs:=[.dptr [G1 id_]]) O O) O ?_))))))))))
 obtain⟨r3,hr3,h⟩:=Gf h
 refine JLh (G1 r3) (Gy (args:=[E0 l,.fn 75 [.dptr [G1 id_]]]) O (G9c l (fun z0=>G59 z0 id_) 75 [.dptr [G1 id_]] Jf0 O (fun z0 q hq=>J3a z0 id_ q hq) r3 hr3) Jf1 ⟨O,O,O,O,G⟩) O (JLh (G1 r3) (Gb O O) O (G8 (hK2 _ _ (G5 (fun K4 hK4=>G5 fun K5 hK5=>G3 (JLh (G1 r3) (G6 O O) O (JLh (BL (decide (r3 < 0))) (J2 O O O) O (G8 (hK5 _ _ (Gn O (fun hb=>?_) (fun hb=>?_)))))))))))
 ·
  replace h:=H1 hb h
  refine G5 fun K6 hK6=>G3 (JLh (.agg [G1 0,G1 0,U8 0]) (Ji (cs:=[G1 0,G1 0,U8 0]) [(0,1),(1,1),(2,1)] [G1 0,G1 0,U8 0] [.int .i64 0,.int .i64 0,.int .u8 0] H10 Gf6 ⟨.inl O,.inl O,.inl O,G⟩ O O) O (Hg (u:=.junk) (H5 (u:=.agg [G1 0,G1 0,U8 0]) (ds:=[G1 0,G1 0,U8 0]) Rt O O O O O O O O) (JLh (BL false) (Gb O O) O (G8 (hK6 _ _ (Gx (⟨[.agg [G1 0,G1 0,U8 0],BL false],[],G,O,⟨⟨_,⟨_,_,_,_,O,O,O,.inl ⟨Q2,O⟩⟩,.conv (.same O)⟩,⟨_,O,.conv (.same O)⟩,G⟩,O,congrArg (fun r:Slot×Bool=>(.tup [.agg (Slot.cs r.1),BL r.2]:AV)) (Option.some.inj h)⟩)))))))
 ·
  replace h:=Hv hb h
  refine Gp (hK4 _ _ (G5 fun K7 hK7=>G3 (JLh (E0 l) (G6 O O) O (JLh (G1 r3) (G6 O O) O ?_))))
  obtain⟨m9,y8,hm9,hy8,h⟩:=Qk h
  refine JLh (Ef y8) (Gz (f:=G7.av) (xs:=l) (y:=y8) O O O Hw hy8 hm9) O (JLh (Ei y8.Slot) (Gd Qr O O O) O (JLh (.agg (Slot.cs y8.Slot)) (Gh Q2 O O O) O (Hg (u:=.junk) (H5 (u:=.agg (Slot.cs y8.Slot)) (ds:=[G1 y8.Slot.G9,G1 y8.Slot.Tier,U8 y8.Slot.Half]) Rt O O O O O O O O) (JLh (BL true) (Gb O O) O (G8 (hK7 _ _ (Gx (⟨[.agg (Slot.cs y8.Slot),BL true],[],G,O,⟨⟨_,⟨_,_,_,_,O,O,O,.inl ⟨Q2,O⟩⟩,.conv (.same O)⟩,⟨_,O,.conv (.same O)⟩,G⟩,O,congrArg (fun r:Slot×Bool=>(.tup [.agg (Slot.cs r.1),BL r.2]:AV)) (Option.some.inj h)⟩))))))))

def G2e (r_:Int) (p1:G9):Option Bool:=
 some (decide (r_=p1.Row))
theorem Hdf (r_:Int) (p1:G9) (r:Bool) (h:G2e r_ p1=some r):Pure Tryz.prog 114 [G1 r_,Ej p1] (·=BL r):=by
 unfold G2e at h
 refine H4 [.tmp 3] Tryz.func114 O O (G5 fun K1 hK1=>G3 (JLh (BL false) (Gb O O) O (G8 (hK1 _ _ (G5 fun K2 hK2=>G3 (JLh (G1 r_) (G6 O O) O (JLh (.dptr ((G9.cs p1).drop 1)) (Gd G34 O O O) O (JLh (G1 p1.Row) (Gk Gc O O O) O (JLh (BL (decide (r_=p1.Row))) (Qh O O O) O (JLh (BL (decide (r_=p1.Row))) (Gb O O) O (G8 (hK2 _ _ (Gx (⟨[BL (decide (r_=p1.Row))],[],G,O,⟨⟨_,O,.conv (.same O)⟩,G⟩,O,congrArg (fun r:Bool=>(BL r:AV)) (Option.some.inj h)⟩))))))))))))))

def G08 (l:List Int) (wanted:Int→Option Bool):Option (List Int):=
 each (fun y21 i21 (s21:(List Int)) nx21=>
  jp (fun kj24=>
   bnd (wanted y21) fun r27=>
   bif r27 then
   (need (decide ((s21.length+[(i21:Int)].length)*8≤140737488355328∧s21.length+[(i21:Int)].length≤maxLen)) <|
    kj24 (s21++[(i21:Int)]))
   else
   (kj24 s21)) fun(j24:(List Int))=>
  nx21 j24)
 (fun(s21:(List Int))=>
  some s21) l 0 []
theorem H97 (l:List Int) (wanted:Int→Option Bool) (wanted_f:FuncId) (wanted_c:List AV) (wanted_B:Ho Tryz.prog wanted_f=true) (wanted_d:Rs (fun _=>false) wanted_c=true) (wanted_w:∀ a0 q,wanted a0=some q→Pure Tryz.prog wanted_f ([G1 a0]++wanted_c) (·=BL q)) (r:(List Int)) (h:G08 l wanted=some r):Pure Tryz.prog 113 [E1 l,.fn wanted_f wanted_c] (·=E1 r):=by
 unfold G08 at h
 refine H4 [.tmp 4] Tryz.func113 O O (G5 fun K1 hK1=>G3 (JLh (E1 ([]:List Int)) (Q4 1 O O) O (G8 (hK1 _ _ (G5 fun K2 hK2=>G3 (JLh (OW 1183 1 G1 ([]:List Int)) (Zv 1183 3 1 O O O) O (G8 (hK2 _ _ (G5 (fun K3 hK3=>G5 fun K4 hK4=>G3 (JLh (E1 l) (G6 O O) O (Hp (f:=G1) (xs:=l) Gt O O (fun hm9=>?_) O O O))))))))))))
 refine JLh (G1 0) (G6 O O) O (G8 (hK4 _ _ (Gi ?_)))
 obtain⟨b21,kx21,hb21,hkx21,h⟩:=Hy h
 refine Ha (fun i21 (s21:(List Int))=>each b21 kx21 (List.drop i21 l) i21 s21=some r) (fun i21 s21=>[(1,.fn wanted_f wanted_c),(5,OW 1183 1 G1 s21),(8,E1 l),(9,Ek l.length),(10,Ek i21)]) (fun i21 s21=>[(1183,.spare 3 1 s21.length s21.length)]) (fun i21=>l.length - i21) 0 [] h ⟨⟨.same (Hx _ _ wanted_d),.same O,.same O,.same O,.same O,G⟩,⟨⟨_,O,.same⟩,G⟩,O⟩ ?_
 clear h
 intro i21 s21 hi21 K21 e21
 refine G5 fun K22 hK22=>G3 (JLh (BL (decide ((i21:Int) < (l.length:Int)))) (J2 O O O) O (G8 (hK22 _ _ (G5 (fun K23 hK23=>Gn O (fun hb=>?_) (fun hb=>?_))))))
 ·
  have hk21:=Jd hb
  obtain⟨y21,nx21,hy21,hn21,h⟩:=Hr hi21 hk21
  replace h:=Rq hb21 h
  refine Gp (hK23 _ _ ?_)
  obtain⟨kj24,hkj24,h⟩:=Q7 h
  refine Jm (fun j24:(List Int)=>kj24 j24=some r) (fun j24=>[(1,.fn wanted_f wanted_c),(5,OW 1183 1 G1 j24),(8,E1 l),(9,Ek l.length),(10,Ek i21)]) (fun j24=>[(1183,.spare 3 1 j24.length j24.length)]) (fun Kj24 ej24=>?_) ?_
  ·
   refine Gi (G5 fun K25 hK25=>G3 (JLh (Ek i21) (G6 O O) O (JLh (.dptr [G1 y21]) (Gz (f:=G1) (xs:=l) (y:=y21) O O O Gt hy21 O) O (JLh (G1 y21) (Gk Gc O O O) O (JLh (Ek i21) (Gb O O) O (JLh (G1 y21) (Gb O O) O (G8 (hK25 _ _ (G5 fun K26 hK26=>G3 (JLh (.fn wanted_f wanted_c) (G6 O O) O (JLh (G1 y21) (G6 O O) O ?_)))))))))))
   obtain⟨r27,hr27,h⟩:=Gf h
   refine JLh (BL r27) (Yy (args:=[G1 y21]) (caps:=wanted_c) O O (wanted_w y21 _ hr27) wanted_B ⟨O,O,G⟩ wanted_d) O (G8 (hK26 _ _ (Gn O (fun hb=>?_) (fun hb=>?_))))
   ·
    replace h:=H1 hb h
    refine G3 (JLh (OW 1183 1 G1 s21) (G6 O O) O (JLh (Ek i21) (G6 O O) O (JLh (E1 [(i21:Int)]) (Hf (xs:=[Ek i21]) O ⟨O,O,G⟩ Gt Yn O O O O) O ?_)))
    obtain⟨ha28,h⟩:=Hz h
    refine JLh (OW 1183 1 G1 (s21++[(i21:Int)])) (Q5 (f:=G1) (xs:=s21) (ys:=[(i21:Int)]) O O O O Gt Yh ha28 (fun _=>O) (.inl O) O) O (JLh (OW 1183 1 G1 (s21++[(i21:Int)])) (Gb O O) O (G8 (ej24 _ _ (s21++[(i21:Int)]) h ⟨⟨.same (Hx _ _ wanted_d),.same O,.same O,.same O,.same O,G⟩,⟨⟨_,O,.same⟩,G⟩,O⟩)))
   ·
    replace h:=Hv hb h
    refine Gp (ej24 _ _ s21 h ⟨⟨.same (Hx _ _ wanted_d),.same O,.same O,.same O,.same O,G⟩,⟨⟨_,O,.same⟩,G⟩,O⟩)
  ·intro j24 h
   replace h:=app1 hkj24 h
   refine G3 (JLh (G1 ((i21+1:Nat):Int)) (Ht (Hn hk21 hm9) O O O) O (JLh (G1 ((i21+1:Nat):Int)) (G6 O O) O (G8 (e21 _ _ (i21+1) j24 (app1 hn21 h) (by omega) ⟨⟨.same (Hx _ _ wanted_d),.same rfl,.same rfl,.same rfl,.same rfl,G⟩,⟨⟨_,rfl,.same⟩,G⟩,rfl⟩))))
 ·
  have h:=app1 hkx21 (Hs hi21 (H9 hb))
  refine Hi (hK3 _ _ (G5 fun K29 hK29=>G3 (JLh (OW 1183 1 G1 s21) (G6 O O) O (JLh (OW 1183 1 G1 s21) (Gb O O) O (G8 (hK29 _ _ (Gx (⟨[E1 s21],[],G,O,⟨⟨_,O,.conv (.list O)⟩,G⟩,O,congrArg (fun r:(List Int)=>(E1 r:AV)) (Option.some.inj h)⟩))))))))

def G58 (x:Ge) (c:G9):Option Bool:=
 bnd (bif decide (x.Bay=c.Bay) then G08 x.Rows (fun z0=>G2e z0 c) else some default) fun r3=>
 some ((decide (x.Bay=c.Bay))&&(decide (0 < (r3.length:Int))))
theorem J37 (x:Ge) (c:G9) (r:Bool) (h:G58 x c=some r):Pure Tryz.prog 94 [.agg [G1 x.Bay,E1 x.Rows],.agg (G9.cs c)] (·=BL r):=by
 unfold G58 at h
 refine H4 [.tmp 4] Tryz.func94 O O (G5 fun K1 hK1=>G3 (JLh (.ptr 1178 0) (Jw (u:=.agg [G1 x.Bay,E1 x.Rows]) (cs:=[G1 x.Bay,E1 x.Rows]) 1178 O O O O O) O (JLh (.ptr 1179 0) (Jw (u:=.agg (G9.cs c)) (cs:=(G9.cs c)) 1179 O O O O O) O (JLh (BL false) (Gb O O) O (G8 (hK1 _ _ ?_))))))
 refine Gq [(2,.dptr [G1 x.Bay,E1 x.Rows]),(3,.ptr 1179 0)] [(1179,.box 59 (G9.cs c))] 1178 rfl rfl rfl ⟨⟨_,rfl,.boxEq rfl rfl⟩,G⟩ rfl (by exact⟨.ptr,.conv (.same rfl),G⟩) (Gq [(2,.dptr [G1 x.Bay,E1 x.Rows]),(3,Ej c)] [] 1179 rfl rfl rfl G rfl (by exact⟨.conv (.same rfl),.ptr,G⟩) ?_)
 refine G5 fun K2 hK2=>G3 (JLh (.dptr [G1 x.Bay,E1 x.Rows]) (Gd Ga2 O O O) O (JLh (G1 x.Bay) (Gk Gc O O O) O (JLh (Ej c) (Gd G35 O O O) O (JLh (G1 c.Bay) (Gk Gc O O O) O (JLh (BL (decide (x.Bay=c.Bay))) (Qh O O O) O (JLh (BL (decide (x.Bay=c.Bay))) (G6 O O) O (Gg (u:=.dptr [E1 x.Rows]) [] O O O .sct G (fun hc=>Gd Ga1 O O O) ?_)))))))
 refine Gg (u:=E1 x.Rows) [(11,.dptr [E1 x.Rows])] O O O .sct ⟨.all id,G⟩ (fun hc=>Gk Qy O O O) ?_
 refine Gg (u:=.fn 114 [.dptr (G9.cs c)]) [] O O O .sct G (fun hc=>R9 (cs:=[.dptr (G9.cs c)]) O O) ?_
 obtain⟨r3,hr3,h⟩:=Gf h
 refine Gg (u:=E1 r3) [(12,E1 x.Rows),(13,.fn 114 [.dptr (G9.cs c)])] O O O .sct ⟨.all id,.all id,G⟩ (fun hc=>Gy (args:=[E1 x.Rows,.fn 114 [.dptr (G9.cs c)]]) O (H97 x.Rows (fun z0=>G2e z0 c) 114 [.dptr (G9.cs c)] Jcf O (fun z0 q hq=>Hdf z0 c q hq) r3 (H1 hc hr3)) Jd0 ⟨O,O,O,O,G⟩) ?_
 refine Gg (u:=Ek r3.length) [(14,E1 r3)] O O O .sct ⟨.all id,G⟩ (fun hc=>Zd (f:=G1) (xs:=r3) Gt O O) ?_
 refine Gg (u:=BL (decide (0 < (r3.length:Int)))) [(15,Ek r3.length)] O O O .sct ⟨.all id,G⟩ (fun hc=>Zj O O O) ?_
 refine JLh (BL ((decide (x.Bay=c.Bay))&&(decide (0 < (r3.length:Int))))) (Qc O O O O) O (JLh (BL ((decide (x.Bay=c.Bay))&&(decide (0 < (r3.length:Int))))) (Gb O O) O (G8 (hK2 _ _ (Gx (⟨[BL ((decide (x.Bay=c.Bay))&&(decide (0 < (r3.length:Int))))],[],G,O,⟨⟨_,O,.conv (.same O)⟩,G⟩,O,congrArg (fun r:Bool=>(BL r:AV)) (Option.some.inj h)⟩)))))

def Zk (x:Ge) (p1:Hc) (p2:Int):Option Bool:=
 Rm p1.Columns p2 fun y3=>
 bnd (G58 x y3) fun r5=>
 some r5
theorem Hbd (x:Ge) (p1:Hc) (p2:Int) (r:Bool) (h:Zk x p1 p2=some r):Pure Tryz.prog 93 [.agg [G1 x.Bay,E1 x.Rows],Ee p1,.dptr [G1 p2]] (·=BL r):=by
 unfold Zk at h
 refine H4 [.tmp 4] Tryz.func93 O O (G5 fun K1 hK1=>G3 (JLh (.ptr 1177 0) (Jw (u:=.agg [G1 x.Bay,E1 x.Rows]) (cs:=[G1 x.Bay,E1 x.Rows]) 1177 O O O O O) O (JLh (BL false) (Gb O O) O (G8 (hK1 _ _ (Gq [(1,Ee p1),(2,.dptr [G1 p2]),(3,.dptr [G1 x.Bay,E1 x.Rows])] [] 1177 rfl rfl rfl G rfl (by exact⟨.conv (.same rfl),.conv (.same rfl),.ptr,G⟩) (G5 (fun K2 hK2=>?_))))))))
 obtain⟨m4,y3,hm4,hy3,h⟩:=Qk h
 obtain⟨r5,hr5,h⟩:=Gf h
 refine Qt [] [0,0,0,0,0,0,0,0] [0,0,0,0,0,0,0,0] [[]] Jr (by kernel_rfl) rfl rfl (Gm (u:=.agg [G1 x.Bay,E1 x.Rows]) O O ⟨Gs (Gh H7f O O O) O,G⟩ (Gm (u:=Ee p1) O O ⟨Gs (Gd J0 O O O) O,G⟩ (Gm (u:=E5 p1.Columns) O O ⟨Gs (Gk J8 O O O) O,G⟩ (Gm (u:=G1 p2) O O ⟨Gs (Gk Gc O O O) O,G⟩ (Gm (u:=Ej y3) O O ⟨Gs (Gz (f:=G9.av) (xs:=p1.Columns) (y:=y3) O O O J3 hy3 hm4) O,G⟩ (Gm (u:=.agg (G9.cs y3)) O O ⟨Gs (Gh G6f O O O) O,G⟩ (Gm (u:=BL r5) O O ⟨Gs (Gy (args:=[.agg [G1 x.Bay,E1 x.Rows],.agg (G9.cs y3)]) O (J37 x y3 r5 hr5) Je5 ⟨O,O,O,O,G⟩) O,G⟩ (Gm (u:=BL r5) O O ⟨Gs (Gb O O) O,G⟩ (Zu (hK2 _ _ ?_))))))))))
 refine Gx (⟨[BL r5],[],G,O,⟨⟨_,O,.conv (.same O)⟩,G⟩,O,congrArg (fun r:Bool=>(BL r:AV)) (Option.some.inj h)⟩)

def Yf (l:List Ge) (wanted:Ge→Option Bool):Option (List Int):=
 each (fun y21 i21 (s21:(List Int)) nx21=>
  jp (fun kj24=>
   bnd (wanted y21) fun r27=>
   bif r27 then
   (need (decide ((s21.length+[(i21:Int)].length)*8≤140737488355328∧s21.length+[(i21:Int)].length≤maxLen)) <|
    kj24 (s21++[(i21:Int)]))
   else
   (kj24 s21)) fun(j24:(List Int))=>
  nx21 j24)
 (fun(s21:(List Int))=>
  some s21) l 0 []
theorem H19 (l:List Ge) (wanted:Ge→Option Bool) (wanted_f:FuncId) (wanted_c:List AV) (wanted_B:Ho Tryz.prog wanted_f=true) (wanted_d:Rs (fun _=>false) wanted_c=true) (wanted_w:∀ a0 q,wanted a0=some q→Pure Tryz.prog wanted_f ([.agg [G1 a0.Bay,E1 a0.Rows]]++wanted_c) (·=BL q)) (r:(List Int)) (h:Yf l wanted=some r):Pure Tryz.prog 92 [Ea l,.fn wanted_f wanted_c] (·=E1 r):=by
 unfold Yf at h
 refine H4 [.tmp 4] Tryz.func92 O O (G5 fun K1 hK1=>G3 (JLh (E1 ([]:List Int)) (Q4 1 O O) O (G8 (hK1 _ _ (G5 fun K2 hK2=>G3 (JLh (OW 1175 1 G1 ([]:List Int)) (Zv 1175 3 1 O O O) O (G8 (hK2 _ _ (G5 (fun K3 hK3=>G5 fun K4 hK4=>G3 (JLh (Ea l) (G6 O O) O (Hp (f:=Ge.av) (xs:=l) G03 O O (fun hm9=>?_) O O O))))))))))))
 refine JLh (G1 0) (G6 O O) O (G8 (hK4 _ _ (Gi ?_)))
 obtain⟨b21,kx21,hb21,hkx21,h⟩:=Hy h
 refine Ha (fun i21 (s21:(List Int))=>each b21 kx21 (List.drop i21 l) i21 s21=some r) (fun i21 s21=>[(1,.fn wanted_f wanted_c),(5,OW 1175 1 G1 s21),(8,Ea l),(9,Ek l.length),(10,Ek i21)]) (fun i21 s21=>[(1175,.spare 3 1 s21.length s21.length)]) (fun i21=>l.length - i21) 0 [] h ⟨⟨.same (Hx _ _ wanted_d),.same O,.same O,.same O,.same O,G⟩,⟨⟨_,O,.same⟩,G⟩,O⟩ ?_
 clear h
 intro i21 s21 hi21 K21 e21
 refine G5 fun K22 hK22=>G3 (JLh (BL (decide ((i21:Int) < (l.length:Int)))) (J2 O O O) O (G8 (hK22 _ _ (G5 (fun K23 hK23=>Gn O (fun hb=>?_) (fun hb=>?_))))))
 ·
  have hk21:=Jd hb
  obtain⟨y21,nx21,hy21,hn21,h⟩:=Hr hi21 hk21
  replace h:=Rq hb21 h
  refine Gp (hK23 _ _ ?_)
  obtain⟨kj24,hkj24,h⟩:=Q7 h
  refine Jm (fun j24:(List Int)=>kj24 j24=some r) (fun j24=>[(1,.fn wanted_f wanted_c),(5,OW 1175 1 G1 j24),(8,Ea l),(9,Ek l.length),(10,Ek i21)]) (fun j24=>[(1175,.spare 3 1 j24.length j24.length)]) (fun Kj24 ej24=>?_) ?_
  ·
   refine Gi (G5 fun K25 hK25=>G3 (JLh (Ek i21) (G6 O O) O (JLh (.dptr [G1 y21.Bay,E1 y21.Rows]) (Gz (f:=Ge.av) (xs:=l) (y:=y21) O O O G03 hy21 O) O (JLh (.agg [G1 y21.Bay,E1 y21.Rows]) (Gh H7f O O O) O (JLh (.ptr 1176 0) (Hh 1176 2 Gf5 O O) O (JLh (Ek i21) (Gb O O) O (Hg (u:=.junk) (H5 (u:=.agg [G1 y21.Bay,E1 y21.Rows]) (ds:=[G1 y21.Bay,E1 y21.Rows]) J50 O O O O O O O O) (G8 (hK25 _ _ ?_)))))))))
   refine Gq [(1,.fn wanted_f wanted_c),(5,OW 1175 1 G1 s21),(6,Ek i21),(7,.dptr [G1 y21.Bay,E1 y21.Rows]),(8,Ea l),(9,Ek l.length),(10,Ek i21)] [(1175,.spare 3 1 s21.length s21.length)] 1176 rfl rfl rfl ⟨⟨_,rfl,.same⟩,G⟩ rfl (by exact⟨.conv (.same (Hx _ _ wanted_d)),.conv (.same rfl),.conv (.same rfl),.ptr,.conv (.same rfl),.conv (.same rfl),.conv (.same rfl),G⟩) (G5 fun K26 hK26=>G3 (JLh (.fn wanted_f wanted_c) (G6 O O) O (JLh (.agg [G1 y21.Bay,E1 y21.Rows]) (Gh H7f O O O) O ?_)))
   obtain⟨r27,hr27,h⟩:=Gf h
   refine JLh (BL r27) (Yy (args:=[.agg [G1 y21.Bay,E1 y21.Rows]]) (caps:=wanted_c) O O (wanted_w y21 _ hr27) wanted_B ⟨O,O,G⟩ wanted_d) O (G8 (hK26 _ _ (Gn O (fun hb=>?_) (fun hb=>?_))))
   ·
    replace h:=H1 hb h
    refine G3 (JLh (OW 1175 1 G1 s21) (G6 O O) O (JLh (Ek i21) (G6 O O) O (JLh (E1 [(i21:Int)]) (Hf (xs:=[Ek i21]) O ⟨O,O,G⟩ Gt Yn O O O O) O ?_)))
    obtain⟨ha28,h⟩:=Hz h
    refine JLh (OW 1175 1 G1 (s21++[(i21:Int)])) (Q5 (f:=G1) (xs:=s21) (ys:=[(i21:Int)]) O O O O Gt Yh ha28 (fun _=>O) (.inl O) O) O (JLh (OW 1175 1 G1 (s21++[(i21:Int)])) (Gb O O) O (G8 (ej24 _ _ (s21++[(i21:Int)]) h ⟨⟨.same (Hx _ _ wanted_d),.same O,.same O,.same O,.same O,G⟩,⟨⟨_,O,.same⟩,G⟩,O⟩)))
   ·
    replace h:=Hv hb h
    refine Gp (ej24 _ _ s21 h ⟨⟨.same (Hx _ _ wanted_d),.same O,.same O,.same O,.same O,G⟩,⟨⟨_,O,.same⟩,G⟩,O⟩)
  ·intro j24 h
   replace h:=app1 hkj24 h
   refine G3 (JLh (G1 ((i21+1:Nat):Int)) (Ht (Hn hk21 hm9) O O O) O (JLh (G1 ((i21+1:Nat):Int)) (G6 O O) O (G8 (e21 _ _ (i21+1) j24 (app1 hn21 h) (by omega) ⟨⟨.same (Hx _ _ wanted_d),.same rfl,.same rfl,.same rfl,.same rfl,G⟩,⟨⟨_,rfl,.same⟩,G⟩,rfl⟩))))
 ·
  have h:=app1 hkx21 (Hs hi21 (H9 hb))
  refine Hi (hK3 _ _ (G5 fun K29 hK29=>G3 (JLh (OW 1175 1 G1 s21) (G6 O O) O (JLh (OW 1175 1 G1 s21) (Gb O O) O (G8 (hK29 _ _ (Gx (⟨[E1 s21],[],G,O,⟨⟨_,O,.conv (.list O)⟩,G⟩,O,congrArg (fun r:(List Int)=>(E1 r:AV)) (Option.some.inj h)⟩))))))))

def Zp (s:Hc) (column:Int):Option Int:=
 bif ((decide (column < 0))||(decide ((s.Columns.length:Int)≤column))) then
 (some (-1))
 else
 (bnd (Yf s.Covers (fun z0=>Zk z0 s column)) fun r6=>
  bif decide ((r6.length:Int)=0) then
  (some (-1))
  else
  (Rm r6 0 fun y11=>
   some y11))
theorem H25 (s:Hc) (column:Int) (r:Int) (h:Zp s column=some r):Pure Tryz.prog 71 [.agg (Hc.cs s),G1 column] (·=G1 r):=by
 unfold Zp at h
 refine H4 [.tmp 4] Tryz.func71 O O (G5 fun K1 hK1=>G3 (JLh (.ptr 1164 0) (Jw (u:=.agg (Hc.cs s)) (cs:=(Hc.cs s)) 1164 O O O O O) O (JLh (.ptr 1165 0) (Jw (u:=G1 column) (cs:=[G1 column]) 1165 O O O O O) O (JLh (G1 0) (Gb O O) O (G8 (hK1 _ _ ?_))))))
 refine Gq [(2,Ee s),(3,.ptr 1165 0)] [(1165,.box 3 [G1 column])] 1164 rfl rfl rfl ⟨⟨_,rfl,.boxEq rfl rfl⟩,G⟩ rfl (by exact⟨.ptr,.conv (.same rfl),G⟩) (Gq [(2,Ee s),(3,.dptr [G1 column])] [] 1165 rfl rfl rfl G rfl (by exact⟨.conv (.same rfl),.ptr,G⟩) (G5 (fun K2 hK2=>?_)))
 refine G5 fun K3 hK3=>G3 (JLh (G1 column) (Gk Gc O O O) O (JLh (BL (decide (column < 0))) (J2 O O O) O (JLh (BL (decide (column < 0))) (G6 O O) O (Gg (u:=G1 column) [] O O O .scf G (fun hc=>Gk Gc O O O) ?_))))
 refine Gg (u:=Ee s) [] O O O .scf G (fun hc=>Gd J0 O O O) ?_
 refine Gg (u:=E5 s.Columns) [(10,Ee s)] O O O .scf ⟨.all id,G⟩ (fun hc=>Gk J8 O O O) ?_
 refine Gg (u:=Ek s.Columns.length) [(11,E5 s.Columns)] O O O .scf ⟨.all id,G⟩ (fun hc=>Zd (f:=G9.av) (xs:=s.Columns) J3 O O) ?_
 refine Gg (u:=BL (decide ((s.Columns.length:Int)≤column))) [(9,G1 column),(12,Ek s.Columns.length)] O O O .scf ⟨.all id,.all id,G⟩ (fun hc=>G4b O O O) ?_
 refine JLh (BL ((decide (column < 0))||(decide ((s.Columns.length:Int)≤column)))) (G2a O O O O) O (G8 (hK3 _ _ (Gn O (fun hb=>?_) (fun hb=>?_))))
 ·
  replace h:=H1 hb h
  refine G5 fun K4 hK4=>G3 (JLh (G1 (-1)) (Gb O O) O (G8 (hK4 _ _ (Gx (⟨[G1 (-1)],[],G,O,⟨⟨_,O,.conv (.same O)⟩,G⟩,O,congrArg (fun r:Int=>(G1 r:AV)) (Option.some.inj h)⟩)))))
 ·
  replace h:=Hv hb h
  refine Gp (hK2 _ _ ?_)
  refine G5 fun K5 hK5=>G3 (JLh (.dptr [Ea s.Covers,G1 s.Light.Kilos,G1 s.Light.X,G1 s.Light.Y,G1 s.Light.Z,E7 s.Rows,E8 s.Frames,E9 s.Tanks,G1 s.G4.Tolerance,G1 s.G4.Trim,G1 s.G4.List_,G1 s.G4.Stability]) (Gd G0e O O O) O (JLh (Ea s.Covers) (Gk G7a O O O) O (JLh (.fn 93 [.dptr (Hc.cs s),.dptr [G1 column]]) (R9 (cs:=[.dptr (Hc.cs s),.dptr [G1 column]]) O O) O ?_)))
  obtain⟨r6,hr6,h⟩:=Gf h
  refine JLh (E1 r6) (Gy (args:=[Ea s.Covers,.fn 93 [.dptr (Hc.cs s),.dptr [G1 column]]]) O (H19 s.Covers (fun z0=>Zk z0 s column) 93 [.dptr (Hc.cs s),.dptr [G1 column]] Je6 O (fun z0 q hq=>Hbd z0 s column q hq) r6 hr6) Je7 ⟨O,O,O,O,G⟩) O (JLh (E1 r6) (Gb O O) O (G8 (hK5 _ _ ?_)))
  refine G5 (fun K7 hK7=>G5 fun K8 hK8=>G3 (JLh (E1 r6) (G6 O O) O (Hp (f:=G1) (xs:=r6) Gt O O (fun hm20=>?_) O O O)))
  refine JLh (BL (decide ((r6.length:Int)=0))) (Qh O O O) O (G8 (hK8 _ _ (Gn O (fun hb=>?_) (fun hb=>?_))))
  ·
   replace h:=H1 hb h
   refine G5 fun K9 hK9=>G3 (JLh (G1 (-1)) (Gb O O) O (G8 (hK9 _ _ (Gx (⟨[G1 (-1)],[],G,O,⟨⟨_,O,.conv (.same O)⟩,G⟩,O,congrArg (fun r:Int=>(G1 r:AV)) (Option.some.inj h)⟩)))))
  ·
   replace h:=Hv hb h
   refine Gp (hK7 _ _ (G5 fun K10 hK10=>G3 (JLh (E1 r6) (G6 O O) O ?_)))
   obtain⟨m12,y11,hm12,hy11,h⟩:=Qk h
   refine JLh (.dptr [G1 y11]) (Gz (f:=G1) (xs:=r6) (y:=y11) O O O Gt hy11 hm12) O (JLh (G1 y11) (Gk Gc O O O) O (JLh (G1 y11) (Gb O O) O (G8 (hK10 _ _ (Gx (⟨[G1 y11],[],G,O,⟨⟨_,O,.conv (.same O)⟩,G⟩,O,congrArg (fun r:Int=>(G1 r:AV)) (Option.some.inj h)⟩))))))

def Gaf (a:Slot) (b:Slot):Option Bool:=
 bnd (bif ((decide (a.G9=b.G9))&&(decide (b.Tier < a.Tier))) then G38 a.Half b.Half else some default) fun r3=>
 some (((decide (a.G9=b.G9))&&(decide (b.Tier < a.Tier)))&&r3)
theorem M_slot_Over_w (a:Slot) (b:Slot) (r:Bool) (h:Gaf a b=some r):Pure Tryz.prog 72 [.agg [G1 a.G9,G1 a.Tier,U8 a.Half],.agg [G1 b.G9,G1 b.Tier,U8 b.Half]] (·=BL r):=by
 unfold Gaf at h
 refine H4 [.tmp 4] Tryz.func72 O O (G5 fun K1 hK1=>G3 (JLh (.ptr 1166 0) (Jw (u:=.agg [G1 a.G9,G1 a.Tier,U8 a.Half]) (cs:=[G1 a.G9,G1 a.Tier,U8 a.Half]) 1166 O O O O O) O (JLh (.ptr 1167 0) (Jw (u:=.agg [G1 b.G9,G1 b.Tier,U8 b.Half]) (cs:=[G1 b.G9,G1 b.Tier,U8 b.Half]) 1167 O O O O O) O (JLh (BL false) (Gb O O) O (G8 (hK1 _ _ (Gq [(2,.dptr [G1 a.G9,G1 a.Tier,U8 a.Half]),(3,.ptr 1167 0)] [(1167,.box 103 [G1 b.G9,G1 b.Tier,U8 b.Half])] 1166 rfl rfl rfl ⟨⟨_,rfl,.boxEq rfl rfl⟩,G⟩ rfl (by exact⟨.ptr,.conv (.same rfl),G⟩) (Gq [(2,.dptr [G1 a.G9,G1 a.Tier,U8 a.Half]),(3,.dptr [G1 b.G9,G1 b.Tier,U8 b.Half])] [] 1167 rfl rfl rfl G rfl (by exact⟨.conv (.same rfl),.ptr,G⟩) ?_))))))))
 refine G5 fun K2 hK2=>G3 (JLh (.dptr [G1 a.G9,G1 a.Tier,U8 a.Half]) (Gd Q6 O O O) O (JLh (G1 a.G9) (Gk Gc O O O) O (JLh (.dptr [G1 b.G9,G1 b.Tier,U8 b.Half]) (Gd Q6 O O O) O (JLh (G1 b.G9) (Gk Gc O O O) O (JLh (BL (decide (a.G9=b.G9))) (Qh O O O) O (JLh (BL (decide (a.G9=b.G9))) (G6 O O) O (Gg (u:=.dptr [G1 a.Tier,U8 a.Half]) [] O O O .sct G (fun hc=>Gd Y9 O O O) ?_)))))))
 refine Gg (u:=G1 a.Tier) [(11,.dptr [G1 a.Tier,U8 a.Half])] O O O .sct ⟨.all id,G⟩ (fun hc=>Gk Gc O O O) ?_
 refine Gg (u:=.dptr [G1 b.Tier,U8 b.Half]) [] O O O .sct G (fun hc=>Gd Y9 O O O) ?_
 refine Gg (u:=G1 b.Tier) [(13,.dptr [G1 b.Tier,U8 b.Half])] O O O .sct ⟨.all id,G⟩ (fun hc=>Gk Gc O O O) ?_
 refine Gg (u:=BL (decide (b.Tier < a.Tier))) [(12,G1 a.Tier),(14,G1 b.Tier)] O O O .sct ⟨.all id,.all id,G⟩ (fun hc=>Zj O O O) ?_
 refine JLh (BL ((decide (a.G9=b.G9))&&(decide (b.Tier < a.Tier)))) (Qc O O O O) O (JLh (BL ((decide (a.G9=b.G9))&&(decide (b.Tier < a.Tier)))) (G6 O O) O (Gg (u:=.dptr [U8 a.Half]) [] O O O .sct G (fun hc=>Gd Y8 O O O) ?_))
 refine Gg (u:=U8 a.Half) [(18,.dptr [U8 a.Half])] O O O .sct ⟨.all id,G⟩ (fun hc=>Gk J7 O O O) ?_
 refine Gg (u:=.dptr [U8 b.Half]) [] O O O .sct G (fun hc=>Gd Y8 O O O) ?_
 refine Gg (u:=U8 b.Half) [(20,.dptr [U8 b.Half])] O O O .sct ⟨.all id,G⟩ (fun hc=>Gk J7 O O O) ?_
 obtain⟨r3,hr3,h⟩:=Gf h
 refine Gg (u:=BL r3) [(19,U8 a.Half),(21,U8 b.Half)] O O O .sct ⟨.all id,.all id,G⟩ (fun hc=>Gy (args:=[U8 a.Half,U8 b.Half]) O (H52 a.Half b.Half r3 (H1 hc hr3)) J5d ⟨O,O,O,O,G⟩) ?_
 refine JLh (BL (((decide (a.G9=b.G9))&&(decide (b.Tier < a.Tier)))&&r3)) (Qc O O O O) O (JLh (BL (((decide (a.G9=b.G9))&&(decide (b.Tier < a.Tier)))&&r3)) (Gb O O) O (G8 (hK2 _ _ (Gx (⟨[BL (((decide (a.G9=b.G9))&&(decide (b.Tier < a.Tier)))&&r3)],[],G,O,⟨⟨_,O,.conv (.same O)⟩,G⟩,O,congrArg (fun r:Bool=>(BL r:AV)) (Option.some.inj h)⟩)))))

def Zq (m:Gu Int Unit) (k:Int):Option (Bool×(Gu Int Unit)):=
 bif (Gu.has m k) then
 (some (false,m))
 else
 (some (true,(Gu.put m k ())))
theorem Gb4 (m:Gu Int Unit) (k:Int) (r:Bool×(Gu Int Unit)) (h:Zq m k=some r):Qq Tryz.prog 70 [.mp 1117,G1 k] [(1117,MP 151 (fun n:Int=>Value.int .i64 n) (fun _:Unit=>.agg []) m)] (fun av L'=>av=BL r.1∧L'=[(1117,MP 151 (fun n:Int=>Value.int .i64 n) (fun _:Unit=>.agg []) r.2)]):=by
 unfold Zq at h
 refine Zw [1117] [.tmp 4] Tryz.func70 O O (H64 O) (G5 fun K1 hK1=>G3 (JLh (BL false) (Gb O O) O (G8 (hK1 _ _ (G5 (fun K2 hK2=>G5 fun K3 hK3=>G3 (JLh (.mp 1117) (G6 O O) O (JLh (G1 k) (G6 O O) O (JLh (.tup [.agg [],BL (Gu.has m k)]) (Ja6 (av:=(fun _:Unit=>.agg [])) (m:=m) (a:=k) () (.agg #[]) O O O O tk_3 J52 tf_zv_175 O) O (JLh (.tup [.agg [],BL (Gu.has m k)]) (G6 O O) O (JLh (.agg []) (H0 O O O) O (JLh (BL (Gu.has m k)) (H0 O O O) O (JLh (.ptr 1163 0) (Hh 1163 0 Jbe O O) O (Hg (u:=.junk) (A_store0 (u:=.agg []) Jcd O O O O O O) (JLh (BL (Gu.has m k)) (Gb O O) O (G8 (hK3 _ _ ?_)))))))))))))))))
 refine Gq [(0,.mp 1117),(1,G1 k),(6,BL (Gu.has m k))] [(1117,MP 151 (fun n:Int=>Value.int .i64 n) (fun _:Unit=>.agg []) m)] 1163 rfl rfl rfl ⟨⟨_,rfl,.map⟩,G⟩ rfl (by exact⟨.conv (.same rfl),.conv (.same rfl),.conv (.same rfl),G⟩) (G5 fun K5 hK5=>G3 (JLh (BL (Gu.has m k)) (G6 O O) O (G8 (hK5 _ _ (Gn O (fun hb=>?_) (fun hb=>?_))))))
 ·
  replace h:=H1 hb h
  refine G5 fun K6 hK6=>G3 (JLh (BL false) (Gb O O) O (G8 (hK6 _ _ (Gx ?_))))
  obtain rfl:=Option.some.inj h
  exact⟨[BL false],[(1117,MP 151 (fun n:Int=>Value.int .i64 n) (fun _:Unit=>.agg []) m)],⟨⟨_,O,.map⟩,G⟩,O,⟨⟨_,O,.conv (.same O)⟩,G⟩,O,O⟩
 ·
  replace h:=Hv hb h
  refine Gp (hK2 _ _ (G5 fun K7 hK7=>G3 (JLh (.mp 1117) (G6 O O) O (JLh (G1 k) (G6 O O) O (JLh (.agg []) (Ji (cs:=[]) [] [] [] Jad Jc9 G O O) O (Hg (u:=.junk) (G90 (m:=m) (a:=k) (v:=()) O O O O O O tk_3 J52) (G8 (hK7 _ _ (G5 fun K8 hK8=>G3 (JLh (BL true) (Gb O O) O (G8 (hK8 _ _ (Gx ?_)))))))))))))
  obtain rfl:=Option.some.inj h
  exact⟨[BL true],[(1117,MP 151 (fun n:Int=>Value.int .i64 n) (fun _:Unit=>.agg []) (Gu.put m k ()))],⟨⟨_,O,.map⟩,G⟩,O,⟨⟨_,O,.conv (.same O)⟩,G⟩,O,O⟩

def Z7 (self_:Int→(Gu Int Unit)→(List Int)→(List (List G7))→Hc→Option ((Gu Int Unit)×(List Int))) (F:Nat) (id_:Int) (p1:Gu Int Unit) (p2:List Int) (p3:List (List G7)) (p4:Hc):Option ((Gu Int Unit)×(List Int)):=
 bnd (Zq p1 id_) fun r3=>
 bif (!r3.1) then
 (some (r3.2,p2))
 else
 (need (decide ((p2.length+[id_].length)*8≤140737488355328∧p2.length+[id_].length≤maxLen)) <|
  each (fun y7 i7 (s7:(Gu Int Unit)×(List Int)) nx7=>
   jp (fun kj10=>
    bnd (G09 y7 id_) fun r13=>
    bif (!r13.2) then
    (kj10 (s7.1,s7.2))
    else
    (jp (fun kj17=>
      Rm p4.Columns r13.1.G9 fun y19=>
      bif (!y19.Deck) then
      (bnd (Zp p4 r13.1.G9) fun r21=>
       kj17 r21)
      else
      (kj17 (-1))) fun(j17:Int)=>
     each (fun y56 i56 (s56:(Gu Int Unit)×(List Int)) nx56=>
      jp (fun kj59=>
       bnd (Gaf y56.Slot r13.1) fun r62=>
       bif r62 then
       (bnd (self_ y56.Gr s56.1 s56.2 p3 p4) fun r63=>
        kj59 (r63.1,r63.2))
       else
       (kj59 (s56.1,s56.2))) fun(j59:(Gu Int Unit)×(List Int))=>
      nx56 (j59.1,j59.2))
     (fun(s56:(Gu Int Unit)×(List Int))=>
      each (fun y65 i65 (s65:(Gu Int Unit)×(List Int)) nx65=>
       each (fun y107 i107 (s107:(Gu Int Unit)×(List Int)) nx107=>
        jp (fun kj110=>
         bnd (bif decide (0≤j17) then Rm p4.Columns y107.Slot.G9 some else some default) fun y113=>
         bnd (bif ((decide (0≤j17))&&y113.Deck) then Zp p4 y107.Slot.G9 else some default) fun r114=>
         bif (((decide (0≤j17))&&y113.Deck)&&(decide (r114=j17))) then
         (bnd (self_ y107.Gr s107.1 s107.2 p3 p4) fun r115=>
          kj110 (r115.1,r115.2))
         else
         (kj110 (s107.1,s107.2))) fun(j110:(Gu Int Unit)×(List Int))=>
        nx107 (j110.1,j110.2))
       (fun(s107:(Gu Int Unit)×(List Int))=>
        nx65 (s107.1,s107.2)) y65 0 (s65.1,s65.2))
      (fun(s65:(Gu Int Unit)×(List Int))=>
       kj10 (s65.1,s65.2)) p3 0 (s56.1,s56.2)) y7 0 (s7.1,s7.2))) fun(j10:(Gu Int Unit)×(List Int))=>
   nx7 (j10.1,j10.2))
  (fun(s7:(Gu Int Unit)×(List Int))=>
   some (s7.1,s7.2)) p3 0 (r3.2,(p2++[id_])))
def Ra:Nat→Int→(Gu Int Unit)→(List Int)→(List (List G7))→Hc→Option ((Gu Int Unit)×(List Int))
 | 0,_,_,_,_,_=>none
 | F+1,id_,p1,p2,p3,p4=>Z7 (Ra F) F id_ p1 p2 p3 p4
theorem Hec (self_:Int→(Gu Int Unit)→(List Int)→(List (List G7))→Hc→Option ((Gu Int Unit)×(List Int))) (self_w:∀ (id_:Int) (p1:Gu Int Unit) (p2:List Int) (p3:List (List G7)) (p4:Hc) (r:(Gu Int Unit)×(List Int)),self_ id_ p1 p2 p3 p4=some r→Qq Tryz.prog 69 [G1 id_,.ptr 1111 0,.ptr 1112 0,.dptr [LS 1 (E0) p3],Ee p4,.ptr 1113 0] [(1111,.box 151 [.mp 1117]),(1117,MP 151 (fun n:Int=>Value.int .i64 n) (fun _:Unit=>.agg []) p1),(1112,.box 57 [.vec 1118 p2.length 1 p2.length]),(1118,.vec 3 1 p2.length (p2.map G1)),(1113,.box 152 [.fn 69 [.ptr 1111 0,.ptr 1112 0,.dptr [LS 1 (E0) p3],Ee p4,.ptr 1113 0]])] (fun av L'=>av=.tup []∧L'=[(1111,.box 151 [.mp 1117]),(1117,MP 151 (fun n:Int=>Value.int .i64 n) (fun _:Unit=>.agg []) r.1),(1112,.box 57 [.vec 1118 r.2.length 1 r.2.length]),(1118,.vec 3 1 r.2.length (r.2.map G1)),(1113,.box 152 [.fn 69 [.ptr 1111 0,.ptr 1112 0,.dptr [LS 1 (E0) p3],Ee p4,.ptr 1113 0]])])) (F:Nat) (id_:Int) (p1:Gu Int Unit) (p2:List Int) (p3:List (List G7)) (p4:Hc) (r:(Gu Int Unit)×(List Int)) (h:Z7 self_ F id_ p1 p2 p3 p4=some r):Qq Tryz.prog 69 [G1 id_,.ptr 1111 0,.ptr 1112 0,.dptr [LS 1 (E0) p3],Ee p4,.ptr 1113 0] [(1111,.box 151 [.mp 1117]),(1117,MP 151 (fun n:Int=>Value.int .i64 n) (fun _:Unit=>.agg []) p1),(1112,.box 57 [.vec 1118 p2.length 1 p2.length]),(1118,.vec 3 1 p2.length (p2.map G1)),(1113,.box 152 [.fn 69 [.ptr 1111 0,.ptr 1112 0,.dptr [LS 1 (E0) p3],Ee p4,.ptr 1113 0]])] (fun av L'=>av=.tup []∧L'=[(1111,.box 151 [.mp 1117]),(1117,MP 151 (fun n:Int=>Value.int .i64 n) (fun _:Unit=>.agg []) r.1),(1112,.box 57 [.vec 1118 r.2.length 1 r.2.length]),(1118,.vec 3 1 r.2.length (r.2.map G1)),(1113,.box 152 [.fn 69 [.ptr 1111 0,.ptr 1112 0,.dptr [LS 1 (E0) p3],Ee p4,.ptr 1113 0]])]):=by
 unfold Z7 at h
 refine Zw [1111,1117,1112,1118,1113] [] Tryz.func69 O O (H64 O) (G5 (fun K1 hK1=>G5 fun K2 hK2=>G3 (JLh (.mp 1117) (Jv Jac O O O O) O (JLh (G1 id_) (G6 O O) O ?_))))
 obtain⟨r3,hr3,h⟩:=Gf h
 refine JLh (BL r3.1) (H4d (args:=[.mp 1117,G1 id_]) (L0:=[(1117,MP 151 (fun n:Int=>Value.int .i64 n) (fun _:Unit=>.agg []) p1)]) (Lr:=[(1117,MP 151 (fun n:Int=>Value.int .i64 n) (fun _:Unit=>.agg []) r3.2)]) O (Gb4 p1 id_ r3 hr3) Jf3 ⟨.inl O,O,.inl O,O,G⟩ ⟨O,G⟩ O O O) O (JLh (BL (!r3.1)) (Zy (b:=r3.1) O O) O (G8 (hK2 _ _ (Gn O (fun hb=>?_) (fun hb=>?_)))))
 ·
  replace h:=H1 hb h
  refine Gx ?_
  obtain rfl:=Option.some.inj h
  exact⟨[],[(1111,.box 151 [.mp 1117]),(1117,MP 151 (fun n:Int=>Value.int .i64 n) (fun _:Unit=>.agg []) r3.2),(1112,.box 57 [.vec 1118 p2.length 1 p2.length]),(1118,.vec 3 1 p2.length (p2.map G1)),(1113,.box 152 [.fn 69 [.ptr 1111 0,.ptr 1112 0,.dptr [LS 1 (E0) p3],Ee p4,.ptr 1113 0]])],⟨⟨_,O,.boxL O ⟨.same O,G⟩⟩,⟨_,O,.map⟩,⟨_,O,.boxL O ⟨.same O,G⟩⟩,⟨_,O,.vec⟩,⟨_,O,.boxL O ⟨.same O,G⟩⟩,G⟩,O,G,O,O⟩
 ·
  replace h:=Hv hb h
  refine Gp (hK1 _ _ (G5 fun K4 hK4=>G3 (JLh (.vec 1118 p2.length 1 p2.length) (Jv Qy O O O O) O (JLh (G1 id_) (G6 O O) O (JLh (E1 [id_]) (Hf (xs:=[G1 id_]) O ⟨O,O,G⟩ Gt Yn O O O O) O ?_)))))
  obtain⟨ha5,h⟩:=Hz h
  refine JLh (.vec 1118 ((p2++[id_]).length) 1 ((p2++[id_]).length)) (Hc4 (f:=G1) (xs:=p2) (ys:=[id_]) (ver:=p2.length) (ver1:=(p2++[id_]).length) rfl rfl rfl rfl Gt Yh ha5 (fun _=>rfl) (.inl rfl) (by simp)) O (Hg (u:=.junk) (H5 (u:=.vec 1118 ((p2++[id_]).length) 1 ((p2++[id_]).length)) (ds:=[.vec 1118 ((p2++[id_]).length) 1 ((p2++[id_]).length)]) Ha5 O O O O O O O O) (G8 (hK4 _ _ (G5 fun K6 hK6=>G3 (JLh (LS 1 (E0) p3) (Gk G05 O O O) O (Hp (f:=(E0)) (xs:=p3) Qa O O (fun hm27=>?_) O O O))))))
  refine JLh (G1 0) (G6 O O) O (G8 (hK6 _ _ (Gi ?_)))
  obtain⟨b7,kx7,hb7,hkx7,h⟩:=Hy h
  refine Ha (fun i7 (s7:(Gu Int Unit)×(List Int))=>each b7 kx7 (List.drop i7 p3) i7 s7=some r) (fun i7 s7=>[(0,G1 id_),(3,.dptr [LS 1 (E0) p3]),(4,Ee p4),(5,.ptr 1113 0),(26,LS 1 (E0) p3),(27,Ek p3.length),(28,Ek i7)]) (fun i7 s7=>[(1117,MP 151 (fun n:Int=>Value.int .i64 n) (fun _:Unit=>.agg []) s7.1),(1118,.vec 3 1 s7.2.length (s7.2.map G1)),(1111,.box 151 [.mp 1117]),(1112,.box 57 [.vec 1118 s7.2.length 1 s7.2.length]),(1113,.box 152 [.fn 69 [.ptr 1111 0,.ptr 1112 0,.dptr [LS 1 (E0) p3],Ee p4,.ptr 1113 0]])]) (fun i7=>p3.length - i7) 0 (r3.2,(p2++[id_])) h ⟨(by repeat' constructor),⟨⟨_,rfl,.map⟩,⟨_,rfl,.vec⟩,⟨_,rfl,.boxL rfl ⟨.same rfl,G⟩⟩,⟨_,rfl,.boxL rfl ⟨.same rfl,G⟩⟩,⟨_,rfl,.boxL rfl ⟨.same rfl,G⟩⟩,G⟩,rfl⟩ ?_
  clear h
  intro i7 s7 hi7 K7 e7
  refine G5 fun K8 hK8=>G3 (JLh (BL (decide ((i7:Int) < (p3.length:Int)))) (J2 O O O) O (G8 (hK8 _ _ (G5 (fun K9 hK9=>Gn O (fun hb=>?_) (fun hb=>?_))))))
  ·
   have hk7:=Jd hb
   obtain⟨y7,nx7,hy7,hn7,h⟩:=Hr hi7 hk7
   replace h:=Rq hb7 h
   refine Gp (hK9 _ _ ?_)
   obtain⟨kj10,hkj10,h⟩:=Q7 h
   refine Jm (fun j10:(Gu Int Unit)×(List Int)=>kj10 j10=some r) (fun j10=>[(0,G1 id_),(3,.dptr [LS 1 (E0) p3]),(4,Ee p4),(5,.ptr 1113 0),(26,LS 1 (E0) p3),(27,Ek p3.length),(28,Ek i7)]) (fun j10=>[(1117,MP 151 (fun n:Int=>Value.int .i64 n) (fun _:Unit=>.agg []) j10.1),(1118,.vec 3 1 j10.2.length (j10.2.map G1)),(1111,.box 151 [.mp 1117]),(1112,.box 57 [.vec 1118 j10.2.length 1 j10.2.length]),(1113,.box 152 [.fn 69 [.ptr 1111 0,.ptr 1112 0,.dptr [LS 1 (E0) p3],Ee p4,.ptr 1113 0]])]) (fun Kj10 ej10=>?_) ?_
   ·
    refine Gi (G5 fun K11 hK11=>G3 (JLh (.dptr [E0 y7]) (Gz (f:=(E0)) (xs:=p3) (y:=y7) O O O Qa hy7 O) O (JLh (E0 y7) (Gk Y3 O O O) O (JLh (E0 y7) (Gb O O) O (G8 (hK11 _ _ (G5 fun K12 hK12=>G3 (JLh (E0 y7) (G6 O O) O (JLh (G1 id_) (G6 O O) O ?_)))))))))
    obtain⟨r13,hr13,h⟩:=Gf h
    refine JLh (.tup [.agg (Slot.cs r13.1),BL r13.2]) (Gy (args:=[E0 y7,G1 id_]) O (G13 y7 id_ r13 hr13) G67 ⟨O,O,O,O,G⟩) O (JLh (.tup [.agg (Slot.cs r13.1),BL r13.2]) (G6 O O) O (JLh (.agg (Slot.cs r13.1)) (H0 O O O) O (JLh (BL r13.2) (H0 O O O) O (JLh (.ptr 1160 0) (Hh 1160 3 Rb O O) O (Hg (u:=.junk) (H5 (u:=.agg (Slot.cs r13.1)) (ds:=[G1 r13.1.G9,G1 r13.1.Tier,U8 r13.1.Half]) Rt O O O O O O O O) (JLh (BL r13.2) (Gb O O) O (G8 (hK12 _ _ ?_))))))))
    refine Gq [(0,G1 id_),(3,.dptr [LS 1 (E0) p3]),(4,Ee p4),(5,.ptr 1113 0),(8,E0 y7),(9,Ei r13.1),(10,BL r13.2),(26,LS 1 (E0) p3),(27,Ek p3.length),(28,Ek i7)] [(1117,MP 151 (fun n:Int=>Value.int .i64 n) (fun _:Unit=>.agg []) s7.1),(1118,.vec 3 1 s7.2.length (s7.2.map G1)),(1111,.box 151 [.mp 1117]),(1112,.box 57 [.vec 1118 s7.2.length 1 s7.2.length]),(1113,.box 152 [.fn 69 [.ptr 1111 0,.ptr 1112 0,.dptr [LS 1 (E0) p3],Ee p4,.ptr 1113 0]])] 1160 rfl rfl rfl ⟨⟨_,rfl,.map⟩,⟨_,rfl,.vec⟩,⟨_,rfl,.boxEq rfl rfl⟩,⟨_,rfl,.boxEq rfl rfl⟩,⟨_,rfl,.boxEq rfl rfl⟩,G⟩ rfl (by repeat' (first | exact .ptr | constructor)) (G5 (fun K14 hK14=>?_))
    refine G5 fun K15 hK15=>G3 (JLh (BL r13.2) (G6 O O) O (JLh (BL (!r13.2)) (Zy (b:=r13.2) O O) O (G8 (hK15 _ _ (Gn O (fun hb=>?_) (fun hb=>?_))))))
    ·
     replace h:=H1 hb h
     refine Hi (ej10 _ _ (s7.1,s7.2) h ⟨(by repeat' constructor),⟨⟨_,rfl,.map⟩,⟨_,rfl,.vec⟩,⟨_,rfl,.boxL rfl ⟨.same rfl,G⟩⟩,⟨_,rfl,.boxL rfl ⟨.same rfl,G⟩⟩,⟨_,rfl,.boxL rfl ⟨.same rfl,G⟩⟩,G⟩,rfl⟩)
    ·
     replace h:=Hv hb h
     refine Gp (hK14 _ _ (G5 fun K16 hK16=>G3 (JLh (G1 (-1)) (Gb O O) O (G8 (hK16 _ _ ?_)))))
     obtain⟨kj17,hkj17,h⟩:=Q7 h
     refine Jm (fun j17:Int=>kj17 j17=some r) (fun j17=>[(0,G1 id_),(3,.dptr [LS 1 (E0) p3]),(4,Ee p4),(5,.ptr 1113 0),(8,E0 y7),(9,Ei r13.1),(11,G1 j17),(26,LS 1 (E0) p3),(27,Ek p3.length),(28,Ek i7)]) (fun j17=>[(1117,MP 151 (fun n:Int=>Value.int .i64 n) (fun _:Unit=>.agg []) s7.1),(1118,.vec 3 1 s7.2.length (s7.2.map G1)),(1111,.box 151 [.mp 1117]),(1112,.box 57 [.vec 1118 s7.2.length 1 s7.2.length]),(1113,.box 152 [.fn 69 [.ptr 1111 0,.ptr 1112 0,.dptr [LS 1 (E0) p3],Ee p4,.ptr 1113 0]])]) (fun Kj17 ej17=>?_) ?_
     ·
      refine G5 fun K18 hK18=>G3 (JLh (Ee p4) (Gd J0 O O O) O (JLh (E5 p4.Columns) (Gk J8 O O O) O (JLh (Ei r13.1) (Gd Q6 O O O) O (JLh (G1 r13.1.G9) (Gk Gc O O O) O ?_))))
      obtain⟨m20,y19,hm20,hy19,h⟩:=Qk h
      refine JLh (Ej y19) (Gz (f:=G9.av) (xs:=p4.Columns) (y:=y19) O O O J3 hy19 hm20) O (JLh (.dptr ((G9.cs y19).drop 2)) (Gd G33 O O O) O (JLh (BL y19.Deck) (Gk Ru O O O) O (JLh (BL (!y19.Deck)) (Zy (b:=y19.Deck) O O) O (G8 (hK18 _ _ (Gn O (fun hb=>?_) (fun hb=>?_)))))))
      ·
       replace h:=H1 hb h
       refine G3 (JLh (.agg (Hc.cs p4)) (Gh J5 O O O) O (JLh (Ei r13.1) (Gd Q6 O O O) O (JLh (G1 r13.1.G9) (Gk Gc O O O) O ?_)))
       obtain⟨r21,hr21,h⟩:=Gf h
       refine JLh (G1 r21) (Gy (args:=[.agg (Hc.cs p4),G1 r13.1.G9]) O (H25 p4 r13.1.G9 r21 hr21) J62 ⟨O,O,O,O,G⟩) O (JLh (G1 r21) (Gb O O) O (G8 (ej17 _ _ r21 h ⟨(by repeat' constructor),⟨⟨_,rfl,.map⟩,⟨_,rfl,.vec⟩,⟨_,rfl,.boxL rfl ⟨.same rfl,G⟩⟩,⟨_,rfl,.boxL rfl ⟨.same rfl,G⟩⟩,⟨_,rfl,.boxL rfl ⟨.same rfl,G⟩⟩,G⟩,rfl⟩)))
      ·
       replace h:=Hv hb h
       refine Gp (ej17 _ _ (-1) h ⟨(by repeat' constructor),⟨⟨_,rfl,.map⟩,⟨_,rfl,.vec⟩,⟨_,rfl,.boxL rfl ⟨.same rfl,G⟩⟩,⟨_,rfl,.boxL rfl ⟨.same rfl,G⟩⟩,⟨_,rfl,.boxL rfl ⟨.same rfl,G⟩⟩,G⟩,rfl⟩)
     ·intro j17 h
      replace h:=app1 hkj17 h
      refine G5 (fun K22 hK22=>G5 fun K23 hK23=>G3 (JLh (E0 y7) (G6 O O) O (Hp (f:=G7.av) (xs:=y7) Hw O O (fun hm53=>?_) O O O)))
      refine JLh (G1 0) (G6 O O) O (G8 (hK23 _ _ (Gi ?_)))
      obtain⟨b56,kx56,hb56,hkx56,h⟩:=Hy h
      refine Ha (fun i56 (s56:(Gu Int Unit)×(List Int))=>each b56 kx56 (List.drop i56 y7) i56 s56=some r) (fun i56 s56=>[(0,G1 id_),(3,.dptr [LS 1 (E0) p3]),(4,Ee p4),(5,.ptr 1113 0),(9,Ei r13.1),(11,G1 j17),(26,LS 1 (E0) p3),(27,Ek p3.length),(28,Ek i7),(52,E0 y7),(53,Ek y7.length),(54,Ek i56)]) (fun i56 s56=>[(1117,MP 151 (fun n:Int=>Value.int .i64 n) (fun _:Unit=>.agg []) s56.1),(1118,.vec 3 1 s56.2.length (s56.2.map G1)),(1111,.box 151 [.mp 1117]),(1112,.box 57 [.vec 1118 s56.2.length 1 s56.2.length]),(1113,.box 152 [.fn 69 [.ptr 1111 0,.ptr 1112 0,.dptr [LS 1 (E0) p3],Ee p4,.ptr 1113 0]])]) (fun i56=>y7.length - i56) 0 (s7.1,s7.2) h ⟨(by repeat' constructor),⟨⟨_,rfl,.map⟩,⟨_,rfl,.vec⟩,⟨_,rfl,.boxL rfl ⟨.same rfl,G⟩⟩,⟨_,rfl,.boxL rfl ⟨.same rfl,G⟩⟩,⟨_,rfl,.boxL rfl ⟨.same rfl,G⟩⟩,G⟩,rfl⟩ ?_
      clear h
      intro i56 s56 hi56 K56 e56
      refine G5 fun K57 hK57=>G3 (JLh (BL (decide ((i56:Int) < (y7.length:Int)))) (J2 O O O) O (G8 (hK57 _ _ (G5 (fun K58 hK58=>Gn O (fun hb=>?_) (fun hb=>?_))))))
      ·
       have hk56:=Jd hb
       obtain⟨y56,nx56,hy56,hn56,h⟩:=Hr hi56 hk56
       replace h:=Rq hb56 h
       refine Gp (hK58 _ _ ?_)
       obtain⟨kj59,hkj59,h⟩:=Q7 h
       refine Jm (fun j59:(Gu Int Unit)×(List Int)=>kj59 j59=some r) (fun j59=>[(0,G1 id_),(3,.dptr [LS 1 (E0) p3]),(4,Ee p4),(5,.ptr 1113 0),(9,Ei r13.1),(11,G1 j17),(26,LS 1 (E0) p3),(27,Ek p3.length),(28,Ek i7),(52,E0 y7),(53,Ek y7.length),(54,Ek i56)]) (fun j59=>[(1117,MP 151 (fun n:Int=>Value.int .i64 n) (fun _:Unit=>.agg []) j59.1),(1118,.vec 3 1 j59.2.length (j59.2.map G1)),(1111,.box 151 [.mp 1117]),(1112,.box 57 [.vec 1118 j59.2.length 1 j59.2.length]),(1113,.box 152 [.fn 69 [.ptr 1111 0,.ptr 1112 0,.dptr [LS 1 (E0) p3],Ee p4,.ptr 1113 0]])]) (fun Kj59 ej59=>?_) ?_
       ·
        refine Gi (G5 fun K60 hK60=>G3 (JLh (Ef y56) (Gz (f:=G7.av) (xs:=y7) (y:=y56) O O O Hw hy56 O) O (JLh (.agg (G7.cs y56)) (Gh R6 O O O) O (JLh (.ptr 1161 0) (Hh 1161 4 Qp O O) O (Hg (u:=.junk) (H5 (u:=.agg (G7.cs y56)) (ds:=[G1 y56.Gr,G1 y56.Slot.G9,G1 y56.Slot.Tier,U8 y56.Slot.Half]) Yj O O O O O O O O) (G8 (hK60 _ _ ?_)))))))
        refine Gq [(0,G1 id_),(3,.dptr [LS 1 (E0) p3]),(4,Ee p4),(5,.ptr 1113 0),(9,Ei r13.1),(11,G1 j17),(13,Ef y56),(26,LS 1 (E0) p3),(27,Ek p3.length),(28,Ek i7),(52,E0 y7),(53,Ek y7.length),(54,Ek i56)] [(1117,MP 151 (fun n:Int=>Value.int .i64 n) (fun _:Unit=>.agg []) s56.1),(1118,.vec 3 1 s56.2.length (s56.2.map G1)),(1111,.box 151 [.mp 1117]),(1112,.box 57 [.vec 1118 s56.2.length 1 s56.2.length]),(1113,.box 152 [.fn 69 [.ptr 1111 0,.ptr 1112 0,.dptr [LS 1 (E0) p3],Ee p4,.ptr 1113 0]])] 1161 rfl rfl rfl ⟨⟨_,rfl,.map⟩,⟨_,rfl,.vec⟩,⟨_,rfl,.boxEq rfl rfl⟩,⟨_,rfl,.boxEq rfl rfl⟩,⟨_,rfl,.boxEq rfl rfl⟩,G⟩ rfl (by repeat' (first | exact .ptr | constructor)) ?_
        refine G5 fun K61 hK61=>G3 (JLh (Ei y56.Slot) (Gd Qr O O O) O (JLh (.agg (Slot.cs y56.Slot)) (Gh Q2 O O O) O (JLh (.agg (Slot.cs r13.1)) (Gh Q2 O O O) O ?_)))
        obtain⟨r62,hr62,h⟩:=Gf h
        refine JLh (BL r62) (Gy (args:=[.agg (Slot.cs y56.Slot),.agg (Slot.cs r13.1)]) O (M_slot_Over_w y56.Slot r13.1 r62 hr62) Jf2 ⟨O,O,O,O,G⟩) O (G8 (hK61 _ _ (Gn O (fun hb=>?_) (fun hb=>?_))))
        ·
         replace h:=H1 hb h
         refine G3 (JLh (.fn 69 [.ptr 1111 0,.ptr 1112 0,.dptr [LS 1 (E0) p3],Ee p4,.ptr 1113 0]) (Jv Ga0 O O O O) O (JLh (Ef y56) (Gd Jb O O O) O (JLh (G1 y56.Gr) (Gk Gc O O O) O ?_)))
         obtain⟨r63,hr63,h⟩:=Gf h
         refine JLh (.tup []) (H7a (args:=[G1 y56.Gr]) (caps:=[.ptr 1111 0,.ptr 1112 0,.dptr [LS 1 (E0) p3],Ee p4,.ptr 1113 0]) (L0:=[(1111,.box 151 [.mp 1117]),(1117,MP 151 (fun n:Int=>Value.int .i64 n) (fun _:Unit=>.agg []) s56.1),(1112,.box 57 [.vec 1118 s56.2.length 1 s56.2.length]),(1118,.vec 3 1 s56.2.length (s56.2.map G1)),(1113,.box 152 [.fn 69 [.ptr 1111 0,.ptr 1112 0,.dptr [LS 1 (E0) p3],Ee p4,.ptr 1113 0]])]) (Lr:=[(1111,.box 151 [.mp 1117]),(1117,MP 151 (fun n:Int=>Value.int .i64 n) (fun _:Unit=>.agg []) r63.1),(1112,.box 57 [.vec 1118 r63.2.length 1 r63.2.length]),(1118,.vec 3 1 r63.2.length (r63.2.map G1)),(1113,.box 152 [.fn 69 [.ptr 1111 0,.ptr 1112 0,.dptr [LS 1 (E0) p3],Ee p4,.ptr 1113 0]])]) O O (self_w y56.Gr s56.1 s56.2 p3 p4 r63 hr63) H33 ⟨.inl O,O,G⟩ O ⟨O,O,O,O,O,G⟩ O O O) O (G8 ?_)
         exact ej59 _ _ (r63.1,r63.2) h ⟨(by repeat' constructor),⟨⟨_,rfl,.map⟩,⟨_,rfl,.vec⟩,⟨_,rfl,.boxL rfl ⟨.same rfl,G⟩⟩,⟨_,rfl,.boxL rfl ⟨.same rfl,G⟩⟩,⟨_,rfl,.boxL rfl ⟨.same rfl,G⟩⟩,G⟩,rfl⟩
        ·
         replace h:=Hv hb h
         refine Gp (ej59 _ _ (s56.1,s56.2) h ⟨(by repeat' constructor),⟨⟨_,rfl,.map⟩,⟨_,rfl,.vec⟩,⟨_,rfl,.boxL rfl ⟨.same rfl,G⟩⟩,⟨_,rfl,.boxL rfl ⟨.same rfl,G⟩⟩,⟨_,rfl,.boxL rfl ⟨.same rfl,G⟩⟩,G⟩,rfl⟩)
       ·intro j59 h
        replace h:=app1 hkj59 h
        refine G3 (JLh (G1 ((i56+1:Nat):Int)) (Ht (Hn hk56 hm53) O O O) O (JLh (G1 ((i56+1:Nat):Int)) (G6 O O) O (G8 (e56 _ _ (i56+1) (j59.1,j59.2) (app1 hn56 h) (by omega) ⟨(by repeat' constructor),⟨⟨_,rfl,.map⟩,⟨_,rfl,.vec⟩,⟨_,rfl,.boxL rfl ⟨.same rfl,G⟩⟩,⟨_,rfl,.boxL rfl ⟨.same rfl,G⟩⟩,⟨_,rfl,.boxL rfl ⟨.same rfl,G⟩⟩,G⟩,rfl⟩))))
      ·
       have h:=app1 hkx56 (Hs hi56 (H9 hb))
       refine Hi (hK22 _ _ (G5 fun K64 hK64=>G3 (JLh (LS 1 (E0) p3) (Gk G05 O O O) O (Hp (f:=(E0)) (xs:=p3) Qa O O (fun hm68=>?_) O O O))))
       refine JLh (G1 0) (G6 O O) O (G8 (hK64 _ _ (Gi ?_)))
       obtain⟨b65,kx65,hb65,hkx65,h⟩:=Hy h
       refine Ha (fun i65 (s65:(Gu Int Unit)×(List Int))=>each b65 kx65 (List.drop i65 p3) i65 s65=some r) (fun i65 s65=>[(0,G1 id_),(3,.dptr [LS 1 (E0) p3]),(4,Ee p4),(5,.ptr 1113 0),(11,G1 j17),(26,LS 1 (E0) p3),(27,Ek p3.length),(28,Ek i7),(67,LS 1 (E0) p3),(68,Ek p3.length),(69,Ek i65)]) (fun i65 s65=>[(1117,MP 151 (fun n:Int=>Value.int .i64 n) (fun _:Unit=>.agg []) s65.1),(1118,.vec 3 1 s65.2.length (s65.2.map G1)),(1111,.box 151 [.mp 1117]),(1112,.box 57 [.vec 1118 s65.2.length 1 s65.2.length]),(1113,.box 152 [.fn 69 [.ptr 1111 0,.ptr 1112 0,.dptr [LS 1 (E0) p3],Ee p4,.ptr 1113 0]])]) (fun i65=>p3.length - i65) 0 (s56.1,s56.2) h ⟨(by repeat' constructor),⟨⟨_,rfl,.map⟩,⟨_,rfl,.vec⟩,⟨_,rfl,.boxL rfl ⟨.same rfl,G⟩⟩,⟨_,rfl,.boxL rfl ⟨.same rfl,G⟩⟩,⟨_,rfl,.boxL rfl ⟨.same rfl,G⟩⟩,G⟩,rfl⟩ ?_
       clear h
       intro i65 s65 hi65 K65 e65
       refine G5 fun K66 hK66=>G3 (JLh (BL (decide ((i65:Int) < (p3.length:Int)))) (J2 O O O) O (G8 (hK66 _ _ (G5 (fun K67 hK67=>Gn O (fun hb=>?_) (fun hb=>?_))))))
       ·
        have hk65:=Jd hb
        obtain⟨y65,nx65,hy65,hn65,h⟩:=Hr hi65 hk65
        replace h:=Rq hb65 h
        refine Gp (hK67 _ _ (G5 (fun K68 hK68=>Gi (G5 fun K69 hK69=>G3 (JLh (.dptr [E0 y65]) (Gz (f:=(E0)) (xs:=p3) (y:=y65) O O O Qa hy65 O) O (JLh (E0 y65) (Gk Y3 O O O) O (JLh (E0 y65) (Gb O O) O (G8 (hK69 _ _ (G5 fun K70 hK70=>G3 (JLh (E0 y65) (G6 O O) O (Hp (f:=G7.av) (xs:=y65) Hw O O (fun hm74=>?_) O O O))))))))))))
        refine JLh (G1 0) (G6 O O) O (G8 (hK70 _ _ (Gi ?_)))
        obtain⟨b107,kx107,hb107,hkx107,h⟩:=Hy h
        refine Ha (fun i107 (s107:(Gu Int Unit)×(List Int))=>each b107 kx107 (List.drop i107 y65) i107 s107=some r) (fun i107 s107=>[(0,G1 id_),(3,.dptr [LS 1 (E0) p3]),(4,Ee p4),(5,.ptr 1113 0),(11,G1 j17),(26,LS 1 (E0) p3),(27,Ek p3.length),(28,Ek i7),(67,LS 1 (E0) p3),(68,Ek p3.length),(69,Ek i65),(73,E0 y65),(74,Ek y65.length),(75,Ek i107)]) (fun i107 s107=>[(1117,MP 151 (fun n:Int=>Value.int .i64 n) (fun _:Unit=>.agg []) s107.1),(1118,.vec 3 1 s107.2.length (s107.2.map G1)),(1111,.box 151 [.mp 1117]),(1112,.box 57 [.vec 1118 s107.2.length 1 s107.2.length]),(1113,.box 152 [.fn 69 [.ptr 1111 0,.ptr 1112 0,.dptr [LS 1 (E0) p3],Ee p4,.ptr 1113 0]])]) (fun i107=>y65.length - i107) 0 (s65.1,s65.2) h ⟨(by repeat' constructor),⟨⟨_,rfl,.map⟩,⟨_,rfl,.vec⟩,⟨_,rfl,.boxL rfl ⟨.same rfl,G⟩⟩,⟨_,rfl,.boxL rfl ⟨.same rfl,G⟩⟩,⟨_,rfl,.boxL rfl ⟨.same rfl,G⟩⟩,G⟩,rfl⟩ ?_
        clear h
        intro i107 s107 hi107 K107 e107
        refine G5 fun K108 hK108=>G3 (JLh (BL (decide ((i107:Int) < (y65.length:Int)))) (J2 O O O) O (G8 (hK108 _ _ (G5 (fun K109 hK109=>Gn O (fun hb=>?_) (fun hb=>?_))))))
        ·
         have hk107:=Jd hb
         obtain⟨y107,nx107,hy107,hn107,h⟩:=Hr hi107 hk107
         replace h:=Rq hb107 h
         refine Gp (hK109 _ _ ?_)
         obtain⟨kj110,hkj110,h⟩:=Q7 h
         refine Jm (fun j110:(Gu Int Unit)×(List Int)=>kj110 j110=some r) (fun j110=>[(0,G1 id_),(3,.dptr [LS 1 (E0) p3]),(4,Ee p4),(5,.ptr 1113 0),(11,G1 j17),(26,LS 1 (E0) p3),(27,Ek p3.length),(28,Ek i7),(67,LS 1 (E0) p3),(68,Ek p3.length),(69,Ek i65),(73,E0 y65),(74,Ek y65.length),(75,Ek i107)]) (fun j110=>[(1117,MP 151 (fun n:Int=>Value.int .i64 n) (fun _:Unit=>.agg []) j110.1),(1118,.vec 3 1 j110.2.length (j110.2.map G1)),(1111,.box 151 [.mp 1117]),(1112,.box 57 [.vec 1118 j110.2.length 1 j110.2.length]),(1113,.box 152 [.fn 69 [.ptr 1111 0,.ptr 1112 0,.dptr [LS 1 (E0) p3],Ee p4,.ptr 1113 0]])]) (fun Kj110 ej110=>?_) ?_
         ·
          refine Gi (G5 fun K111 hK111=>G3 (JLh (Ef y107) (Gz (f:=G7.av) (xs:=y65) (y:=y107) O O O Hw hy107 O) O (JLh (.agg (G7.cs y107)) (Gh R6 O O O) O (JLh (.ptr 1162 0) (Hh 1162 4 Qp O O) O (Hg (u:=.junk) (H5 (u:=.agg (G7.cs y107)) (ds:=[G1 y107.Gr,G1 y107.Slot.G9,G1 y107.Slot.Tier,U8 y107.Slot.Half]) Yj O O O O O O O O) (G8 (hK111 _ _ ?_)))))))
          refine Gq [(0,G1 id_),(3,.dptr [LS 1 (E0) p3]),(4,Ee p4),(5,.ptr 1113 0),(11,G1 j17),(17,Ef y107),(26,LS 1 (E0) p3),(27,Ek p3.length),(28,Ek i7),(67,LS 1 (E0) p3),(68,Ek p3.length),(69,Ek i65),(73,E0 y65),(74,Ek y65.length),(75,Ek i107)] [(1117,MP 151 (fun n:Int=>Value.int .i64 n) (fun _:Unit=>.agg []) s107.1),(1118,.vec 3 1 s107.2.length (s107.2.map G1)),(1111,.box 151 [.mp 1117]),(1112,.box 57 [.vec 1118 s107.2.length 1 s107.2.length]),(1113,.box 152 [.fn 69 [.ptr 1111 0,.ptr 1112 0,.dptr [LS 1 (E0) p3],Ee p4,.ptr 1113 0]])] 1162 rfl rfl rfl ⟨⟨_,rfl,.map⟩,⟨_,rfl,.vec⟩,⟨_,rfl,.boxEq rfl rfl⟩,⟨_,rfl,.boxEq rfl rfl⟩,⟨_,rfl,.boxEq rfl rfl⟩,G⟩ rfl (by repeat' (first | exact .ptr | constructor)) ?_
          refine G5 fun K112 hK112=>G3 (JLh (G1 j17) (G6 O O) O (JLh (BL (decide (0≤j17))) (G4b O O O) O (JLh (BL (decide (0≤j17))) (G6 O O) O (Gg (u:=Ee p4) [] O O O .sct G (fun hc=>Gd J0 O O O) ?_))))
          refine Gg (u:=E5 p4.Columns) [(82,Ee p4)] O O O .sct ⟨.all id,G⟩ (fun hc=>Gk J8 O O O) ?_
          refine Gg (u:=Ei y107.Slot) [] O O O .sct G (fun hc=>Gd Qr O O O) ?_
          refine Gg (u:=Ei y107.Slot) [(84,Ei y107.Slot)] O O O .sct ⟨.all id,G⟩ (fun hc=>Gd Q6 O O O) ?_
          refine Gg (u:=G1 y107.Slot.G9) [(85,Ei y107.Slot)] O O O .sct ⟨.all id,G⟩ (fun hc=>Gk Gc O O O) ?_
          obtain⟨y113,hy113,h⟩:=Gf h
          refine Gg (u:=Ej y113) [(83,E5 p4.Columns),(86,G1 y107.Slot.G9)] O O O .sct ⟨.all id,.all id,G⟩ (fun hc=>(match Yi (H1 hc hy113) with | ⟨_,hm_,hy_⟩=>Gz (f:=G9.av) (xs:=p4.Columns) (y:=y113) O O O J3 hy_ hm_)) ?_
          refine Gg (u:=.dptr ((G9.cs y113).drop 2)) [(87,Ej y113)] O O O .sct ⟨.all id,G⟩ (fun hc=>Gd G33 O O O) ?_
          refine Gg (u:=BL y113.Deck) [(88,.dptr ((G9.cs y113).drop 2))] O O O .sct ⟨.all id,G⟩ (fun hc=>Gk Ru O O O) ?_
          refine JLh (BL ((decide (0≤j17))&&y113.Deck)) (Qc O O O O) O (JLh (BL ((decide (0≤j17))&&y113.Deck)) (G6 O O) O (Gg (u:=.agg (Hc.cs p4)) [] O O O .sct G (fun hc=>Gh J5 O O O) ?_))
          refine Gg (u:=Ei y107.Slot) [] O O O .sct G (fun hc=>Gd Qr O O O) ?_
          refine Gg (u:=Ei y107.Slot) [(93,Ei y107.Slot)] O O O .sct ⟨.all id,G⟩ (fun hc=>Gd Q6 O O O) ?_
          refine Gg (u:=G1 y107.Slot.G9) [(94,Ei y107.Slot)] O O O .sct ⟨.all id,G⟩ (fun hc=>Gk Gc O O O) ?_
          obtain⟨r114,hr114,h⟩:=Gf h
          refine Gg (u:=G1 r114) [(92,.agg (Hc.cs p4)),(95,G1 y107.Slot.G9)] O O O .sct ⟨.all id,.all id,G⟩ (fun hc=>Gy (args:=[.agg (Hc.cs p4),G1 y107.Slot.G9]) O (H25 p4 y107.Slot.G9 r114 (H1 hc hr114)) J62 ⟨O,O,O,O,G⟩) ?_
          refine Gg (u:=G1 j17) [] O O O .sct G (fun hc=>G6 O O) ?_
          refine Gg (u:=BL (decide (r114=j17))) [(96,G1 r114),(97,G1 j17)] O O O .sct ⟨.all id,.all id,G⟩ (fun hc=>Qh O O O) ?_
          refine JLh (BL (((decide (0≤j17))&&y113.Deck)&&(decide (r114=j17)))) (Qc O O O O) O (G8 (hK112 _ _ (Gn O (fun hb=>?_) (fun hb=>?_))))
          ·
           replace h:=H1 hb h
           refine G3 (JLh (.fn 69 [.ptr 1111 0,.ptr 1112 0,.dptr [LS 1 (E0) p3],Ee p4,.ptr 1113 0]) (Jv Ga0 O O O O) O (JLh (Ef y107) (Gd Jb O O O) O (JLh (G1 y107.Gr) (Gk Gc O O O) O ?_)))
           obtain⟨r115,hr115,h⟩:=Gf h
           refine JLh (.tup []) (H7a (args:=[G1 y107.Gr]) (caps:=[.ptr 1111 0,.ptr 1112 0,.dptr [LS 1 (E0) p3],Ee p4,.ptr 1113 0]) (L0:=[(1111,.box 151 [.mp 1117]),(1117,MP 151 (fun n:Int=>Value.int .i64 n) (fun _:Unit=>.agg []) s107.1),(1112,.box 57 [.vec 1118 s107.2.length 1 s107.2.length]),(1118,.vec 3 1 s107.2.length (s107.2.map G1)),(1113,.box 152 [.fn 69 [.ptr 1111 0,.ptr 1112 0,.dptr [LS 1 (E0) p3],Ee p4,.ptr 1113 0]])]) (Lr:=[(1111,.box 151 [.mp 1117]),(1117,MP 151 (fun n:Int=>Value.int .i64 n) (fun _:Unit=>.agg []) r115.1),(1112,.box 57 [.vec 1118 r115.2.length 1 r115.2.length]),(1118,.vec 3 1 r115.2.length (r115.2.map G1)),(1113,.box 152 [.fn 69 [.ptr 1111 0,.ptr 1112 0,.dptr [LS 1 (E0) p3],Ee p4,.ptr 1113 0]])]) O O (self_w y107.Gr s107.1 s107.2 p3 p4 r115 hr115) H33 ⟨.inl O,O,G⟩ O ⟨O,O,O,O,O,G⟩ O O O) O (G8 ?_)
           exact ej110 _ _ (r115.1,r115.2) h ⟨(by repeat' constructor),⟨⟨_,rfl,.map⟩,⟨_,rfl,.vec⟩,⟨_,rfl,.boxL rfl ⟨.same rfl,G⟩⟩,⟨_,rfl,.boxL rfl ⟨.same rfl,G⟩⟩,⟨_,rfl,.boxL rfl ⟨.same rfl,G⟩⟩,G⟩,rfl⟩
          ·
           replace h:=Hv hb h
           refine Gp (ej110 _ _ (s107.1,s107.2) h ⟨(by repeat' constructor),⟨⟨_,rfl,.map⟩,⟨_,rfl,.vec⟩,⟨_,rfl,.boxL rfl ⟨.same rfl,G⟩⟩,⟨_,rfl,.boxL rfl ⟨.same rfl,G⟩⟩,⟨_,rfl,.boxL rfl ⟨.same rfl,G⟩⟩,G⟩,rfl⟩)
         ·intro j110 h
          replace h:=app1 hkj110 h
          refine G3 (JLh (G1 ((i107+1:Nat):Int)) (Ht (Hn hk107 hm74) O O O) O (JLh (G1 ((i107+1:Nat):Int)) (G6 O O) O (G8 (e107 _ _ (i107+1) (j110.1,j110.2) (app1 hn107 h) (by omega) ⟨(by repeat' constructor),⟨⟨_,rfl,.map⟩,⟨_,rfl,.vec⟩,⟨_,rfl,.boxL rfl ⟨.same rfl,G⟩⟩,⟨_,rfl,.boxL rfl ⟨.same rfl,G⟩⟩,⟨_,rfl,.boxL rfl ⟨.same rfl,G⟩⟩,G⟩,rfl⟩))))
        ·
         have h:=app1 hkx107 (Hs hi107 (H9 hb))
         refine Hi (hK68 _ _ (G3 (JLh (G1 ((i65+1:Nat):Int)) (Ht (Hn hk65 hm68) O O O) O (JLh (G1 ((i65+1:Nat):Int)) (G6 O O) O (G8 (e65 _ _ (i65+1) (s107.1,s107.2) (app1 hn65 h) (by omega) ⟨(by repeat' constructor),⟨⟨_,rfl,.map⟩,⟨_,rfl,.vec⟩,⟨_,rfl,.boxL rfl ⟨.same rfl,G⟩⟩,⟨_,rfl,.boxL rfl ⟨.same rfl,G⟩⟩,⟨_,rfl,.boxL rfl ⟨.same rfl,G⟩⟩,G⟩,rfl⟩))))))
       ·
        have h:=app1 hkx65 (Hs hi65 (H9 hb))
        refine Hi (ej10 _ _ (s65.1,s65.2) h ⟨(by repeat' constructor),⟨⟨_,rfl,.map⟩,⟨_,rfl,.vec⟩,⟨_,rfl,.boxL rfl ⟨.same rfl,G⟩⟩,⟨_,rfl,.boxL rfl ⟨.same rfl,G⟩⟩,⟨_,rfl,.boxL rfl ⟨.same rfl,G⟩⟩,G⟩,rfl⟩)
   ·intro j10 h
    replace h:=app1 hkj10 h
    refine G3 (JLh (G1 ((i7+1:Nat):Int)) (Ht (Hn hk7 hm27) O O O) O (JLh (G1 ((i7+1:Nat):Int)) (G6 O O) O (G8 (e7 _ _ (i7+1) (j10.1,j10.2) (app1 hn7 h) (by omega) ⟨(by repeat' constructor),⟨⟨_,rfl,.map⟩,⟨_,rfl,.vec⟩,⟨_,rfl,.boxL rfl ⟨.same rfl,G⟩⟩,⟨_,rfl,.boxL rfl ⟨.same rfl,G⟩⟩,⟨_,rfl,.boxL rfl ⟨.same rfl,G⟩⟩,G⟩,rfl⟩))))
  ·
   have h:=app1 hkx7 (Hs hi7 (H9 hb))
   refine Hi ?_
   obtain rfl:=Option.some.inj h
   exact⟨[],[(1111,.box 151 [.mp 1117]),(1117,MP 151 (fun n:Int=>Value.int .i64 n) (fun _:Unit=>.agg []) s7.1),(1112,.box 57 [.vec 1118 s7.2.length 1 s7.2.length]),(1118,.vec 3 1 s7.2.length (s7.2.map G1)),(1113,.box 152 [.fn 69 [.ptr 1111 0,.ptr 1112 0,.dptr [LS 1 (E0) p3],Ee p4,.ptr 1113 0]])],⟨⟨_,O,.boxL O ⟨.same O,G⟩⟩,⟨_,O,.map⟩,⟨_,O,.boxL O ⟨.same O,G⟩⟩,⟨_,O,.vec⟩,⟨_,O,.boxL O ⟨.same O,G⟩⟩,G⟩,O,G,O,O⟩
theorem H08:∀ (F:Nat) (id_:Int) (p1:Gu Int Unit) (p2:List Int) (p3:List (List G7)) (p4:Hc) (r:(Gu Int Unit)×(List Int)) (h:Ra F id_ p1 p2 p3 p4=some r),Qq Tryz.prog 69 [G1 id_,.ptr 1111 0,.ptr 1112 0,.dptr [LS 1 (E0) p3],Ee p4,.ptr 1113 0] [(1111,.box 151 [.mp 1117]),(1117,MP 151 (fun n:Int=>Value.int .i64 n) (fun _:Unit=>.agg []) p1),(1112,.box 57 [.vec 1118 p2.length 1 p2.length]),(1118,.vec 3 1 p2.length (p2.map G1)),(1113,.box 152 [.fn 69 [.ptr 1111 0,.ptr 1112 0,.dptr [LS 1 (E0) p3],Ee p4,.ptr 1113 0]])] (fun av L'=>av=.tup []∧L'=[(1111,.box 151 [.mp 1117]),(1117,MP 151 (fun n:Int=>Value.int .i64 n) (fun _:Unit=>.agg []) r.1),(1112,.box 57 [.vec 1118 r.2.length 1 r.2.length]),(1118,.vec 3 1 r.2.length (r.2.map G1)),(1113,.box 152 [.fn 69 [.ptr 1111 0,.ptr 1112 0,.dptr [LS 1 (E0) p3],Ee p4,.ptr 1113 0]])]):=by
 intro F
 induction F with
 | zero=>intro id_ p1 p2 p3 p4 r h; cases h
 | succ F ih=>intro id_ p1 p2 p3 p4 r h; exact Hec (Ra F) ih F id_ p1 p2 p3 p4 r h

def Y4 (F:Nat) (s:Hc) (before:List G7) (after:List G7):Option (List Int):=
 each (fun y9 i9 (s9:(Gu Int Unit)×(List Int)) nx9=>
  each (fun y59 i59 (s59:(Gu Int Unit)×(List Int)) nx59=>
   jp (fun kj62=>
    bnd (G09 before y59.Gr) fun r65=>
    bnd (G09 after y59.Gr) fun r67=>
    bif ((!(r65.2==r67.2))||(!decide (r65.1=r67.1))) then
    (bnd (Ra F y59.Gr s59.1 s59.2 [before,after] s) fun r69=>
     kj62 (r69.1,r69.2))
    else
    (kj62 (s59.1,s59.2))) fun(j62:(Gu Int Unit)×(List Int))=>
   nx59 (j62.1,j62.2))
  (fun(s59:(Gu Int Unit)×(List Int))=>
   nx9 (s59.1,s59.2)) y9 0 (s9.1,s9.2))
 (fun(s9:(Gu Int Unit)×(List Int))=>
  bnd (H5c s9.2) fun r71=>
  some r71) [before,after] 0 ((Gu.empty:Gu Int Unit),[])
def G1c (id_:Int) (p1:List G7) (p2:List G7):Option Bool:=
 bnd (G09 p1 id_) fun r3=>
 bnd (G09 p2 id_) fun r5=>
 some ((!r3.2)||(!r5.2))
theorem Hbe (id_:Int) (p1:List G7) (p2:List G7) (r:Bool) (h:G1c id_ p1 p2=some r):Pure Tryz.prog 39 [G1 id_,.dptr [E0 p1],.dptr [E0 p2]] (·=BL r):=by
 unfold G1c at h
 refine H4 [.tmp 4] Tryz.func39 O O (G5 fun K1 hK1=>G3 (JLh (BL false) (Gb O O) O (G8 (hK1 _ _ (G5 fun K2 hK2=>G3 (JLh (E0 p1) (Gk Y3 O O O) O (JLh (G1 id_) (G6 O O) O ?_)))))))
 obtain⟨r3,hr3,h⟩:=Gf h
 refine JLh (.tup [.agg (Slot.cs r3.1),BL r3.2]) (Gy (args:=[E0 p1,G1 id_]) O (G13 p1 id_ r3 hr3) G67 ⟨O,O,O,O,G⟩) O (JLh (.tup [.agg (Slot.cs r3.1),BL r3.2]) (G6 O O) O (JLh (.agg (Slot.cs r3.1)) (H0 O O O) O (JLh (BL r3.2) (H0 O O O) O (JLh (.ptr 1119 0) (Hh 1119 3 Rb O O) O (Hg (u:=.junk) (H5 (u:=.agg (Slot.cs r3.1)) (ds:=[G1 r3.1.G9,G1 r3.1.Tier,U8 r3.1.Half]) Rt O O O O O O O O) (JLh (BL r3.2) (Gb O O) O (G8 (hK2 _ _ (Gq [(0,G1 id_),(2,.dptr [E0 p2]),(6,BL r3.2)] [] 1119 rfl rfl rfl G rfl (by exact⟨.conv (.same rfl),.conv (.same rfl),.conv (.same rfl),G⟩) (G5 fun K4 hK4=>G3 (JLh (E0 p2) (Gk Y3 O O O) O (JLh (G1 id_) (G6 O O) O ?_))))))))))))
 obtain⟨r5,hr5,h⟩:=Gf h
 refine JLh (.tup [.agg (Slot.cs r5.1),BL r5.2]) (Gy (args:=[E0 p2,G1 id_]) O (G13 p2 id_ r5 hr5) G67 ⟨O,O,O,O,G⟩) O (JLh (.tup [.agg (Slot.cs r5.1),BL r5.2]) (G6 O O) O (JLh (.agg (Slot.cs r5.1)) (H0 O O O) O (JLh (BL r5.2) (H0 O O O) O (JLh (.ptr 1120 0) (Hh 1120 3 Rb O O) O (Hg (u:=.junk) (H5 (u:=.agg (Slot.cs r5.1)) (ds:=[G1 r5.1.G9,G1 r5.1.Tier,U8 r5.1.Half]) Rt O O O O O O O O) (JLh (BL r5.2) (Gb O O) O (G8 (hK4 _ _ (Gq [(6,BL r3.2),(8,BL r5.2)] [] 1120 rfl rfl rfl G rfl (by exact⟨.conv (.same rfl),.conv (.same rfl),G⟩) (G5 fun K6 hK6=>G3 (JLh (BL r3.2) (G6 O O) O (JLh (BL (!r3.2)) (Zy (b:=r3.2) O O) O (JLh (BL (!r3.2)) (G6 O O) O ?_)))))))))))))
 refine Gg (u:=BL r5.2) [] O O O .scf G (fun hc=>G6 O O) ?_
 refine Gg (u:=BL (!r5.2)) [(24,BL r5.2)] O O O .scf ⟨.all id,G⟩ (fun hc=>Zy (b:=r5.2) O O) ?_
 refine JLh (BL ((!r3.2)||(!r5.2))) (G2a O O O O) O (JLh (BL ((!r3.2)||(!r5.2))) (Gb O O) O (G8 (hK6 _ _ (Gx (⟨[BL ((!r3.2)||(!r5.2))],[],G,O,⟨⟨_,O,.conv (.same O)⟩,G⟩,O,congrArg (fun r:Bool=>(BL r:AV)) (Option.some.inj h)⟩)))))

def Zb (s:List Int) (f:Int→Option Bool):Option Int:=
 each (fun y20 i20 (s20:Unit) nx20=>
  bnd (f y20) fun r26=>
  bif r26 then
  (some (i20:Int))
  else
  (nx20 ()))
 (fun(s20:Unit)=>
  some (-1)) s 0 ()
theorem H17 (s:List Int) (f:Int→Option Bool) (f_f:FuncId) (f_c:List AV) (f_B:Ho Tryz.prog f_f=true) (f_d:Rs (fun _=>false) f_c=true) (f_w:∀ a0 q,f a0=some q→Pure Tryz.prog f_f ([G1 a0]++f_c) (·=BL q)) (r:Int) (h:Zb s f=some r):Pure Tryz.prog 68 [E1 s,.fn f_f f_c] (·=G1 r):=by
 unfold Zb at h
 refine H4 [.tmp 4] Tryz.func68 O O (G5 fun K1 hK1=>G3 (JLh (G1 0) (Gb O O) O (G8 (hK1 _ _ (G5 (fun K2 hK2=>G5 fun K3 hK3=>G3 (JLh (E1 s) (G6 O O) O (Hp (f:=G1) (xs:=s) Gt O O (fun hm7=>?_) O O O))))))))
 refine JLh (G1 0) (G6 O O) O (G8 (hK3 _ _ (Gi ?_)))
 obtain⟨b20,kx20,hb20,hkx20,h⟩:=Hy h
 refine Ha (fun i20 (s20:Unit)=>each b20 kx20 (List.drop i20 s) i20 s20=some r) (fun i20 s20=>[(0,E1 s),(1,.fn f_f f_c),(7,Ek s.length),(8,Ek i20)]) (fun i20 s20=>[]) (fun i20=>s.length - i20) 0 () h ⟨⟨.same O,.same (Hx _ _ f_d),.same O,.same O,G⟩,G,O⟩ ?_
 clear h
 intro i20 s20 hi20 K20 e20
 refine G5 fun K21 hK21=>G3 (JLh (BL (decide ((i20:Int) < (s.length:Int)))) (J2 O O O) O (G8 (hK21 _ _ (G5 (fun K22 hK22=>Gn O (fun hb=>?_) (fun hb=>?_))))))
 ·
  have hk20:=Jd hb
  obtain⟨y20,nx20,hy20,hn20,h⟩:=Hr hi20 hk20
  replace h:=Rq hb20 h
  refine Gp (hK22 _ _ (G5 (fun K23 hK23=>Gi (G5 fun K24 hK24=>G3 (JLh (Ek i20) (G6 O O) O (JLh (Ek i20) (Gb O O) O (G8 (hK24 _ _ (G5 fun K25 hK25=>G3 (JLh (.fn f_f f_c) (G6 O O) O (JLh (E1 s) (G6 O O) O (JLh (Ek i20) (G6 O O) O (JLh (.dptr [G1 y20]) (Gz (f:=G1) (xs:=s) (y:=y20) O O O Gt hy20 O) O (JLh (G1 y20) (Gk Gc O O O) O ?_))))))))))))))
  obtain⟨r26,hr26,h⟩:=Gf h
  refine JLh (BL r26) (Yy (args:=[G1 y20]) (caps:=f_c) O O (f_w y20 _ hr26) f_B ⟨O,O,G⟩ f_d) O (G8 (hK25 _ _ (Gn O (fun hb=>?_) (fun hb=>?_))))
  ·
   replace h:=H1 hb h
   refine G5 fun K27 hK27=>G3 (JLh (Ek i20) (G6 O O) O (JLh (Ek i20) (Gb O O) O (G8 (hK27 _ _ (Gx (⟨[Ek i20],[],G,O,⟨⟨_,O,.conv (.same O)⟩,G⟩,O,congrArg (fun r:Int=>(G1 r:AV)) (Option.some.inj h)⟩))))))
  ·
   replace h:=Hv hb h
   refine Gp (hK23 _ _ (G3 (JLh (G1 ((i20+1:Nat):Int)) (Ht (Hn hk20 hm7) O O O) O (JLh (G1 ((i20+1:Nat):Int)) (G6 O O) O (G8 (e20 _ _ (i20+1) () (app1 hn20 h) (by omega) ⟨⟨.same rfl,.same (Hx _ _ f_d),.same rfl,.same rfl,G⟩,G,rfl⟩))))))
 ·
  have h:=app1 hkx20 (Hs hi20 (H9 hb))
  refine Hi (hK2 _ _ (G5 fun K28 hK28=>G3 (JLh (G1 (-1)) (Gb O O) O (G8 (hK28 _ _ (Gx (⟨[G1 (-1)],[],G,O,⟨⟨_,O,.conv (.same O)⟩,G⟩,O,congrArg (fun r:Int=>(G1 r:AV)) (Option.some.inj h)⟩)))))))


theorem J39 (F:Nat) (s:Hc) (before:List G7) (after:List G7) (r:(List Int)) (h:Y4 F s before after=some r):Qq Tryz.prog 38 [.agg (Hc.cs s),E0 before,E0 after] [] (fun av L'=>∃ p:Nat,av=.vec 1118 p 1 r.length∧L'=[(1118,.vec 3 1 p (r.map G1))]):=by
 unfold Y4 at h
 refine Zw [] [.tmp 6] Tryz.func38 O O (H64 O) (G5 fun K1 hK1=>G3 (JLh (.ptr 1108 0) (Jw (u:=.agg (Hc.cs s)) (cs:=(Hc.cs s)) 1108 O O O O O) O (JLh (.vec 1109 (([]:List Int).length) 1 (([]:List Int).length)) (Hc3 1109 3 1 O O O) O (G8 (hK1 _ _ ?_)))))
 refine Gq [(1,E0 before),(2,E0 after),(3,Ee s)] [(1109,.vec 3 1 (([]:List Int).length) (([]:List Int).map G1))] 1108 rfl rfl rfl ⟨⟨_,rfl,.vec⟩,G⟩ rfl (by exact⟨.conv (.same rfl),.conv (.same rfl),.ptr,G⟩) ?_
 refine G5 fun K2 hK2=>G3 (JLh (E0 before) (G6 O O) O (JLh (E0 after) (G6 O O) O (JLh (LS 1 (E0) [before,after]) (Hf (xs:=[E0 before,E0 after]) O ⟨O,O,O,O,G⟩ Qa G79 O O O O) O (JLh (.ptr 1110 0) (Hh 1110 1 J13 O O) O (Hg (u:=.junk) (H5 (u:=LS 1 (E0) [before,after]) (ds:=[LS 1 (E0) [before,after]]) Ha6 O O O O O O O O) (G8 (hK2 _ _ ?_)))))))
 refine Gq [(1,E0 before),(2,E0 after),(3,Ee s),(7,.dptr [LS 1 (E0) [before,after]])] [(1109,.vec 3 1 (([]:List Int).length) (([]:List Int).map G1))] 1110 rfl rfl rfl ⟨⟨_,rfl,.vec⟩,G⟩ rfl (by repeat' (first | exact .ptr | constructor)) ?_
 refine G5 fun K3 hK3=>G3 (JLh (.mp 1117) (G2b 1117 (fun n:Int=>Value.int .i64 n) (fun _:Unit=>.agg []) O O) O (JLh (.ptr 1111 0) (Hh 1111 1 Hc9 O O) O (Hg (u:=.junk) (H5 (u:=.mp 1117) (ds:=[.mp 1117]) J17 O O O O O O O O) (G8 (hK3 _ _ (G5 fun K4 hK4=>G3 (JLh (.ptr 1112 0) (G0b 1112 [.sc (.slice none 0 0)] [.slice none 0 0] J4e ⟨.inl O,G⟩ O O) O (Ja0 1112 0 1118 3 1 O O O (cs':=[.vec 1118 (([]:List Int).length) 1 (([]:List Int).length)]) O (G8 (hK4 _ _ (G5 fun K5 hK5=>G3 (JLh (.ptr 1113 0) (Hh 1113 1 Hc8 O O) O (G8 (hK5 _ _ ?_))))))))))))))
 refine G5 fun K6 hK6=>G3 (JLh (.fn 69 [.ptr 1111 0,.ptr 1112 0,.dptr [LS 1 (E0) [before,after]],Ee s,.ptr 1113 0]) (R9 (cs:=[.ptr 1111 0,.ptr 1112 0,.dptr [LS 1 (E0) [before,after]],Ee s,.ptr 1113 0]) O O) O (Hg (u:=.junk) (H5 (u:=.fn 69 [.ptr 1111 0,.ptr 1112 0,.dptr [LS 1 (E0) [before,after]],Ee s,.ptr 1113 0]) (ds:=[.fn 69 [.ptr 1111 0,.ptr 1112 0,.dptr [LS 1 (E0) [before,after]],Ee s,.ptr 1113 0]]) J16 O O O O O O O O) (G8 (hK6 _ _ ?_))))
 refine G5 (fun K7 hK7=>G5 fun K8 hK8=>G3 (JLh (LS 1 (E0) [before,after]) (Gk G05 O O O) O (Hp (f:=(E0)) (xs:=[before,after]) Qa O O (fun hm25=>?_) O O O)))
 refine JLh (G1 0) (G6 O O) O (G8 (hK8 _ _ (Gi ?_)))
 obtain⟨b9,kx9,hb9,hkx9,h⟩:=Hy h
 refine Ha (fun i9 (s9:(Gu Int Unit)×(List Int))=>each b9 kx9 (List.drop i9 [before,after]) i9 s9=some r) (fun i9 s9=>[(1,E0 before),(2,E0 after),(9,.ptr 1112 0),(10,.ptr 1113 0),(24,LS 1 (E0) [before,after]),(25,G1 ([before,after].length:Int)),(26,Ek i9)]) (fun i9 s9=>[(1109,.vec 3 1 (([]:List Int).length) (([]:List Int).map G1)),(1117,MP 151 (fun n:Int=>Value.int .i64 n) (fun _:Unit=>.agg []) s9.1),(1118,.vec 3 1 s9.2.length (s9.2.map G1)),(1111,.box 151 [.mp 1117]),(1112,.box 57 [.vec 1118 s9.2.length 1 s9.2.length]),(1113,.box 152 [.fn 69 [.ptr 1111 0,.ptr 1112 0,.dptr [LS 1 (E0) [before,after]],Ee s,.ptr 1113 0]])]) (fun i9=>[before,after].length - i9) 0 ((Gu.empty:Gu Int Unit),[]) h ⟨(by repeat' constructor),⟨⟨_,rfl,.vec⟩,⟨_,rfl,.map⟩,⟨_,rfl,.vec⟩,⟨_,rfl,.boxL rfl ⟨.same rfl,G⟩⟩,⟨_,rfl,.boxL rfl ⟨.same rfl,G⟩⟩,⟨_,rfl,.boxL rfl ⟨.same rfl,G⟩⟩,G⟩,rfl⟩ ?_
 clear h
 intro i9 s9 hi9 K9 e9
 refine G5 fun K10 hK10=>G3 (JLh (BL (decide ((i9:Int) < ([before,after].length:Int)))) (J2 O O O) O (G8 (hK10 _ _ (G5 (fun K11 hK11=>Gn O (fun hb=>?_) (fun hb=>?_))))))
 ·
  have hk9:=Jd hb
  obtain⟨y9,nx9,hy9,hn9,h⟩:=Hr hi9 hk9
  replace h:=Rq hb9 h
  refine Gp (hK11 _ _ (G5 (fun K12 hK12=>Gi (G5 fun K13 hK13=>G3 (JLh (.dptr [E0 y9]) (Gz (f:=(E0)) (xs:=[before,after]) (y:=y9) O O O Qa hy9 O) O (JLh (E0 y9) (Gk Y3 O O O) O (JLh (E0 y9) (Gb O O) O (G8 (hK13 _ _ (G5 fun K14 hK14=>G3 (JLh (E0 y9) (G6 O O) O (Hp (f:=G7.av) (xs:=y9) Hw O O (fun hm31=>?_) O O O))))))))))))
  refine JLh (G1 0) (G6 O O) O (G8 (hK14 _ _ (Gi ?_)))
  obtain⟨b59,kx59,hb59,hkx59,h⟩:=Hy h
  refine Ha (fun i59 (s59:(Gu Int Unit)×(List Int))=>each b59 kx59 (List.drop i59 y9) i59 s59=some r) (fun i59 s59=>[(1,E0 before),(2,E0 after),(9,.ptr 1112 0),(10,.ptr 1113 0),(24,LS 1 (E0) [before,after]),(25,G1 ([before,after].length:Int)),(26,Ek i9),(30,E0 y9),(31,Ek y9.length),(32,Ek i59)]) (fun i59 s59=>[(1109,.vec 3 1 (([]:List Int).length) (([]:List Int).map G1)),(1117,MP 151 (fun n:Int=>Value.int .i64 n) (fun _:Unit=>.agg []) s59.1),(1118,.vec 3 1 s59.2.length (s59.2.map G1)),(1111,.box 151 [.mp 1117]),(1112,.box 57 [.vec 1118 s59.2.length 1 s59.2.length]),(1113,.box 152 [.fn 69 [.ptr 1111 0,.ptr 1112 0,.dptr [LS 1 (E0) [before,after]],Ee s,.ptr 1113 0]])]) (fun i59=>y9.length - i59) 0 (s9.1,s9.2) h ⟨(by repeat' constructor),⟨⟨_,rfl,.vec⟩,⟨_,rfl,.map⟩,⟨_,rfl,.vec⟩,⟨_,rfl,.boxL rfl ⟨.same rfl,G⟩⟩,⟨_,rfl,.boxL rfl ⟨.same rfl,G⟩⟩,⟨_,rfl,.boxL rfl ⟨.same rfl,G⟩⟩,G⟩,rfl⟩ ?_
  clear h
  intro i59 s59 hi59 K59 e59
  refine G5 fun K60 hK60=>G3 (JLh (BL (decide ((i59:Int) < (y9.length:Int)))) (J2 O O O) O (G8 (hK60 _ _ (G5 (fun K61 hK61=>Gn O (fun hb=>?_) (fun hb=>?_))))))
  ·
   have hk59:=Jd hb
   obtain⟨y59,nx59,hy59,hn59,h⟩:=Hr hi59 hk59
   replace h:=Rq hb59 h
   refine Gp (hK61 _ _ ?_)
   obtain⟨kj62,hkj62,h⟩:=Q7 h
   refine Jm (fun j62:(Gu Int Unit)×(List Int)=>kj62 j62=some r) (fun j62=>[(1,E0 before),(2,E0 after),(9,.ptr 1112 0),(10,.ptr 1113 0),(24,LS 1 (E0) [before,after]),(25,G1 ([before,after].length:Int)),(26,Ek i9),(30,E0 y9),(31,Ek y9.length),(32,Ek i59)]) (fun j62=>[(1109,.vec 3 1 (([]:List Int).length) (([]:List Int).map G1)),(1117,MP 151 (fun n:Int=>Value.int .i64 n) (fun _:Unit=>.agg []) j62.1),(1118,.vec 3 1 j62.2.length (j62.2.map G1)),(1111,.box 151 [.mp 1117]),(1112,.box 57 [.vec 1118 j62.2.length 1 j62.2.length]),(1113,.box 152 [.fn 69 [.ptr 1111 0,.ptr 1112 0,.dptr [LS 1 (E0) [before,after]],Ee s,.ptr 1113 0]])]) (fun Kj62 ej62=>?_) ?_
   ·
    refine Gi (G5 fun K63 hK63=>G3 (JLh (Ef y59) (Gz (f:=G7.av) (xs:=y9) (y:=y59) O O O Hw hy59 O) O (JLh (.agg (G7.cs y59)) (Gh R6 O O O) O (JLh (.ptr 1114 0) (Hh 1114 4 Qp O O) O (Hg (u:=.junk) (H5 (u:=.agg (G7.cs y59)) (ds:=[G1 y59.Gr,G1 y59.Slot.G9,G1 y59.Slot.Tier,U8 y59.Slot.Half]) Yj O O O O O O O O) (G8 (hK63 _ _ ?_)))))))
    refine Gq [(1,E0 before),(2,E0 after),(9,.ptr 1112 0),(10,.ptr 1113 0),(14,Ef y59),(24,LS 1 (E0) [before,after]),(25,G1 ([before,after].length:Int)),(26,Ek i9),(30,E0 y9),(31,Ek y9.length),(32,Ek i59)] [(1109,.vec 3 1 (([]:List Int).length) (([]:List Int).map G1)),(1117,MP 151 (fun n:Int=>Value.int .i64 n) (fun _:Unit=>.agg []) s59.1),(1118,.vec 3 1 s59.2.length (s59.2.map G1)),(1111,.box 151 [.mp 1117]),(1112,.box 57 [.vec 1118 s59.2.length 1 s59.2.length]),(1113,.box 152 [.fn 69 [.ptr 1111 0,.ptr 1112 0,.dptr [LS 1 (E0) [before,after]],Ee s,.ptr 1113 0]])] 1114 rfl rfl rfl ⟨⟨_,rfl,.vec⟩,⟨_,rfl,.map⟩,⟨_,rfl,.vec⟩,⟨_,rfl,.boxEq rfl rfl⟩,⟨_,rfl,.boxEq rfl rfl⟩,⟨_,rfl,.boxEq rfl rfl⟩,G⟩ rfl (by repeat' (first | exact .ptr | constructor)) ?_
    refine G5 fun K64 hK64=>G3 (JLh (E0 before) (G6 O O) O (JLh (Ef y59) (Gd Jb O O O) O (JLh (G1 y59.Gr) (Gk Gc O O O) O ?_)))
    obtain⟨r65,hr65,h⟩:=Gf h
    refine JLh (.tup [.agg (Slot.cs r65.1),BL r65.2]) (Gy (args:=[E0 before,G1 y59.Gr]) O (G13 before y59.Gr r65 hr65) G67 ⟨O,O,O,O,G⟩) O (JLh (.tup [.agg (Slot.cs r65.1),BL r65.2]) (G6 O O) O (JLh (.agg (Slot.cs r65.1)) (H0 O O O) O (JLh (BL r65.2) (H0 O O O) O (JLh (.ptr 1115 0) (Hh 1115 3 Rb O O) O (Hg (u:=.junk) (H5 (u:=.agg (Slot.cs r65.1)) (ds:=[G1 r65.1.G9,G1 r65.1.Tier,U8 r65.1.Half]) Rt O O O O O O O O) (JLh (BL r65.2) (Gb O O) O (G8 (hK64 _ _ ?_))))))))
    refine Gq [(1,E0 before),(2,E0 after),(9,.ptr 1112 0),(10,.ptr 1113 0),(14,Ef y59),(15,Ei r65.1),(16,BL r65.2),(24,LS 1 (E0) [before,after]),(25,G1 ([before,after].length:Int)),(26,Ek i9),(30,E0 y9),(31,Ek y9.length),(32,Ek i59)] [(1109,.vec 3 1 (([]:List Int).length) (([]:List Int).map G1)),(1117,MP 151 (fun n:Int=>Value.int .i64 n) (fun _:Unit=>.agg []) s59.1),(1118,.vec 3 1 s59.2.length (s59.2.map G1)),(1111,.box 151 [.mp 1117]),(1112,.box 57 [.vec 1118 s59.2.length 1 s59.2.length]),(1113,.box 152 [.fn 69 [.ptr 1111 0,.ptr 1112 0,.dptr [LS 1 (E0) [before,after]],Ee s,.ptr 1113 0]])] 1115 rfl rfl rfl ⟨⟨_,rfl,.vec⟩,⟨_,rfl,.map⟩,⟨_,rfl,.vec⟩,⟨_,rfl,.boxEq rfl rfl⟩,⟨_,rfl,.boxEq rfl rfl⟩,⟨_,rfl,.boxEq rfl rfl⟩,G⟩ rfl (by repeat' (first | exact .ptr | constructor)) ?_
    refine G5 fun K66 hK66=>G3 (JLh (E0 after) (G6 O O) O (JLh (Ef y59) (Gd Jb O O O) O (JLh (G1 y59.Gr) (Gk Gc O O O) O ?_)))
    obtain⟨r67,hr67,h⟩:=Gf h
    refine JLh (.tup [.agg (Slot.cs r67.1),BL r67.2]) (Gy (args:=[E0 after,G1 y59.Gr]) O (G13 after y59.Gr r67 hr67) G67 ⟨O,O,O,O,G⟩) O (JLh (.tup [.agg (Slot.cs r67.1),BL r67.2]) (G6 O O) O (JLh (.agg (Slot.cs r67.1)) (H0 O O O) O (JLh (BL r67.2) (H0 O O O) O (JLh (.ptr 1116 0) (Hh 1116 3 Rb O O) O (Hg (u:=.junk) (H5 (u:=.agg (Slot.cs r67.1)) (ds:=[G1 r67.1.G9,G1 r67.1.Tier,U8 r67.1.Half]) Rt O O O O O O O O) (JLh (BL r67.2) (Gb O O) O (G8 (hK66 _ _ ?_))))))))
    refine Gq [(1,E0 before),(2,E0 after),(9,.ptr 1112 0),(10,.ptr 1113 0),(14,Ef y59),(15,Ei r65.1),(16,BL r65.2),(17,Ei r67.1),(18,BL r67.2),(24,LS 1 (E0) [before,after]),(25,G1 ([before,after].length:Int)),(26,Ek i9),(30,E0 y9),(31,Ek y9.length),(32,Ek i59)] [(1109,.vec 3 1 (([]:List Int).length) (([]:List Int).map G1)),(1117,MP 151 (fun n:Int=>Value.int .i64 n) (fun _:Unit=>.agg []) s59.1),(1118,.vec 3 1 s59.2.length (s59.2.map G1)),(1111,.box 151 [.mp 1117]),(1112,.box 57 [.vec 1118 s59.2.length 1 s59.2.length]),(1113,.box 152 [.fn 69 [.ptr 1111 0,.ptr 1112 0,.dptr [LS 1 (E0) [before,after]],Ee s,.ptr 1113 0]])] 1116 rfl rfl rfl ⟨⟨_,rfl,.vec⟩,⟨_,rfl,.map⟩,⟨_,rfl,.vec⟩,⟨_,rfl,.boxEq rfl rfl⟩,⟨_,rfl,.boxEq rfl rfl⟩,⟨_,rfl,.boxEq rfl rfl⟩,G⟩ rfl (by repeat' (first | exact .ptr | constructor)) ?_
    refine G5 fun K68 hK68=>G3 (JLh (BL r65.2) (G6 O O) O (JLh (BL r67.2) (G6 O O) O (JLh (BL (!(r65.2==r67.2))) (Jd8 Hf4 O O O) O (JLh (BL (!(r65.2==r67.2))) (G6 O O) O (Gg (u:=.agg (Slot.cs r65.1)) [] O O O .scf G (fun hc=>Gh Q2 O O O) ?_)))))
    refine Gg (u:=.agg (Slot.cs r67.1)) [] O O O .scf G (fun hc=>Gh Q2 O O O) ?_
    refine Gg (u:=BL (!decide (r65.1=r67.1))) [(54,.agg (Slot.cs r65.1)),(55,.agg (Slot.cs r67.1))] O O O .scf ⟨.all id,.all id,G⟩ (fun hc=>Jc1 (vs:=[.int .i64 r65.1.G9,.int .i64 r65.1.Tier,.int .u8 r65.1.Half]) (us:=[.int .i64 r67.1.G9,.int .i64 r67.1.Tier,.int .u8 r67.1.Half]) 4 O (tq_103 r65.1 r67.1) H37 Ha9 O O O) ?_
    refine JLh (BL ((!(r65.2==r67.2))||(!decide (r65.1=r67.1)))) (G2a O O O O) O (G8 (hK68 _ _ (Gn O (fun hb=>?_) (fun hb=>?_))))
    ·
     replace h:=H1 hb h
     refine G3 (JLh (.fn 69 [.ptr 1111 0,.ptr 1112 0,.dptr [LS 1 (E0) [before,after]],Ee s,.ptr 1113 0]) (Jv Ga0 O O O O) O (JLh (Ef y59) (Gd Jb O O O) O (JLh (G1 y59.Gr) (Gk Gc O O O) O ?_)))
     obtain⟨r69,hr69,h⟩:=Gf h
     refine JLh (.tup []) (H7a (args:=[G1 y59.Gr]) (caps:=[.ptr 1111 0,.ptr 1112 0,.dptr [LS 1 (E0) [before,after]],Ee s,.ptr 1113 0]) (L0:=[(1111,.box 151 [.mp 1117]),(1117,MP 151 (fun n:Int=>Value.int .i64 n) (fun _:Unit=>.agg []) s59.1),(1112,.box 57 [.vec 1118 s59.2.length 1 s59.2.length]),(1118,.vec 3 1 s59.2.length (s59.2.map G1)),(1113,.box 152 [.fn 69 [.ptr 1111 0,.ptr 1112 0,.dptr [LS 1 (E0) [before,after]],Ee s,.ptr 1113 0]])]) (Lr:=[(1111,.box 151 [.mp 1117]),(1117,MP 151 (fun n:Int=>Value.int .i64 n) (fun _:Unit=>.agg []) r69.1),(1112,.box 57 [.vec 1118 r69.2.length 1 r69.2.length]),(1118,.vec 3 1 r69.2.length (r69.2.map G1)),(1113,.box 152 [.fn 69 [.ptr 1111 0,.ptr 1112 0,.dptr [LS 1 (E0) [before,after]],Ee s,.ptr 1113 0]])]) O O (H08 F y59.Gr s59.1 s59.2 [before,after] s r69 hr69) H33 ⟨.inl O,O,G⟩ O ⟨O,O,O,O,O,G⟩ O O O) O (G8 ?_)
     exact ej62 _ _ (r69.1,r69.2) h ⟨(by repeat' constructor),⟨⟨_,rfl,.vec⟩,⟨_,rfl,.map⟩,⟨_,rfl,.vec⟩,⟨_,rfl,.boxL rfl ⟨.same rfl,G⟩⟩,⟨_,rfl,.boxL rfl ⟨.same rfl,G⟩⟩,⟨_,rfl,.boxL rfl ⟨.same rfl,G⟩⟩,G⟩,rfl⟩
    ·
     replace h:=Hv hb h
     refine Gp (ej62 _ _ (s59.1,s59.2) h ⟨(by repeat' constructor),⟨⟨_,rfl,.vec⟩,⟨_,rfl,.map⟩,⟨_,rfl,.vec⟩,⟨_,rfl,.boxL rfl ⟨.same rfl,G⟩⟩,⟨_,rfl,.boxL rfl ⟨.same rfl,G⟩⟩,⟨_,rfl,.boxL rfl ⟨.same rfl,G⟩⟩,G⟩,rfl⟩)
   ·intro j62 h
    replace h:=app1 hkj62 h
    refine G3 (JLh (G1 ((i59+1:Nat):Int)) (Ht (Hn hk59 hm31) O O O) O (JLh (G1 ((i59+1:Nat):Int)) (G6 O O) O (G8 (e59 _ _ (i59+1) (j62.1,j62.2) (app1 hn59 h) (by omega) ⟨(by repeat' constructor),⟨⟨_,rfl,.vec⟩,⟨_,rfl,.map⟩,⟨_,rfl,.vec⟩,⟨_,rfl,.boxL rfl ⟨.same rfl,G⟩⟩,⟨_,rfl,.boxL rfl ⟨.same rfl,G⟩⟩,⟨_,rfl,.boxL rfl ⟨.same rfl,G⟩⟩,G⟩,rfl⟩))))
  ·
   have h:=app1 hkx59 (Hs hi59 (H9 hb))
   refine Hi (hK12 _ _ (G3 (JLh (G1 ((i9+1:Nat):Int)) (Ht (Hn hk9 hm25) O O O) O (JLh (G1 ((i9+1:Nat):Int)) (G6 O O) O (G8 (e9 _ _ (i9+1) (s59.1,s59.2) (app1 hn9 h) (by omega) ⟨(by repeat' constructor),⟨⟨_,rfl,.vec⟩,⟨_,rfl,.map⟩,⟨_,rfl,.vec⟩,⟨_,rfl,.boxL rfl ⟨.same rfl,G⟩⟩,⟨_,rfl,.boxL rfl ⟨.same rfl,G⟩⟩,⟨_,rfl,.boxL rfl ⟨.same rfl,G⟩⟩,G⟩,rfl⟩))))))
 ·
  have h:=app1 hkx9 (Hs hi9 (H9 hb))
  refine Hi (hK7 _ _ (G5 fun K70 hK70=>G3 (JLh (.vec 1118 s9.2.length 1 s9.2.length) (Jv Qy O O O O) O ?_)))
  obtain⟨r71,hr71,h⟩:=Gf h
  refine JLh (.tup []) (A_sortI (F:=73) (xs:=s9.2) (r:=r71) O J1f Hce J61 O O O hr71 O) O (G8 (hK70 _ _ (G5 fun K72 hK72=>G3 (JLh (.vec 1118 s9.2.length 1 s9.2.length) (Jv Qy O O O O) O (JLh (.vec 1118 s9.2.length 1 s9.2.length) (Gb O O) O (G8 (hK72 _ _ (H4b 6 O O (fun hn_=>Gx ?_)))))))))
  obtain rfl:=Option.some.inj h
  exact⟨[.vec 1118 s9.2.length 1 s9.2.length],[(1118,.vec 3 1 s9.2.length (r71.map G1))],⟨⟨_,O,.vec⟩,G⟩,O,⟨⟨_,O,.conv (.same O)⟩,G⟩,s9.2.length,congrArg (fun n_:Nat=>(.vec 1118 s9.2.length 1 n_:AV)) (hn_.trans (List.length_map _)),O⟩

def R3 (F:Nat) (s:List Int) (del:Int→Option Bool):Option (List Int):=
 bnd (Zb s del) fun r3=>
 bif decide (r3=(-1)) then
 (some s)
 else
 (Rn (r3+1) fun v9=>
  loop (fun nx48 (s48:Int×Int×(List Int))=>
   bif decide (s48.2.1 < (s48.2.2.length:Int)) then
   (jp (fun kj51=>
     Rm s48.2.2 s48.2.1 fun y53=>
     bnd (del y53) fun r55=>
     bif (!r55) then
     (Rm s48.2.2 s48.1 fun y57=>
      Rn (s48.1+1) fun v58=>
      kj51 (v58,(s48.2.2.set s48.1.toNat y53)))
     else
     (kj51 (s48.1,s48.2.2))) fun(j51:Int×(List Int))=>
    Rn (s48.2.1+1) fun v59=>
    nx48 (j51.1,v59,j51.2))
   else
   (bnd (Ga8 s48.1 s48.2.2.length) fun m61=>
    bnd (Ga8 s48.1 (blank s48.2.2 m61 (s48.2.2.length - m61) 0).length) fun m63=>
    some ((blank s48.2.2 m61 (s48.2.2.length - m61) 0).take m63))) F (r3,v9,s))
theorem G6b (F:Nat) (s:List Int) (s_q:Nat) (del:Int→Option Bool) (del_f:FuncId) (del_c:List AV) (del_B:Ho Tryz.prog del_f=true) (del_d:Rs (fun _=>false) del_c=true) (del_w:∀ a0 q,del a0=some q→Pure Tryz.prog del_f ([G1 a0]++del_c) (·=BL q)) (r:(List Int)) (h:R3 F s del=some r):Qq Tryz.prog 37 [.vec 1118 s_q 1 s.length,.fn del_f del_c] [(1118,.vec 3 1 s_q (s.map G1))] (fun av L'=>∃ p:Nat,av=.vec 1118 p 1 r.length∧L'=[(1118,.vec 3 1 p (r.map G1))]):=by
 unfold R3 at h
 refine Zw [1118] [.tmp 4] Tryz.func37 O O (H64 O) (G5 fun K1 hK1=>G3 (JLh (.vec 1107 (([]:List Int).length) 1 (([]:List Int).length)) (Hc3 1107 3 1 O O O) O (G8 (hK1 _ _ (G5 fun K2 hK2=>G3 (JLh (.vec 1118 s_q 1 s.length) (G6 O O) O (JLh (.fn del_f del_c) (G6 O O) O ?_)))))))
 obtain⟨r3,hr3,h⟩:=Gf h
 refine JLh (G1 r3) (Ja8 (args:=[E1 s,.fn del_f del_c]) O (H17 s del del_f del_c del_B del_d del_w r3 hr3) Jf4 ⟨.vec O,.data O del_d,G⟩ O) O (JLh (G1 r3) (Gb O O) O (G8 (hK2 _ _ (G5 (fun K4 hK4=>G5 fun K5 hK5=>G3 (JLh (G1 r3) (G6 O O) O (JLh (BL (decide (r3=(-1)))) (Qh O O O) O (G8 (hK5 _ _ (Gn O (fun hb=>?_) (fun hb=>?_)))))))))))
 ·
  replace h:=H1 hb h
  refine G5 fun K6 hK6=>G3 (JLh (.vec 1118 s_q 1 s.length) (G6 O O) O (JLh (.vec 1118 s_q 1 s.length) (Gb O O) O (G8 (hK6 _ _ (H4b 4 O O (fun hn_=>Gx ?_))))))
  obtain rfl:=Option.some.inj h
  exact⟨[.vec 1118 s_q 1 s.length],[(1118,.vec 3 1 s_q (s.map G1))],⟨⟨_,O,.vec⟩,G⟩,O,⟨⟨_,O,.conv (.same O)⟩,G⟩,s_q,congrArg (fun n_:Nat=>(.vec 1118 s_q 1 n_:AV)) (hn_.trans (List.length_map _)),O⟩
 ·
  replace h:=Hv hb h
  refine Gp (hK4 _ _ (G5 (fun K7 hK7=>G5 fun K8 hK8=>G3 (JLh (G1 r3) (G6 O O) O ?_))))
  obtain⟨v9,hv9,h⟩:=Hb h
  refine JLh (G1 v9) (Ht hv9 O O O) O (JLh (G1 v9) (Gb O O) O (G8 (hK8 _ _ (Gi ?_))))
  obtain⟨b48,hb48,h⟩:=G26 h
  refine Ha (fun i48 (s48:Int×Int×(List Int))=>loop b48 i48 s48=some r) (fun i48 s48=>[(0,.vec 1118 s_q 1 s.length),(1,.fn del_f del_c),(5,G1 s48.1),(6,G1 s48.2.1)]) (fun i48 s48=>[(1118,.vec 3 1 s_q (s48.2.2.map G1)),(1107,.vec 3 1 (([]:List Int).length) (([]:List Int).map G1))]) (fun i48=>i48) F (r3,v9,s) h ⟨⟨.same O,.same (Hx _ _ del_d),.same O,.same O,G⟩,⟨⟨_,O,.vec⟩,⟨_,O,.vec⟩,G⟩,O⟩ ?_
  clear h
  intro i48 s48 hi48 K48 e48
  obtain⟨m48,nx48,hm_48,hn48,h⟩:=Zn hi48
  replace h:=Hbc hb48 h
  refine G5 (fun K49 hK49=>G5 fun K50 hK50=>G3 (JLh (G1 s48.2.1) (G6 O O) O (JLh (.vec 1118 s_q 1 s.length) (G6 O O) O (H73 (f:=G1) (xs:=s48.2.2) Gt O O O (fun hm18=>?_) O O O))))
  refine JLh (BL (decide (s48.2.1 < (s48.2.2.length:Int)))) (J2 O O O) O (G8 (hK50 _ _ (Gn O (fun hb=>?_) (fun hb=>?_))))
  ·
   replace h:=H1 hb h
   refine Gp (hK49 _ _ ?_)
   obtain⟨kj51,hkj51,h⟩:=Q7 h
   refine Jm (fun j51:Int×(List Int)=>kj51 j51=some r) (fun j51=>[(0,.vec 1118 s_q 1 s.length),(1,.fn del_f del_c),(5,G1 j51.1),(6,G1 s48.2.1)]) (fun j51=>[(1118,.vec 3 1 s_q (j51.2.map G1)),(1107,.vec 3 1 (([]:List Int).length) (([]:List Int).map G1))]) (fun Kj51 ej51=>?_) ?_
   ·
    refine Gi (G5 fun K52 hK52=>G3 (JLh (.vec 1118 s_q 1 s.length) (G6 O O) O (JLh (G1 s48.2.1) (G6 O O) O ?_)))
    obtain⟨y53,hmy53,hy53,h⟩:=R2 h
    refine JLh (.vptr 1118 s_q s48.2.1.toNat 0) (Qu (f:=G1) (xs:=s48.2.2) (y:=y53) O O O O Gt hy53 hmy53) O (JLh (G1 y53) (Yx (f:=G1) (xs:=s48.2.2) (y:=y53) Gc O O O hy53 O O) O (JLh (G1 y53) (Gb O O) O (G8 (hK52 _ _ (G5 fun K54 hK54=>G3 (JLh (.fn del_f del_c) (G6 O O) O (JLh (G1 y53) (G6 O O) O ?_)))))))
    obtain⟨r55,hr55,h⟩:=Gf h
    refine JLh (BL r55) (Yy (args:=[G1 y53]) (caps:=del_c) O O (del_w y53 _ hr55) del_B ⟨O,O,G⟩ del_d) O (JLh (BL (!r55)) (Zy (b:=r55) O O) O (G8 (hK54 _ _ (Gn O (fun hb=>?_) (fun hb=>?_)))))
    ·
     replace h:=H1 hb h
     refine G5 fun K56 hK56=>G3 (JLh (.vec 1118 s_q 1 s.length) (G6 O O) O (JLh (G1 s48.1) (G6 O O) O (JLh (G1 y53) (G6 O O) O ?_)))
     obtain⟨y57,hmy57,hy57,h⟩:=R2 h
     refine JLh (.vptr 1118 s_q s48.1.toNat 0) (Qu (f:=G1) (xs:=s48.2.2) (y:=y57) O O O O Gt hy57 hmy57) O (Hg (u:=.junk) (G20 (f:=G1) (xs:=s48.2.2) (z:=y53) Qv O O O O (List.getElem?_eq_some_iff.1 hy57).1 O O O O) (G8 (hK56 _ _ (G3 (JLh (G1 s48.1) (G6 O O) O ?_)))))
     obtain⟨v58,hv58,h⟩:=Hb h
     refine JLh (G1 v58) (Ht hv58 O O O) O (JLh (G1 v58) (Gb O O) O (G8 (ej51 _ _ (v58,(s48.2.2.set s48.1.toNat y53)) h ⟨⟨.same O,.same (Hx _ _ del_d),.same O,.same O,G⟩,⟨⟨_,O,.vec⟩,⟨_,O,.vec⟩,G⟩,O⟩)))
    ·
     replace h:=Hv hb h
     refine Gp (ej51 _ _ (s48.1,s48.2.2) h ⟨⟨.same O,.same (Hx _ _ del_d),.same O,.same O,G⟩,⟨⟨_,O,.vec⟩,⟨_,O,.vec⟩,G⟩,O⟩)
   ·intro j51 h
    replace h:=app1 hkj51 h
    refine G3 (JLh (G1 s48.2.1) (G6 O O) O ?_)
    obtain⟨v59,hv59,h⟩:=Hb h
    refine JLh (G1 v59) (Ht hv59 O O O) O (JLh (G1 v59) (Gb O O) O (G8 (e48 _ _ m48 (j51.1,v59,j51.2) (app1 hn48 h) (by omega) ⟨⟨.same rfl,.same (Hx _ _ del_d),.same rfl,.same rfl,G⟩,⟨⟨_,rfl,.vec⟩,⟨_,rfl,.vec⟩,G⟩,rfl⟩)))
  ·
   replace h:=Hv hb h
   refine Hi (hK7 _ _ (G5 fun K60 hK60=>G3 (JLh (.vec 1118 s_q 1 s.length) (G6 O O) O (JLh (G1 s48.1) (G6 O O) O ?_))))
   obtain⟨m61,hm61,h⟩:=Gf h
   refine JLh (.vsl 1118 s_q 1 m61 (s48.2.2.length - m61)) (H94 (f:=G1) (xs:=s48.2.2) O O O O Gt (Yo hm61)) O (Hg (u:=.tup []) (Jdc (f:=G1) (xs:=s48.2.2) (off:=m61) (n:=(s48.2.2.length - m61)) 0 [.int .i64 0] O Gt (.inr O) O G01 O O O ⟨.inl O,G⟩) (G8 (hK60 _ _ (G5 fun K62 hK62=>G3 (JLh (.vec 1118 s_q 1 s.length) (G6 O O) O (JLh (G1 s48.1) (G6 O O) O ?_))))))
   obtain⟨m63,hm63,h⟩:=Gf h
   refine JLh (.vec 1118 (s_q+1) 1 (((blank s48.2.2 m61 (s48.2.2.length - m61) 0).take m63).length)) (Jd6 (f:=G1) (xs:=(blank s48.2.2 m61 (s48.2.2.length - m61) 0)) O O O O Gt (Yo hm63)) O (JLh (.vec 1118 (s_q+1) 1 (((blank s48.2.2 m61 (s48.2.2.length - m61) 0).take m63).length)) (Gb O O) O (G8 (hK62 _ _ (H4b 4 O O (fun hn_=>Gx ?_)))))
   obtain rfl:=Option.some.inj h
   exact⟨[.vec 1118 (s_q+1) 1 (((blank s48.2.2 m61 (s48.2.2.length - m61) 0).take m63).length)],[(1118,.vec 3 1 (s_q+1) (((blank s48.2.2 m61 (s48.2.2.length - m61) 0).take m63).map G1))],⟨⟨_,O,.vec⟩,G⟩,O,⟨⟨_,O,.conv (.same O)⟩,G⟩,(s_q+1),congrArg (fun n_:Nat=>(.vec 1118 (s_q+1) 1 n_:AV)) (hn_.trans (List.length_map _)),O⟩

def G3e (F:Nat) (s:Hc) (boxes:List Gr) (calls:Int) (p:G6a):Option ((List (List Int))×Int):=
 bnd (G8c s boxes calls p) fun r4=>
 bif decide (r4.2≠0) then
 (some ([],r4.2))
 else
 (bnd (Gcf p) fun r10=>
  bnd (G3d p) fun ys21=>
  each (fun y21 i21 (s21:(List (List Int))) nx21=>
   bnd (Y4 F s y21.1 y21.2) fun r23=>
   bnd (R3 F r23 (fun z0=>G1c z0 y21.1 y21.2)) fun r25=>
   need (decide ((s21.length+[r25].length)*24≤140737488355328∧s21.length+[r25].length≤maxLen)) <|
   nx21 (s21++[r25]))
  (fun(s21:(List (List Int)))=>
   some (s21,0)) ys21 0 [])
theorem J09 (F:Nat) (s:Hc) (boxes:List Gr) (calls:Int) (p:G6a) (r:(List (List Int))×Int) (h:G3e F s boxes calls p=some r):Pure Tryz.prog 13 [.agg (Hc.cs s),E2 boxes,G1 calls,.agg [LS 1 (E0) p.States,LS 1 (E1) p.Water]] (·=.tup [LS 1 (E1) r.1,G1 r.2]):=by
 unfold G3e at h
 refine H4 [.tmp 8,.tmp 9] Tryz.func13 O O ?_
 refine G5 fun K1 hK1=>G3 (JLh (.ptr 1050 0) (Jw (u:=.agg (Hc.cs s)) (cs:=(Hc.cs s)) 1050 O O O O O) O (JLh (.ptr 1051 0) (Jw (u:=.agg [LS 1 (E0) p.States,LS 1 (E1) p.Water]) (cs:=[LS 1 (E0) p.States,LS 1 (E1) p.Water]) 1051 O O O O O) O (JLh (LS 1 (E1) ([]:List (List Int))) (Q4 1 O O) O (JLh (G1 0) (Gb O O) O (G8 (hK1 _ _ ?_))))))
 refine Gq [(1,E2 boxes),(2,G1 calls),(4,Ee s),(7,.ptr 1051 0)] [(1051,.box 42 [LS 1 (E0) p.States,LS 1 (E1) p.Water])] 1050 rfl rfl rfl ⟨⟨_,rfl,.boxEq rfl rfl⟩,G⟩ rfl (by repeat' (first | exact .ptr | constructor)) ?_
 refine Gq [(1,E2 boxes),(2,G1 calls),(4,Ee s),(7,.dptr [LS 1 (E0) p.States,LS 1 (E1) p.Water])] [] 1051 rfl rfl rfl G rfl (by repeat' (first | exact .ptr | constructor)) (G5 (fun K2 hK2=>?_))
 refine G5 fun K3 hK3=>G3 (JLh (.agg (Hc.cs s)) (Gh J5 O O O) O (JLh (E2 boxes) (G6 O O) O (JLh (G1 calls) (G6 O O) O (JLh (.agg [LS 1 (E0) p.States,LS 1 (E1) p.Water]) (Gh G36 O O O) O ?_))))
 obtain⟨r4,hr4,h⟩:=Gf h
 refine JLh (.tup [G1 r4.1,G1 r4.2]) (Gy (args:=[.agg (Hc.cs s),E2 boxes,G1 calls,.agg [LS 1 (E0) p.States,LS 1 (E1) p.Water]]) O (J9d s boxes calls p r4 hr4) Q0b ⟨O,O,O,O,O,O,O,O,G⟩) O (JLh (.tup [G1 r4.1,G1 r4.2]) (G6 O O) O (JLh (G1 r4.1) (H0 O O O) O (JLh (G1 r4.2) (H0 O O O) O (JLh (G1 r4.1) (Gb O O) O (JLh (G1 r4.2) (Gb O O) O (G8 (hK3 _ _ (G5 fun K5 hK5=>G3 (JLh (G1 r4.2) (G6 O O) O (JLh (BL (decide (r4.2≠0))) (H78 O O O) O (G8 (hK5 _ _ ?_))))))))))))
 refine Gn O (fun hb=>?_) (fun hb=>?_)
 ·
  replace h:=H1 hb h
  refine G5 fun K6 hK6=>G3 (JLh (G1 r4.2) (G6 O O) O (JLh (LS 1 (E1) ([]:List (List Int))) (Q4 1 O O) O (JLh (G1 r4.2) (Gb O O) O (G8 (hK6 _ _ (Gx (⟨[LS 1 (E1) ([]:List (List Int)),G1 r4.2],[],G,O,⟨⟨_,O,.conv (.same O)⟩,⟨_,O,.conv (.same O)⟩,G⟩,O,congrArg (fun r:(List (List Int))×Int=>(.tup [LS 1 (E1) r.1,G1 r.2]:AV)) (Option.some.inj h)⟩)))))))
 ·
  replace h:=Hv hb h
  refine Gp (hK2 _ _ (G5 fun K7 hK7=>G3 (JLh (.ptr 1052 0) (G0b 1052 [.sc (.slice none 0 0)] [.slice none 0 0] Jdf ⟨.inl O,G⟩ O O) O (G6d 1052 0 1055 57 1 O O O (cs':=[OW 1055 1 (E1) ([]:List (List Int))]) O (G8 (hK7 _ _ (G5 (fun K8 hK8=>G5 fun K9 hK9=>G3 (JLh (.agg [LS 1 (E0) p.States,LS 1 (E1) p.Water]) (Gh G36 O O O) O ?_)))))))))
  obtain⟨r10,hr10,h⟩:=Gf h
  refine JLh (.fn 67 [.dptr [LS 1 (E0) p.States,LS 1 (E1) p.Water]]) (Gy (args:=[.agg [LS 1 (E0) p.States,LS 1 (E1) p.Water]]) O (J9b p r10 hr10) Q0a ⟨O,O,G⟩) O (G8 (hK9 _ _ (Gi ?_)))
  obtain⟨ys21,hy_21,h⟩:=Gf h
  obtain⟨b21,kx21,hb21,hkx21,h⟩:=Hy h
  refine He6 (ps:=[28,29]) [(4,Ee s),(12,.ptr 1052 0),(27,.fn 67 [.dptr [LS 1 (E0) p.States,LS 1 (E1) p.Water]])] (ys21.map (fun y:(List G7)×(List G7)=>[E0 y.1,E0 y.2])) (fun i21 (s21:(List (List Int)))=>each b21 kx21 (List.drop i21 ys21) i21 s21=some r) (fun s21=>[(1055,.spare 57 1 s21.length s21.length),(1052,.box 40 [OW 1055 1 (E1) s21])]) [] rfl rfl rfl Jf5 (J03.down p ys21 hy_21) h ⟨⟨.same rfl,.same rfl,.same rfl,trivial⟩,⟨⟨_,rfl,.same⟩,⟨_,rfl,.boxL rfl ⟨.same rfl,trivial⟩⟩,trivial⟩,rfl⟩ rfl (fun us_ hus_=>by obtain⟨_,_,rfl⟩:=List.mem_map.1 hus_; rfl) (fun p_ hp_=>Nat.blt_eq.mp (by revert p_; decide)) (fun _=>⟨.same rfl,.same rfl,.same rfl,trivial⟩) (fun _=>rfl) ?_ ?_
  ·
   intro i21 us_ s21 hu_ hi21 lr_ K21 e21
   obtain⟨hk21,rfl⟩:=mapf_at hu_
   obtain⟨y21,nx21,hy21,hn21,h⟩:=Hr hi21 hk21
   replace h:=Rq hb21 h
   obtain⟨_,rfl⟩:=List.getElem?_eq_some_iff.1 hy21
   generalize ys21[i21]=y21 at h ⊢
   change JC _ _ _ _ [(29,E0 y21.2),(28,E0 y21.1),(4,Ee s),(12,.ptr 1052 0),(27,.fn 67 [.dptr [LS 1 (E0) p.States,LS 1 (E1) p.Water]])] [(1055,.spare 57 1 s21.length s21.length),(1052,.box 40 [OW 1055 1 (E1) s21])]
   refine G5 fun K22 hK22=>G3 (JLh (.ptr 1053 0) (Hh 1053 1 G79 O O) O (Hg (u:=.junk) (H5 (u:=E0 y21.1) (ds:=[E0 y21.1]) J18 O O O O O O O O) (G8 (hK22 _ _ (Gq [(4,Ee s),(12,.ptr 1052 0),(13,.dptr [E0 y21.1]),(29,E0 y21.2)] [(1055,.spare 57 1 s21.length s21.length),(1052,.box 40 [OW 1055 1 (E1) s21])] 1053 rfl rfl rfl ⟨⟨_,rfl,.same⟩,⟨_,rfl,.boxEq rfl rfl⟩,G⟩ rfl (by repeat' (first | exact .ptr | constructor)) (G3 ?_))))))
   refine JLh (.ptr 1054 0) (Hh 1054 1 G79 O O) O (Hg (u:=.junk) (H5 (u:=E0 y21.2) (ds:=[E0 y21.2]) J18 O O O O O O O O) (G8 (J94 [(4,Ee s),(12,.ptr 1052 0),(13,.dptr [E0 y21.1]),(14,.dptr [E0 y21.2])] [(1055,.spare 57 1 s21.length s21.length),(1052,.box 40 [OW 1055 1 (E1) s21])] 1054 rfl rfl rfl ⟨⟨_,rfl,.same⟩,⟨_,rfl,.boxEq rfl rfl⟩,G⟩ rfl (by repeat' (first | exact .ptr | constructor)) (Mid_go (Gi ?_)))))
   refine Re (l':=[(4,Ee s),(12,.ptr 1052 0),(13,.dptr [E0 y21.1]),(14,.dptr [E0 y21.2])]) (L':=[(1055,.spare 57 1 s21.length s21.length),(1052,.box 40 [OW 1055 1 (E1) s21])]) ⟨(by repeat' constructor),⟨⟨_,rfl,.same⟩,⟨_,rfl,.boxL rfl ⟨.same rfl,G⟩⟩,G⟩,rfl⟩ ?_
   obtain⟨r23,hr23,h⟩:=Gf h
   obtain⟨r25,hr25,h⟩:=Gf h
   obtain⟨ha26,h⟩:=Hz h
   refine Qt [4,6,8,9] [0,0,0,0,0,0,0,2,0,0] [2,0,0,0,0,1,0,2,0,0] [[(1055,.spare 57 1 s21.length s21.length),(1052,.box 40 [OW 1055 1 (E1) s21])],((1118,.vec 3 1 0 (r23.map G1))::[(1055,.spare 57 1 s21.length s21.length),(1052,.box 40 [OW 1055 1 (E1) s21])]),((1118,.vec 3 1 (0+1) (([]:List Int).map G1))::((1118,.vec 3 1 0 (r23.map G1))::[(1055,.spare 57 1 s21.length s21.length),(1052,.box 40 [OW 1055 1 (E1) s21])])),((1055,.spare 57 1 (s21++[r25]).length (s21++[r25]).length)::((1118,.vec 3 1 (0+1) (([]:List Int).map G1))::((1118,.vec 3 1 0 (r23.map G1))::[(1055,.spare 57 1 s21.length s21.length),(1052,.box 40 [OW 1055 1 (E1) s21])]))),((1052,.box 40 [OW 1055 1 (E1) (s21++[r25])])::((1055,.spare 57 1 (s21++[r25]).length (s21++[r25]).length)::((1118,.vec 3 1 (0+1) (([]:List Int).map G1))::((1118,.vec 3 1 0 (r23.map G1))::[(1055,.spare 57 1 s21.length s21.length),(1052,.box 40 [OW 1055 1 (E1) s21])]))))] Jr (by kernel_rfl) rfl rfl ?_
   refine Gm (u:=OW 1055 1 (E1) s21) O O ⟨Gs (Jv Gc6 O O O O) O,Gs (Jv Gc6 O O O O) O,Gs (Jv Gc6 O O O O) O,G⟩ (Gm (u:=.agg (Hc.cs s)) O O ⟨Gs (Gh J5 O O O) O,G⟩ (Gm (u:=E0 y21.1) O O ⟨Gs (Gk Y3 O O O) O,G⟩ (Gm (u:=E0 y21.2) O O ⟨Gs (Gk Y3 O O O) O,G⟩ (D_w (u:=.vec 1118 0 1 r23.length) O O O O (Gs (H4d (args:=[.agg (Hc.cs s),E0 y21.1,E0 y21.2]) (L0:=[]) (Lr:=[(1118,.vec 3 1 0 (r23.map G1))]) O (Qq.fresh0 (J39 F s y21.1 y21.2 r23 hr23)) Q08 ⟨.inl O,O,.inl O,O,.inl O,O,G⟩ G O O O) O) (Gm (u:=.fn 39 [.dptr [E0 y21.1],.dptr [E0 y21.2]]) O O ⟨Gs (R9 (cs:=[.dptr [E0 y21.1],.dptr [E0 y21.2]]) O O) O,Gs (R9 (cs:=[.dptr [E0 y21.1],.dptr [E0 y21.2]]) O O) O,G⟩ (D_w (u:=E1 r25) O O O O (G74.locEq (Gs (H4d (args:=[.vec 1118 0 1 r23.length,.fn 39 [.dptr [E0 y21.1],.dptr [E0 y21.2]]]) (L0:=[(1118,.vec 3 1 0 (r23.map G1))]) (Lr:=[(1118,.vec 3 1 (0+1) (([]:List Int).map G1))]) O (Qq.lentData (G6b F r23 0 (fun z0=>G1c z0 y21.1 y21.2) 39 [.dptr [E0 y21.1],.dptr [E0 y21.2]] Q07 O (fun z0 q hq=>Hbe z0 y21.1 y21.2 q hq) r25 hr25)) Q09 ⟨.inl O,O,.inl O,O,G⟩ ⟨O,G⟩ O O O) O) (Geb.of [1055,1052,1118] O O ⟨O,O,O,G⟩)) (Gm (u:=LS 1 (E1) [r25]) O O ⟨Gs (Hf (xs:=[E1 r25]) O ⟨O,O,G⟩ Gf8 J11 O O O O) O,G⟩ (D_w (u:=OW 1055 1 (E1) (s21++[r25])) O O O O (Gs (Q5 (f:=(E1)) (xs:=s21) (ys:=[r25]) O O O O Gf8 Je4 ha26 (fun _=>O) (.inl O) O) O) (J3e (u:=.junk) O O O O (Gs (H5 (u:=OW 1055 1 (E1) (s21++[r25])) (ds:=[OW 1055 1 (E1) (s21++[r25])]) Je2 O O O O O O O O) O) (Zu ?_))))))))))
   exact e21 _ _ (s21++[r25]) (app1 hn21 h) ⟨G,⟨⟨_,O,.same⟩,⟨_,O,.boxL O ⟨.same O,G⟩⟩,G⟩,O⟩
  ·
   intro s21 h
   rw [List.length_map] at h
   replace h:=app1 hkx21 (Hs h (Nat.lt_irrefl _))
   refine hK8 _ _ (G5 fun K27 hK27=>G3 (JLh (OW 1055 1 (E1) s21) (Jv Gc6 O O O O) O (JLh (OW 1055 1 (E1) s21) (Gb O O) O (JLh (G1 0) (Gb O O) O (G8 (hK27 _ _ (Re (l':=[(8,LS 1 (E1) s21),(9,G1 0)]) (L':=[(1052,.box 40 [LS 1 (E1) s21])]) ⟨⟨.list O,.same O,G⟩,⟨⟨_,O,.boxL O ⟨.list O,G⟩⟩,G⟩,O⟩ (Gq [(8,LS 1 (E1) s21),(9,G1 0)] [] 1052 rfl rfl rfl G rfl (by exact⟨.conv (.same rfl),.conv (.same rfl),G⟩) (Gx (⟨[LS 1 (E1) s21,G1 0],[],G,O,⟨⟨_,O,.conv (.same O)⟩,⟨_,O,.conv (.same O)⟩,G⟩,O,congrArg (fun r:(List (List Int))×Int=>(.tup [LS 1 (E1) r.1,G1 r.2]:AV)) (Option.some.inj h)⟩))))))))))
end
end Go.Proofs.YteoeccjboahfgaaGreat
