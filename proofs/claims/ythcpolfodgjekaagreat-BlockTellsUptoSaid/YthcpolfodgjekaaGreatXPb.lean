/-
 Models of functions of the program,and that they return what the models say.
-/
import Derived.Test.YthcpolfodgjekaaGreatXPa
set_option maxRecDepth 100000
set_option maxHeartbeats 1000000
set_option linter.unusedVariables false
set_option linter.unusedSimpArgs false
namespace Go.Proofs.YthcpolfodgjekaaGreat
open Go.RowKit
noncomputable section
open XAF
open XLF
open XCF
open XGF
open XHF
open XPF

def Zs (F:Nat) (s:H2):Option Bool:=
 bnd (Hz (s.Columns.length:Int) 1 200) fun r4=>
 bif ((!r4)||(decide (40 < (s.Covers.length:Int)))) then
 (some false)
 else
 (each (fun y8 i8 (s8:Unit) nx8=>
   bnd (Za y8) fun r14=>
   bif (!r14) then
   (some false)
   else
   (need (decide ((i8:Int)≤9223372036854775807)) <|
    upto (fun i34 (s34:Unit) nx34=>
     Qr s.Columns (i34:Int) fun y39=>
     bnd (bif decide (y39.Bay=y8.Bay) then Qr s.Columns (i34:Int) some else some default) fun y41=>
     bnd (bif ((decide (y39.Bay=y8.Bay))&&(decide (y41.Row=y8.Row))) then Qr s.Columns (i34:Int) some else some default) fun y42=>
     bif (((decide (y39.Bay=y8.Bay))&&(decide (y41.Row=y8.Row)))&&(y42.Deck==y8.Deck)) then
     (some false)
     else
     (nx34 ()))
    (fun(s34:Unit)=>
     nx8 ()) (i8:Int).toNat 0 ()))
  (fun(s8:Unit)=>
   each (fun y46 i46 (s46:Unit) nx46=>
    bnd (Hz y46.Bay 0 39) fun r53=>
    bif ((!r53)||(decide ((y46.Rows.length:Int)=0))) then
    (some false)
    else
    (each (fun y56 i56 (s56:Unit) nx56=>
      bnd (Hz y56 0 30) fun r62=>
      bnd (bif ((!(!r62))&&(decide (0 < (i56:Int)))) then G35 ((i56:Int) - 1) some else some 0) fun v63=>
      bnd (bif ((!(!r62))&&(decide (0 < (i56:Int)))) then Qr y46.Rows v63 some else some default) fun y64=>
      bif ((!r62)||((decide (0 < (i56:Int)))&&(decide (y56≤y64)))) then
      (some false)
      else
      (need (decide ((i46:Int)≤9223372036854775807)) <|
       upto (fun i84 (s84:Unit) nx84=>
        Qr s.Covers (i84:Int) fun y89=>
        bnd (bif decide (y89.Bay=y46.Bay) then Qr s.Covers (i84:Int) some else some default) fun y91=>
        bnd (bif decide (y89.Bay=y46.Bay) then Qf y91.Rows y56 else some default) fun r92=>
        bif ((decide (y89.Bay=y46.Bay))&&r92) then
        (some false)
        else
        (nx84 ()))
       (fun(s84:Unit)=>
        nx56 ()) (i46:Int).toNat 0 ()))
     (fun(s56:Unit)=>
      nx46 ()) y46.Rows 0 ()))
   (fun(s46:Unit)=>
    some true) s.Covers 0 ()) s.Columns 0 ())
abbrev K0 (s:H2):List AV:=[E5 s.Covers,G0 s.Light.Kilos,G0 s.Light.X,G0 s.Light.Y,G0 s.Light.Z,E7 s.Rows,E6 s.Frames,E8 s.Tanks,G0 s.G2.Tolerance,G0 s.G2.Trim,G0 s.G2.List_,G0 s.G2.Stability]
theorem H6e (F:Nat) (s:H2) (r:Bool) (h:Zs F s=some r):Pure Ej 73 [.agg (H2.cs s)] (·=BL r):=by
 unfold Zs at h
 refine Gx [.tmp 2] Tryz.func73 O O (Jr fun hK1=>(JLh (.ptr 1113 0) (Ja (cs:=(H2.cs s)) 1113 O O O O O) O (G57 (BL false) O (G8 (hK1 (Gu [(1,Eb s)] [] 1113 rfl rfl rfl G rfl (by exact⟨.ptr,G⟩) (Js fun hK2=>?_)))))))
 refine Jr fun hK3=>(JLh (Eb s) (Ga Hj O O O) O (JLh (E4 s.Columns) (Gf Ht O O O) O (JLl H5 O O O fun hm11=>?_)))
 obtain⟨r4,hr4,h⟩:=Ge h
 refine JLh (BL r4) (Gk O (J8 (s.Columns.length:Int) 1 200 r4 hr4) Z7 ⟨O,O,O,O,O,O,G⟩) O (JLh (BL (!r4)) (Qh (b:=r4) O O) O (G57 (BL (!r4)) O (JLo (.dptr (K0 s)) [] O .scf G (fun hc=>Ga Jk O O O) O (JLo (E5 s.Covers) [15] O .scf ⟨Ua,G⟩ (fun hc=>Gf Q4 O O O) O (JLo (Ei s.Covers.length) [16] O .scf ⟨Ua,G⟩ (fun hc=>Qw (f:=G9.av) (xs:=s.Covers) Hr O O) O (JLo (BL (decide (40 < (s.Covers.length:Int)))) [17] O .scf ⟨Ua,G⟩ (fun hc=>G3d O O O) O (JLh (BL ((!r4)||(decide (40 < (s.Covers.length:Int))))) (Yc O O O O) O (G8 (hK3 ?_)))))))))
 refine JCc O h ?_ ?_<;>intro h hb
 ·
  refine Jr fun hK5=>(G57 (BL false) O (G8 (hK5 (Gr (fin1 BL h)))))
 ·
  refine Gn (hK2 (Js fun hK6=>Jr fun hK7=>(G57 (G0 0) O (G8 (hK7 (Gp ?_))))))
  obtain⟨b8,kx8,hb8,hkx8,h⟩:=Hx h
  refine He (fun i8 (s8:Unit)=>each b8 kx8 (List.drop i8 s.Columns) i8 s8=some r) (fun i8 s8=>[(1,Eb s),(3,Ei i8)]) (fun i8 s8=>[]) (fun i8=>s.Columns.length - i8) 0 () h ⟨(.sm O O),G,O⟩ ?_
  clear h
  intro i8 s8 hi8 K8 e8
  refine Js fun hK9=>Jr fun hK10=>(G57 (Ei i8) O (JLh (Eb s) (Ga Hj O O O) O (JLh (E4 s.Columns) (Gf Ht O O O) O (JLl H5 O O O fun hm23=>(JLh (BL (decide ((i8:Int) < (s.Columns.length:Int)))) (J1 O O O) O (G8 (hK10 (Gm O (fun hb=>?_) (fun hb=>?_)))))))))
  ·
   have hk8:=Jc hb
   obtain⟨y8,nx8,hy8,hn8,h⟩:=Hm hi8 hk8
   replace h:=Rn hb8 h
   refine Gn (hK9 (Js fun hK11=>Gp (Js fun hK12=>Jr fun hK13=>(JLh (Eb s) (Ga Hj O O O) O (JLh (E4 s.Columns) (Gf Ht O O O) O (G57 (Ei i8) O (JLh (Ed y8) (Gw (f:=G4.av) (xs:=s.Columns) (y:=y8) O O O H5 hy8 O) O (JLh (.agg (G4.cs y8)) (Gj Rq O O O) O ?_))))))))
   obtain⟨r14,hr14,h⟩:=Ge h
   refine JLh (BL r14) (Gk O (H49 y8 r14 hr14) Q6a ⟨O,O,G⟩) O (JLh (BL (!r14)) (Qh (b:=r14) O O) O (G8 (hK13 (JCc O h (fun h hb=>?_) (fun h hb=>?_)))))
   ·
    refine Jr fun hK15=>(G57 (BL false) O (G8 (hK15 (Gr (fin1 BL h)))))
   ·
    refine Gn (hK12 (Jr fun hK16=>(G57 (G0 0) O (G8 (hK16 (Gp ?_))))))
    obtain⟨hx34,h⟩:=Hv h
    obtain⟨b34,kx34,hb34,hkx34,h⟩:=G8e h
    refine He (fun i34 (s34:Unit)=>upto b34 kx34 ((i8:Int).toNat - i34) i34 s34=some r) (fun i34 s34=>[(1,Eb s),(3,Ei i8),(4,Ei i34)]) (fun i34 s34=>[]) (fun i34=>(i8:Int).toNat - i34) 0 () h ⟨(.sm O O),G,O⟩ ?_
    clear h
    intro i34 s34 hi34 K34 e34
    refine Js fun hK35=>Jr fun hK36=>(G57 (Ei i34) O (G57 (Ei i8) O (JLh (BL (decide ((i34:Int) < (i8:Int)))) (J1 O O O) O (G8 (hK36 (Gm O (fun hb=>?_) (fun hb=>?_)))))))
    ·
     have hk34:=G5e hb
     obtain⟨nx34,hn34,h⟩:=G59 hi34 hk34
     replace h:=Hfc hb34 h
     refine Gn (hK35 (Js fun hK37=>Gp (Js fun hK38=>?_)))
     obtain⟨m40,y39,hm40,hy39,h⟩:=R2 h
     obtain⟨y41,hy41,h⟩:=Ge h
     obtain⟨y42,hy42,h⟩:=Ge h
     refine JC_d0 Jg (by kernel_rfl) (Dq (Eb s) (Ga Hj O O O) O (Dq (E4 s.Columns) (Gf Ht O O O) O (Dq (Ei i34) (G5 O O) O (Dq (Ed y39) (Gw (f:=G4.av) (xs:=s.Columns) (y:=y39) O O O H5 hy39 hm40) O (Dq (Ed y39) (Ga G0f O O O) O (Dq (G0 y39.Bay) (Gf Gc O O O) O (Dq (Eb s) (Ga Hj O O O) O (Dq (E4 s.Columns) (Gf Ht O O O) O (Dq (Ei i8) (G5 O O) O (Dq (Ed y8) (Gw (f:=G4.av) (xs:=s.Columns) (y:=y8) O O O H5 hy8 O) O (Dq (Ed y8) (Ga G0f O O O) O (Dq (G0 y8.Bay) (Gf Gc O O O) O (Dq (BL (decide (y39.Bay=y8.Bay))) (Jx O O O) O ?_)))))))))))))
     refine Dq (BL (decide (y39.Bay=y8.Bay))) (G5 O O) O (Do (Eb s) [] O .sct G (fun hc=>Ga Hj O O O) O (Do (E4 s.Columns) [53] O .sct ⟨Ua,G⟩ (fun hc=>Gf Ht O O O) O (Do (Ei i34) [] O .sct G (fun hc=>G5 O O) O (Do (Ed y41) [54,55] O .sct ⟨Ua,Ua,G⟩ (fun hc=>(match Qa (Gy hc hy41) with | ⟨_,hm_,hy_⟩=>Gw (f:=G4.av) (xs:=s.Columns) (y:=y41) O O O H5 hy_ hm_)) O (Do (.dptr ((G4.cs y41).drop 1)) [56] O .sct ⟨Ua,G⟩ (fun hc=>Ga G0e O O O) O (Do (G0 y41.Row) [57] O .sct ⟨Ua,G⟩ (fun hc=>Gf Gc O O O) O (Do (Eb s) [] O .sct G (fun hc=>Ga Hj O O O) O (Do (E4 s.Columns) [59] O .sct ⟨Ua,G⟩ (fun hc=>Gf Ht O O O) O (Do (Ei i8) [] O .sct G (fun hc=>G5 O O) O (Do (Ed y8) [60,61] O .sct ⟨Ua,Ua,G⟩ (fun hc=>Gw (f:=G4.av) (xs:=s.Columns) (y:=y8) O O O H5 hy8 O) O (Do (.dptr ((G4.cs y8).drop 1)) [62] O .sct ⟨Ua,G⟩ (fun hc=>Ga G0e O O O) O (Do (G0 y8.Row) [63] O .sct ⟨Ua,G⟩ (fun hc=>Gf Gc O O O) O (Do (BL (decide (y41.Row=y8.Row))) [58,64] O .sct ⟨Ua,Ua,G⟩ (fun hc=>Jx O O O) O ?_)))))))))))))
     refine Dq (BL ((decide (y39.Bay=y8.Bay))&&(decide (y41.Row=y8.Row)))) (J5 O O O O) O (Dq (BL ((decide (y39.Bay=y8.Bay))&&(decide (y41.Row=y8.Row)))) (G5 O O) O (Do (Eb s) [] O .sct G (fun hc=>Ga Hj O O O) O (Do (E4 s.Columns) [68] O .sct ⟨Ua,G⟩ (fun hc=>Gf Ht O O O) O (Do (Ei i34) [] O .sct G (fun hc=>G5 O O) O (Do (Ed y42) [69,70] O .sct ⟨Ua,Ua,G⟩ (fun hc=>(match Qa (Gy hc hy42) with | ⟨_,hm_,hy_⟩=>Gw (f:=G4.av) (xs:=s.Columns) (y:=y42) O O O H5 hy_ hm_)) O (Do (.dptr ((G4.cs y42).drop 2)) [71] O .sct ⟨Ua,G⟩ (fun hc=>Ga Yw O O O) O (Do (BL y42.Deck) [72] O .sct ⟨Ua,G⟩ (fun hc=>Gf Ra O O O) O (Do (Eb s) [] O .sct G (fun hc=>Ga Hj O O O) O (Do (E4 s.Columns) [74] O .sct ⟨Ua,G⟩ (fun hc=>Gf Ht O O O) O (Do (Ei i8) [] O .sct G (fun hc=>G5 O O) O (Do (Ed y8) [75,76] O .sct ⟨Ua,Ua,G⟩ (fun hc=>Gw (f:=G4.av) (xs:=s.Columns) (y:=y8) O O O H5 hy8 O) O (Do (.dptr ((G4.cs y8).drop 2)) [77] O .sct ⟨Ua,G⟩ (fun hc=>Ga Yw O O O) O (Do (BL y8.Deck) [78] O .sct ⟨Ua,G⟩ (fun hc=>Gf Ra O O O) O ?_)))))))))))))
     refine Do (BL (y42.Deck==y8.Deck)) [73,79] O .sct ⟨Ua,Ua,G⟩ (fun hc=>J5c He7 O O O) O (Dq (BL (((decide (y39.Bay=y8.Bay))&&(decide (y41.Row=y8.Row)))&&(y42.Deck==y8.Deck))) (J5 O O O O) O (Dnil (hK38 (JCc O h (fun h hb=>?_) (fun h hb=>?_)))))
     ·
      refine Jr fun hK43=>(G57 (BL false) O (G8 (hK43 (Gr (fin1 BL h)))))
     ·
      refine Gn (hK37 (G3 (G57 (Ei i34) O (JLh (G0 ((i34+1:Nat):Int)) (Hu (Hc hk34 (G32 hx34)) O O O) O (G57 (G0 ((i34+1:Nat):Int)) O (G8 (e34 _ _ (i34+1) () (app1 hn34 h) (by omega) ⟨(.sm O O),G,rfl⟩)))))))
    ·
     have h:=app1 hkx34 (G5a hi34 (Yg hb))
     refine Hk (hK11 (G3 (G57 (Ei i8) O (JLh (G0 ((i8+1:Nat):Int)) (Hu (Hc hk8 hm23) O O O) O (G57 (G0 ((i8+1:Nat):Int)) O (G8 (e8 _ _ (i8+1) () (app1 hn8 h) (by omega) ⟨(.sm O O),G,rfl⟩)))))))
  ·
   have h:=app1 hkx8 (Hn hi8 (H6 hb))
   refine Hk (hK6 (Js fun hK44=>Jr fun hK45=>(G57 (G0 0) O (G8 (hK45 (Gp ?_))))))
   obtain⟨b46,kx46,hb46,hkx46,h⟩:=Hx h
   refine He (fun i46 (s46:Unit)=>each b46 kx46 (List.drop i46 s.Covers) i46 s46=some r) (fun i46 s46=>[(1,Eb s),(5,Ei i46)]) (fun i46 s46=>[]) (fun i46=>s.Covers.length - i46) 0 () h ⟨(.sm O O),G,O⟩ ?_
   clear h
   intro i46 s46 hi46 K46 e46
   refine Js fun hK47=>Jr fun hK48=>(G57 (Ei i46) O (JLh (.dptr (K0 s)) (Ga Jk O O O) O (JLh (E5 s.Covers) (Gf Q4 O O O) O (JLl Hr O O O fun hm85=>(JLh (BL (decide ((i46:Int) < (s.Covers.length:Int)))) (J1 O O O) O (G8 (hK48 (Gm O (fun hb=>?_) (fun hb=>?_)))))))))
   ·
    have hk46:=Jc hb
    obtain⟨y46,nx46,hy46,hn46,h⟩:=Hm hi46 hk46
    replace h:=Rn hb46 h
    refine Gn (hK47 (Js fun hK49=>Gp (Jr fun hK50=>(JLh (.dptr (K0 s)) (Ga Jk O O O) O (JLh (E5 s.Covers) (Gf Q4 O O O) O (G57 (Ei i46) O (JLh (.dptr [G0 y46.Bay,E1 y46.Rows]) (Gw (f:=G9.av) (xs:=s.Covers) (y:=y46) O O O Hr hy46 O) O (JLh (.agg [G0 y46.Bay,E1 y46.Rows]) (Gj Ye O O O) O (JLh (.ptr 1114 0) (Ju 1114 2 G65 O O) O (Jf (u:=.junk) (J2 (u:=.agg [G0 y46.Bay,E1 y46.Rows]) (ds:=[G0 y46.Bay,E1 y46.Rows]) Gb4 O O O O O O O O) (G8 (hK50 ?_))))))))))))
    refine Gu [(1,Eb s),(5,Ei i46),(6,.dptr [G0 y46.Bay,E1 y46.Rows])] [] 1114 rfl rfl rfl G rfl (by exact⟨.conv (.same rfl),.conv (.same rfl),.ptr,G⟩) (Js fun hK51=>Jr fun hK52=>(JLh (.dptr [G0 y46.Bay,E1 y46.Rows]) (Ga Zk O O O) O (JLh (G0 y46.Bay) (Gf Gc O O O) O ?_)))
    obtain⟨r53,hr53,h⟩:=Ge h
    refine JLh (BL r53) (Gk O (J8 y46.Bay 0 39 r53 hr53) Z7 ⟨O,O,O,O,O,O,G⟩) O (JLh (BL (!r53)) (Qh (b:=r53) O O) O (G57 (BL (!r53)) O (JLo (.dptr [E1 y46.Rows]) [] O .scf G (fun hc=>Ga Q8 O O O) O (JLo (E1 y46.Rows) [99] O .scf ⟨Ua,G⟩ (fun hc=>Gf Hy O O O) O (JLo (Ei y46.Rows.length) [100] O .scf ⟨Ua,G⟩ (fun hc=>Qw (f:=G0) (xs:=y46.Rows) Gq O O) O (JLo (BL (decide ((y46.Rows.length:Int)=0))) [101] O .scf ⟨Ua,G⟩ (fun hc=>Jx O O O) O (JLh (BL ((!r53)||(decide ((y46.Rows.length:Int)=0)))) (Yc O O O O) O (G8 (hK52 (JCc O h (fun h hb=>?_) (fun h hb=>?_)))))))))))
    ·
     refine Jr fun hK54=>(G57 (BL false) O (G8 (hK54 (Gr (fin1 BL h)))))
    ·
     refine Gn (hK51 (Jr fun hK55=>(G57 (G0 0) O (G8 (hK55 (Gp ?_))))))
     obtain⟨b56,kx56,hb56,hkx56,h⟩:=Hx h
     refine He (fun i56 (s56:Unit)=>each b56 kx56 (List.drop i56 y46.Rows) i56 s56=some r) (fun i56 s56=>[(1,Eb s),(5,Ei i46),(6,.dptr [G0 y46.Bay,E1 y46.Rows]),(7,Ei i56)]) (fun i56 s56=>[]) (fun i56=>y46.Rows.length - i56) 0 () h ⟨(.sm O O),G,rfl⟩ ?_
     clear h
     intro i56 s56 hi56 K56 e56
     refine Js fun hK57=>Jr fun hK58=>(G57 (Ei i56) O (JLh (.dptr [E1 y46.Rows]) (Ga Q8 O O O) O (JLh (E1 y46.Rows) (Gf Hy O O O) O (JLl Gq O O O fun hm107=>(JLh (BL (decide ((i56:Int) < (y46.Rows.length:Int)))) (J1 O O O) O (G8 (hK58 (Gm O (fun hb=>?_) (fun hb=>?_)))))))))
     ·
      have hk56:=Jc hb
      obtain⟨y56,nx56,hy56,hn56,h⟩:=Hm hi56 hk56
      replace h:=Rn hb56 h
      refine Gn (hK57 (Js fun hK59=>Gp (Js fun hK60=>Js fun hK61=>?_)))
      obtain⟨r62,hr62,h⟩:=Ge h
      obtain⟨v63,hv63,h⟩:=Ge h
      obtain⟨y64,hy64,h⟩:=Ge h
      refine JC_d0 Jg (by kernel_rfl) (Dq (.dptr [E1 y46.Rows]) (Ga Q8 O O O) O (Dq (E1 y46.Rows) (Gf Hy O O O) O (Dq (Ei i56) (G5 O O) O (Dq (.dptr [G0 y56]) (Gw (f:=G0) (xs:=y46.Rows) (y:=y56) O O O Gq hy56 O) O (Dq (G0 y56) (Gf Gc O O O) O (Dq (BL r62) (Gk (args:=[G0 y56,G0 0,G0 30]) O (J8 y56 0 30 r62 hr62) Z7 ⟨O,O,O,O,O,O,G⟩) O (Dq (BL (!r62)) (Qh (b:=r62) O O) O (Dq (BL (!r62)) (G5 O O) O (Do (Ei i56) [] O .scf G (fun hc=>G5 O O) O (Do (BL (decide (0 < (i56:Int)))) [119] O .scf ⟨Ua,G⟩ (fun hc=>G3d O O O) O (Do (BL (decide (0 < (i56:Int)))) [120] O .scf ⟨Ua,G⟩ (fun hc=>G5 O O) O (Do (.dptr [E1 y46.Rows]) [] O .optt G (fun hc=>Ga Q8 O O O) O (Do (E1 y46.Rows) [122] O .optt ⟨Ua,G⟩ (fun hc=>Gf Hy O O O) O ?_)))))))))))))
      refine Do (Ei i56) [] O .optt G (fun hc=>G5 O O) O (Do (G0 v63) [124] O .optt ⟨Ua,G⟩ (fun hc=>Gd4 (G25 (Gy hc hv63)) O O O) O (Do (.dptr [G0 y64]) [123,125] O .optt ⟨Ua,Ua,G⟩ (fun hc=>(match Qa (Gy hc hy64) with | ⟨_,hm_,hy_⟩=>Gw (f:=G0) (xs:=y46.Rows) (y:=y64) O O O Gq hy_ hm_)) O (Do (G0 y64) [126] O .optt ⟨Ua,G⟩ (fun hc=>Gf Gc O O O) O (Do (.dptr [E1 y46.Rows]) [] O .optt G (fun hc=>Ga Q8 O O O) O (Do (E1 y46.Rows) [128] O .optt ⟨Ua,G⟩ (fun hc=>Gf Hy O O O) O (Do (Ei i56) [] O .optt G (fun hc=>G5 O O) O (Do (.dptr [G0 y56]) [129,130] O .optt ⟨Ua,Ua,G⟩ (fun hc=>Gw (f:=G0) (xs:=y46.Rows) (y:=y56) O O O Gq hy56 O) O (Do (G0 y56) [131] O .optt ⟨Ua,G⟩ (fun hc=>Gf Gc O O O) O (Do (BL (decide (y56≤y64))) [127,132] O .optt ⟨Ua,Ua,G⟩ (fun hc=>G31 O O O) O (Dg (.opt (!(!r62)) (BL ((decide (0 < (i56:Int)))&&(decide (y56≤y64))))) (Gi [(121,BL (decide (0 < (i56:Int)))),(133,_)] O O O .scf ⟨.all id,.part,G⟩ (fun hc=>J5 O O O O) O) O (Dq (BL ((!r62)||((decide (0 < (i56:Int)))&&(decide (y56≤y64))))) (Yc O O O O) O (Dnil ?_))))))))))))
      refine hK61 (JCc O h (fun h hb=>?_) (fun h hb=>?_))
      ·
       refine Jr fun hK65=>(G57 (BL false) O (G8 (hK65 (Gr (fin1 BL h)))))
      ·
       refine Gn (hK60 (Jr fun hK66=>(G57 (G0 0) O (G8 (hK66 (Gp ?_))))))
       obtain⟨hx84,h⟩:=Hv h
       obtain⟨b84,kx84,hb84,hkx84,h⟩:=G8e h
       refine He (fun i84 (s84:Unit)=>upto b84 kx84 ((i46:Int).toNat - i84) i84 s84=some r) (fun i84 s84=>[(1,Eb s),(5,Ei i46),(6,.dptr [G0 y46.Bay,E1 y46.Rows]),(7,Ei i56),(8,Ei i84)]) (fun i84 s84=>[]) (fun i84=>(i46:Int).toNat - i84) 0 () h ⟨(.sm O O),G,rfl⟩ ?_
       clear h
       intro i84 s84 hi84 K84 e84
       refine Js fun hK85=>Jr fun hK86=>(G57 (Ei i84) O (G57 (Ei i46) O (JLh (BL (decide ((i84:Int) < (i46:Int)))) (J1 O O O) O (G8 (hK86 (Gm O (fun hb=>?_) (fun hb=>?_)))))))
       ·
        have hk84:=G5e hb
        obtain⟨nx84,hn84,h⟩:=G59 hi84 hk84
        replace h:=Hfc hb84 h
        refine Gn (hK85 (Js fun hK87=>Gp (Js fun hK88=>?_)))
        obtain⟨m90,y89,hm90,hy89,h⟩:=R2 h
        obtain⟨y91,hy91,h⟩:=Ge h
        obtain⟨r92,hr92,h⟩:=Ge h
        refine JC_d0 Jg (by kernel_rfl) (Dq (.dptr (K0 s)) (Ga Jk O O O) O (Dq (E5 s.Covers) (Gf Q4 O O O) O (Dq (Ei i84) (G5 O O) O (Dq (.dptr [G0 y89.Bay,E1 y89.Rows]) (Gw (f:=G9.av) (xs:=s.Covers) (y:=y89) O O O Hr hy89 hm90) O (Dq (.dptr [G0 y89.Bay,E1 y89.Rows]) (Ga Zk O O O) O (Dq (G0 y89.Bay) (Gf Gc O O O) O (Dq (.dptr [G0 y46.Bay,E1 y46.Rows]) (Ga Zk O O O) O (Dq (G0 y46.Bay) (Gf Gc O O O) O (Dq (BL (decide (y89.Bay=y46.Bay))) (Jx O O O) O (Dq (BL (decide (y89.Bay=y46.Bay))) (G5 O O) O (Do (.dptr (K0 s)) [] O .sct G (fun hc=>Ga Jk O O O) O (Do (E5 s.Covers) [151] O .sct ⟨Ua,G⟩ (fun hc=>Gf Q4 O O O) O (Do (Ei i84) [] O .sct G (fun hc=>G5 O O) O ?_)))))))))))))
        refine Do (.dptr [G0 y91.Bay,E1 y91.Rows]) [152,153] O .sct ⟨Ua,Ua,G⟩ (fun hc=>(match Qa (Gy hc hy91) with | ⟨_,hm_,hy_⟩=>Gw (f:=G9.av) (xs:=s.Covers) (y:=y91) O O O Hr hy_ hm_)) O (Do (.dptr [E1 y91.Rows]) [154] O .sct ⟨Ua,G⟩ (fun hc=>Ga Q8 O O O) O (Do (E1 y91.Rows) [155] O .sct ⟨Ua,G⟩ (fun hc=>Gf Hy O O O) O (Do (.dptr [E1 y46.Rows]) [] O .sct G (fun hc=>Ga Q8 O O O) O (Do (E1 y46.Rows) [157] O .sct ⟨Ua,G⟩ (fun hc=>Gf Hy O O O) O (Do (Ei i56) [] O .sct G (fun hc=>G5 O O) O (Do (.dptr [G0 y56]) [158,159] O .sct ⟨Ua,Ua,G⟩ (fun hc=>Gw (f:=G0) (xs:=y46.Rows) (y:=y56) O O O Gq hy56 O) O (Do (G0 y56) [160] O .sct ⟨Ua,G⟩ (fun hc=>Gf Gc O O O) O (Do (BL r92) [156,161] O .sct ⟨Ua,Ua,G⟩ (fun hc=>Gk (args:=[E1 y91.Rows,G0 y56]) O (G9e y91.Rows y56 r92 (Gy hc hr92)) J8d ⟨O,O,O,O,G⟩) O (Dq (BL ((decide (y89.Bay=y46.Bay))&&r92)) (J5 O O O O) O (Dnil ?_))))))))))
        refine hK88 (JCc O h (fun h hb=>?_) (fun h hb=>?_))
        ·
         refine Jr fun hK93=>(G57 (BL false) O (G8 (hK93 (Gr (fin1 BL h)))))
        ·
         refine Gn (hK87 (G3 (G57 (Ei i84) O (JLh (G0 ((i84+1:Nat):Int)) (Hu (Hc hk84 (G32 hx84)) O O O) O (G57 (G0 ((i84+1:Nat):Int)) O (G8 (e84 _ _ (i84+1) () (app1 hn84 h) (by omega) ⟨(.sm O O),G,rfl⟩)))))))
       ·
        have h:=app1 hkx84 (G5a hi84 (Yg hb))
        refine Hk (hK59 (G3 (G57 (Ei i56) O (JLh (G0 ((i56+1:Nat):Int)) (Hu (Hc hk56 hm107) O O O) O (G57 (G0 ((i56+1:Nat):Int)) O (G8 (e56 _ _ (i56+1) () (app1 hn56 h) (by omega) ⟨(.sm O O),G,rfl⟩)))))))
     ·
      have h:=app1 hkx56 (Hn hi56 (H6 hb))
      refine Hk (hK49 (G3 (G57 (Ei i46) O (JLh (G0 ((i46+1:Nat):Int)) (Hu (Hc hk46 hm85) O O O) O (G57 (G0 ((i46+1:Nat):Int)) O (G8 (e46 _ _ (i46+1) () (app1 hn46 h) (by omega) ⟨(.sm O O),G,rfl⟩)))))))
   ·
    have h:=app1 hkx46 (Hn hi46 (H6 hb))
    refine Hk (hK44 (Jr fun hK94=>(G57 (BL true) O (G8 (hK94 (Gr (fin1 BL h)))))))

def Rx (boxes:List Gg) (id_:Int):Option (Gg×Bool):=
 each (fun y21 i21 (s21:Unit) nx21=>
  bif decide (y21.ID=id_) then
  (some (y21,true))
  else
  (nx21 ()))
 (fun(s21:Unit)=>
  some ((Gg.mk 0 ByteArray.empty 0 false 0 0 0 0 false),false)) boxes 0 ()
theorem G5f (boxes:List Gg) (id_:Int) (r:Gg×Bool) (h:Rx boxes id_=some r):Pure Ej 51 [E3 boxes,G0 id_] (·=.tup [.agg (Gg.cs r.1),BL r.2]):=by
 unfold Rx at h
 refine Gx [.cell 4 69,.tmp 5] Tryz.func51 O O (Jr fun hK1=>(JLh (.ptr 1086 0) (G1d 1086 [G0 0,ST ByteArray.empty,U8 0,BL false,G0 0,G0 0,G0 0,U8 0,BL false] [E0,.string ByteArray.empty,.int .u8 0,.bool false,E0,E0,E0,.int .u8 0,.bool false] G05 ⟨.inl O,.inl O,.inl O,.inl O,.inl O,.inl O,.inl O,.inl O,.inl O,G⟩ O O) O (G57 (BL false) O (G8 (hK1 (Js fun hK2=>Jr fun hK3=>(G57 (G0 0) O (G8 (hK3 (Gp ?_))))))))))
 obtain⟨b21,kx21,hb21,hkx21,h⟩:=Hx h
 refine He (fun i21 (s21:Unit)=>each b21 kx21 (List.drop i21 boxes) i21 s21=some r) (fun i21 s21=>[(0,E3 boxes),(1,G0 id_),(4,.ptr 1086 0),(6,Ei i21)]) (fun i21 s21=>[(1086,.box 69 [G0 0,ST ByteArray.empty,U8 0,BL false,G0 0,G0 0,G0 0,U8 0,BL false])]) (fun i21=>boxes.length - i21) 0 () h ⟨(.sm O O),⟨⟨_,rfl,.boxL rfl (.sm O O)⟩,G⟩,rfl⟩ ?_
 clear h
 intro i21 s21 hi21 K21 e21
 refine Js fun hK22=>Jr fun hK23=>(G57 (Ei i21) O (G57 (E3 boxes) O (JLl Jv O O O fun hm9=>(JLh (BL (decide ((i21:Int) < (boxes.length:Int)))) (J1 O O O) O (G8 (hK23 (Gm O (fun hb=>?_) (fun hb=>?_))))))))
 ·
  have hk21:=Jc hb
  obtain⟨y21,nx21,hy21,hn21,h⟩:=Hm hi21 hk21
  replace h:=Rn hb21 h
  refine Gn (hK22 (Js fun hK24=>Gp (Jr fun hK25=>(G57 (E3 boxes) O (G57 (Ei i21) O (JLh (Ee y21) (Gw (f:=Gg.av) (xs:=boxes) (y:=y21) O O O Jv hy21 O) O (JLh (Ee y21) (Ga H67 O O O) O (JLh (G0 y21.ID) (Gf Gc O O O) O (G57 (G0 id_) O (JLh (BL (decide (y21.ID=id_))) (Jx O O O) O (G8 (hK25 (JCc O h (fun h hb=>?_) (fun h hb=>?_))))))))))))))
  ·
   refine Jr fun hK26=>(G57 (E3 boxes) O (G57 (Ei i21) O (JLh (Ee y21) (Gw (f:=Gg.av) (xs:=boxes) (y:=y21) O O O Jv hy21 O) O (JLh (.agg (Gg.cs y21)) (Gj G33 O O O) O (Jf (u:=.junk) (J2 (u:=.agg (Gg.cs y21)) (ds:=(Gg.cs y21)) G06 O O O O O O O O) (G57 (BL true) O (G8 (hK26 (Gr (⟨[.agg (Gg.cs y21),BL true],[],G,O,⟨⟨_,⟨_,_,_,_,O,O,O,.inl ⟨G33,O⟩⟩,.conv (.same O)⟩,⟨_,O,.conv (.same O)⟩,G⟩,O,congrArg (fun r:Gg×Bool=>(.tup [.agg (Gg.cs r.1),BL r.2]:AV)) (Option.some.inj h)⟩))))))))))
  ·
   refine Gn (hK24 (G3 (G57 (Ei i21) O (JLh (G0 ((i21+1:Nat):Int)) (Hu (Hc hk21 hm9) O O O) O (G57 (G0 ((i21+1:Nat):Int)) O (G8 (e21 _ _ (i21+1) () (app1 hn21 h) (by omega) ⟨(.sm O O),⟨⟨_,rfl,.boxL rfl (.sm O O)⟩,G⟩,rfl⟩)))))))
 ·
  have h:=app1 hkx21 (Hn hi21 (H6 hb))
  refine Hk (hK2 ?_)
  refine Jr fun hK27=>(JLh (.agg [G0 0,ST ByteArray.empty,U8 0,BL false,G0 0,G0 0,G0 0,U8 0,BL false]) (Jj (cs:=[G0 0,ST ByteArray.empty,U8 0,BL false,G0 0,G0 0,G0 0,U8 0,BL false]) [(0,1),(1,1),(2,1),(3,1),(4,1),(5,1),(6,1),(7,1),(8,1)] [G0 0,ST ByteArray.empty,U8 0,BL false,G0 0,G0 0,G0 0,U8 0,BL false] [E0,.string ByteArray.empty,.int .u8 0,.bool false,E0,E0,E0,.int .u8 0,.bool false] G0d G05 ⟨.inl O,.inl O,.inl O,.inl O,.inl O,.inl O,.inl O,.inl O,.inl O,G⟩ O O) O (Jf (u:=.junk) (J2 (u:=.agg [G0 0,ST ByteArray.empty,U8 0,BL false,G0 0,G0 0,G0 0,U8 0,BL false]) (ds:=[G0 0,ST ByteArray.empty,U8 0,BL false,G0 0,G0 0,G0 0,U8 0,BL false]) G06 O O O O O O O O) (G57 (BL false) O (G8 (hK27 ?_)))))
  refine Gr (⟨[.agg [G0 0,ST ByteArray.empty,U8 0,BL false,G0 0,G0 0,G0 0,U8 0,BL false],BL false],[],G,O,⟨⟨_,⟨_,_,_,_,O,O,O,.inl ⟨G33,O⟩⟩,.conv (.same O)⟩,⟨_,O,.conv (.same O)⟩,G⟩,O,congrArg (fun r:Gg×Bool=>(.tup [.agg (Gg.cs r.1),BL r.2]:AV)) (Option.some.inj h)⟩)

def Zr (s:H2) (x:Slot) (size:Int):Option Bool:=
 bnd (bif (!(((decide (x.G4 < 0))||(decide ((s.Columns.length:Int)≤x.G4)))||(decide (x.Tier < 0)))) then Qr s.Columns x.G4 some else some default) fun y4=>
 bif ((((decide (x.G4 < 0))||(decide ((s.Columns.length:Int)≤x.G4)))||(decide (x.Tier < 0)))||(decide (y4.Tiers≤x.Tier))) then
 (some false)
 else
 (some (((decide (size=40))&&(decide (x.Half=0)))||((decide (size=20))&&((decide (x.Half=1))||(decide (x.Half=2))))))
theorem H6d (s:H2) (x:Slot) (size:Int) (r:Bool) (h:Zr s x size=some r):Pure Ej 74 [.agg (H2.cs s),.agg [G0 x.G4,G0 x.Tier,U8 x.Half],G0 size] (·=BL r):=by
 unfold Zr at h
 refine Gx [.tmp 6] Tryz.func74 O O (Jr fun hK1=>(JLh (.ptr 1115 0) (Ja (cs:=(H2.cs s)) 1115 O O O O O) O (JLh (.ptr 1116 0) (Ja (cs:=[G0 x.G4,G0 x.Tier,U8 x.Half]) 1116 O O O O O) O (G57 (BL false) O (G8 (hK1 ?_))))))
 refine Gu [(2,G0 size),(3,Eb s),(4,.ptr 1116 0)] [(1116,.box 71 [G0 x.G4,G0 x.Tier,U8 x.Half])] 1115 rfl rfl rfl ⟨⟨_,rfl,.boxEq rfl rfl⟩,G⟩ rfl (by exact⟨.conv (.same rfl),.ptr,.conv (.same rfl),G⟩) ?_
 refine Gu [(2,G0 size),(3,Eb s),(4,.dptr [G0 x.G4,G0 x.Tier,U8 x.Half])] [] 1116 rfl rfl rfl G rfl (by exact⟨.conv (.same rfl),.conv (.same rfl),.ptr,G⟩) (Js fun hK2=>Js fun hK3=>?_)
 obtain⟨y4,hy4,h⟩:=Ge h
 refine JC_d0 Jg (by kernel_rfl) (Dq (.dptr [G0 x.G4,G0 x.Tier,U8 x.Half]) (Ga Jb O O O) O (Dq (G0 x.G4) (Gf Gc O O O) O (Dq (BL (decide (x.G4 < 0))) (J1 O O O) O (Dq (BL (decide (x.G4 < 0))) (G5 O O) O (Do (.dptr [G0 x.G4,G0 x.Tier,U8 x.Half]) [] O .scf G (fun hc=>Ga Jb O O O) O (Do (G0 x.G4) [11] O .scf ⟨Ua,G⟩ (fun hc=>Gf Gc O O O) O (Do (Eb s) [] O .scf G (fun hc=>Ga Hj O O O) O (Do (E4 s.Columns) [13] O .scf ⟨Ua,G⟩ (fun hc=>Gf Ht O O O) O (Do (Ei s.Columns.length) [14] O .scf ⟨Ua,G⟩ (fun hc=>Qw (f:=G4.av) (xs:=s.Columns) H5 O O) O (Do (BL (decide ((s.Columns.length:Int)≤x.G4))) [12,15] O .scf ⟨Ua,Ua,G⟩ (fun hc=>G31 O O O) O (Dq (BL ((decide (x.G4 < 0))||(decide ((s.Columns.length:Int)≤x.G4)))) (Yc O O O O) O (Dq (BL ((decide (x.G4 < 0))||(decide ((s.Columns.length:Int)≤x.G4)))) (G5 O O) O (Do (.dptr [G0 x.Tier,U8 x.Half]) [] O .scf G (fun hc=>Ga Qk O O O) O ?_)))))))))))))
 refine Do (G0 x.Tier) [19] O .scf ⟨Ua,G⟩ (fun hc=>Gf Gc O O O) O (Do (BL (decide (x.Tier < 0))) [20] O .scf ⟨Ua,G⟩ (fun hc=>J1 O O O) O (Dq (BL (((decide (x.G4 < 0))||(decide ((s.Columns.length:Int)≤x.G4)))||(decide (x.Tier < 0)))) (Yc O O O O) O (Dq (BL (((decide (x.G4 < 0))||(decide ((s.Columns.length:Int)≤x.G4)))||(decide (x.Tier < 0)))) (G5 O O) O (Do (.dptr [G0 x.Tier,U8 x.Half]) [] O .scf G (fun hc=>Ga Qk O O O) O (Do (G0 x.Tier) [24] O .scf ⟨Ua,G⟩ (fun hc=>Gf Gc O O O) O (Do (Eb s) [] O .scf G (fun hc=>Ga Hj O O O) O (Do (E4 s.Columns) [26] O .scf ⟨Ua,G⟩ (fun hc=>Gf Ht O O O) O (Do (.dptr [G0 x.G4,G0 x.Tier,U8 x.Half]) [] O .scf G (fun hc=>Ga Jb O O O) O (Do (G0 x.G4) [28] O .scf ⟨Ua,G⟩ (fun hc=>Gf Gc O O O) O (Do (Ed y4) [27,29] O .scf ⟨Ua,Ua,G⟩ (fun hc=>(match Qa (Gy hc hy4) with | ⟨_,hm_,hy_⟩=>Gw (f:=G4.av) (xs:=s.Columns) (y:=y4) O O O H5 hy_ hm_)) O (Do (.dptr ((G4.cs y4).drop 3)) [30] O .scf ⟨Ua,G⟩ (fun hc=>Ga Zm O O O) O (Do (G0 y4.Tiers) [31] O .scf ⟨Ua,G⟩ (fun hc=>Gf Gc O O O) O (Do (BL (decide (y4.Tiers≤x.Tier))) [25,32] O .scf ⟨Ua,Ua,G⟩ (fun hc=>G31 O O O) O ?_)))))))))))))
 refine Dq (BL ((((decide (x.G4 < 0))||(decide ((s.Columns.length:Int)≤x.G4)))||(decide (x.Tier < 0)))||(decide (y4.Tiers≤x.Tier)))) (Yc O O O O) O (Dnil (hK3 (JCc O h (fun h hb=>?_) (fun h hb=>?_))))
 ·
  refine Jr fun hK5=>(G57 (BL false) O (G8 (hK5 (Gr (fin1 BL h)))))
 ·
  refine Gn (hK2 (Jr fun hK6=>(G57 (G0 size) O (JLh (BL (decide (size=40))) (Jx O O O) O (G57 (BL (decide (size=40))) O (JLo (.dptr [U8 x.Half]) [] O .sct G (fun hc=>Ga Jy O O O) O (JLo (U8 x.Half) [38] O .sct ⟨Ua,G⟩ (fun hc=>Gf Jd O O O) O (JLo (BL (decide (x.Half=0))) [39] O .sct ⟨Ua,G⟩ (fun hc=>Jx O O O) O (JLh (BL ((decide (size=40))&&(decide (x.Half=0)))) (J5 O O O O) O (G57 (BL ((decide (size=40))&&(decide (x.Half=0)))) O (JLo (G0 size) [] O .scf G (fun hc=>G5 O O) O (JLo (BL (decide (size=20))) [43] O .scf ⟨Ua,G⟩ (fun hc=>Jx O O O) O (JLo (BL (decide (size=20))) [44] O .scf ⟨Ua,G⟩ (fun hc=>G5 O O) O (JLo (.dptr [U8 x.Half]) [] O .optt G (fun hc=>Ga Jy O O O) O (JLo (U8 x.Half) [46] O .optt ⟨Ua,G⟩ (fun hc=>Gf Jd O O O) O ?_)))))))))))))))
  refine JLo (BL (decide (x.Half=1))) [47] O .optt ⟨Ua,G⟩ (fun hc=>Jx O O O) O (JLo (BL (decide (x.Half=1))) [48] O .optt ⟨Ua,G⟩ (fun hc=>G5 O O) O (JLo (.dptr [U8 x.Half]) [] O .optf G (fun hc=>Ga Jy O O O) O (JLo (U8 x.Half) [50] O .optf ⟨Ua,G⟩ (fun hc=>Gf Jd O O O) O (JLo (BL (decide (x.Half=2))) [51] O .optf ⟨Ua,G⟩ (fun hc=>Jx O O O) O (Gb (u:=BL ((decide (x.Half=1))||(decide (x.Half=2)))) [(49,BL (decide (x.Half=1))),(52,_)] O O O .optt ⟨.all id,.part,G⟩ (fun hc=>Yc O O O O) ?_)))))
  refine Gb (u:=BL ((decide (size=20))&&((decide (x.Half=1))||(decide (x.Half=2))))) [(45,BL (decide (size=20))),(53,_)] O O O .scf ⟨.all id,.part,G⟩ (fun hc=>J5 O O O O) ?_
  refine JLh (BL (((decide (size=40))&&(decide (x.Half=0)))||((decide (size=20))&&((decide (x.Half=1))||(decide (x.Half=2)))))) (Yc O O O O) O (G57 (BL (((decide (size=40))&&(decide (x.Half=0)))||((decide (size=20))&&((decide (x.Half=1))||(decide (x.Half=2)))))) O (G8 (hK6 (Gr (fin1 BL h)))))

def Zp (l:List Stowed):Option (List Slot):=
 each (fun y16 i16 (s16:(List Slot)) nx16=>
  need (decide ((s16.length+[y16.Slot].length)*24≤140737488355328∧s16.length+[y16.Slot].length≤maxLen)) <|
  nx16 (s16++[y16.Slot]))
 (fun(s16:(List Slot))=>
  some s16) l 0 []
theorem H6b (l:List Stowed) (r:(List Slot)) (h:Zp l=some r):Pure Ej 76 [E2 l] (·=E9 r):=by
 unfold Zp at h
 refine Gx [.tmp 2] Tryz.func76 O O (Jr fun hK1=>(JLh (E9 ([]:List Slot)) (Hb 3 O O) O (G8 (hK1 (Jr fun hK2=>(JLh (OW 1118 3 Slot.av ([]:List Slot)) (G39 1118 71 3 O O O) O (G8 (hK2 (Js fun hK3=>Jr fun hK4=>(G57 (G0 0) O (G8 (hK4 (Gp ?_)))))))))))))
 obtain⟨b16,kx16,hb16,hkx16,h⟩:=Hx h
 refine He (fun i16 (s16:(List Slot))=>each b16 kx16 (List.drop i16 l) i16 s16=some r) (fun i16 s16=>[(0,E2 l),(3,OW 1118 3 Slot.av s16),(4,Ei i16)]) (fun i16 s16=>[(1118,.spare 71 3 s16.length s16.length)]) (fun i16=>l.length - i16) 0 [] h ⟨(.sm O O),⟨⟨_,O,.same⟩,G⟩,O⟩ ?_
 clear h
 intro i16 s16 hi16 K16 e16
 refine Js fun hK17=>Jr fun hK18=>(G57 (Ei i16) O (G57 (E2 l) O (JLl H0 O O O fun hm7=>(JLh (BL (decide ((i16:Int) < (l.length:Int)))) (J1 O O O) O (G8 (hK18 (Gm O (fun hb=>?_) (fun hb=>?_))))))))
 ·
  have hk16:=Jc hb
  obtain⟨y16,nx16,hy16,hn16,h⟩:=Hm hi16 hk16
  replace h:=Rn hb16 h
  refine Gn (hK17 (Js fun hK19=>Gp (G3 (G57 (OW 1118 3 Slot.av s16) O (G57 (E2 l) O (G57 (Ei i16) O (JLh (Ec y16) (Gw (f:=Stowed.av) (xs:=l) (y:=y16) O O O H0 hy16 O) O (JLh (.dptr ((Stowed.cs y16).drop 1)) (Ga J6 O O O) O (JLh (.agg ((Stowed.cs y16).drop 1)) (Gj Q0 O O O) O (JLh (E9 [y16.Slot]) (Hd (xs:=[.agg ((Stowed.cs y16).drop 1)]) O ⟨O,O,G⟩ Jt G44 O O O O) O ?_))))))))))
  obtain⟨ha20,h⟩:=Hv h
  refine JLh (OW 1118 3 Slot.av (s16++[y16.Slot])) (Qo (f:=Slot.av) (xs:=s16) (ys:=[y16.Slot]) O O O O Jt H8b ha20 (fun _=>O) (.inl O) O) O (G57 (OW 1118 3 Slot.av (s16++[y16.Slot])) O (G8 (hK19 (G3 (G57 (Ei i16) O (JLh (G0 ((i16+1:Nat):Int)) (Hu (Hc hk16 hm7) O O O) O (G57 (G0 ((i16+1:Nat):Int)) O (G8 (e16 _ _ (i16+1) (s16++[y16.Slot]) (app1 hn16 h) (by omega) ⟨(.sm O O),⟨⟨_,rfl,.same⟩,G⟩,rfl⟩)))))))))
 ·
  have h:=app1 hkx16 (Hn hi16 (H6 hb))
  refine Hk (hK3 (Jr fun hK21=>(G57 (OW 1118 3 Slot.av s16) O (G57 (OW 1118 3 Slot.av s16) O (G8 (hK21 (Gr (fin1l (fun r:(List Slot)=>(E9 r:AV)) h))))))))

def Rb (l:List Slot) (x:Slot) (half:Int):Option Bool:=
 each (fun y23 i23 (s23:Unit) nx23=>
  bnd (bif decide (y23.G4=x.G4) then G35 (x.Tier - 1) some else some 0) fun v28=>
  bif (((decide (y23.G4=x.G4))&&(decide (y23.Tier=v28)))&&(decide (y23.Half=half))) then
  (some true)
  else
  (nx23 ()))
 (fun(s23:Unit)=>
  some false) l 0 ()
theorem G28 (l:List Slot) (x:Slot) (half:Int) (r:Bool) (h:Rb l x half=some r):Pure Ej 125 [E9 l,.agg [G0 x.G4,G0 x.Tier,U8 x.Half],U8 half] (·=BL r):=by
 unfold Rb at h
 refine Gx [.tmp 6] Tryz.func125 O O (Jr fun hK1=>(JLh (.ptr 1168 0) (Ja (cs:=[G0 x.G4,G0 x.Tier,U8 x.Half]) 1168 O O O O O) O (G57 (BL false) O (G8 (hK1 (Gu [(0,E9 l),(2,U8 half),(4,.dptr [G0 x.G4,G0 x.Tier,U8 x.Half])] [] 1168 rfl rfl rfl G rfl (by exact⟨.conv (.same rfl),.conv (.same rfl),.ptr,G⟩) (Js fun hK2=>Jr fun hK3=>(G57 (G0 0) O (G8 (hK3 (Gp ?_)))))))))))
 obtain⟨b23,kx23,hb23,hkx23,h⟩:=Hx h
 refine He (fun i23 (s23:Unit)=>each b23 kx23 (List.drop i23 l) i23 s23=some r) (fun i23 s23=>[(0,E9 l),(2,U8 half),(4,.dptr [G0 x.G4,G0 x.Tier,U8 x.Half]),(7,Ei i23)]) (fun i23 s23=>[]) (fun i23=>l.length - i23) 0 () h ⟨(.sm O O),G,rfl⟩ ?_
 clear h
 intro i23 s23 hi23 K23 e23
 refine Js fun hK24=>Jr fun hK25=>(G57 (Ei i23) O (G57 (E9 l) O (JLl Jt O O O fun hm10=>(JLh (BL (decide ((i23:Int) < (l.length:Int)))) (J1 O O O) O (G8 (hK25 (Gm O (fun hb=>?_) (fun hb=>?_))))))))
 ·
  have hk23:=Jc hb
  obtain⟨y23,nx23,hy23,hn23,h⟩:=Hm hi23 hk23
  replace h:=Rn hb23 h
  refine Gn (hK24 (Js fun hK26=>Gp (Js fun hK27=>?_)))
  obtain⟨v28,hv28,h⟩:=Ge h
  refine JC_d0 Jg (by kernel_rfl) (Dq (E9 l) (G5 O O) O (Dq (Ei i23) (G5 O O) O (Dq (Eg y23) (Gw (f:=Slot.av) (xs:=l) (y:=y23) O O O Jt hy23 O) O (Dq (Eg y23) (Ga Jb O O O) O (Dq (G0 y23.G4) (Gf Gc O O O) O (Dq (.dptr [G0 x.G4,G0 x.Tier,U8 x.Half]) (Ga Jb O O O) O (Dq (G0 x.G4) (Gf Gc O O O) O (Dq (BL (decide (y23.G4=x.G4))) (Jx O O O) O (Dq (BL (decide (y23.G4=x.G4))) (G5 O O) O (Do (E9 l) [] O .sct G (fun hc=>G5 O O) O (Do (Ei i23) [] O .sct G (fun hc=>G5 O O) O (Do (Eg y23) [23,24] O .sct ⟨Ua,Ua,G⟩ (fun hc=>Gw (f:=Slot.av) (xs:=l) (y:=y23) O O O Jt hy23 O) O (Do (.dptr [G0 y23.Tier,U8 y23.Half]) [25] O .sct ⟨Ua,G⟩ (fun hc=>Ga Qk O O O) O ?_)))))))))))))
  refine Do (G0 y23.Tier) [26] O .sct ⟨Ua,G⟩ (fun hc=>Gf Gc O O O) O (Do (.dptr [G0 x.Tier,U8 x.Half]) [] O .sct G (fun hc=>Ga Qk O O O) O (Do (G0 x.Tier) [28] O .sct ⟨Ua,G⟩ (fun hc=>Gf Gc O O O) O (Do (G0 v28) [29] O .sct ⟨Ua,G⟩ (fun hc=>Gd4 (G25 (Gy hc hv28)) O O O) O (Do (BL (decide (y23.Tier=v28))) [27,30] O .sct ⟨Ua,Ua,G⟩ (fun hc=>Jx O O O) O (Dq (BL ((decide (y23.G4=x.G4))&&(decide (y23.Tier=v28)))) (J5 O O O O) O (Dq (BL ((decide (y23.G4=x.G4))&&(decide (y23.Tier=v28)))) (G5 O O) O (Do (E9 l) [] O .sct G (fun hc=>G5 O O) O (Do (Ei i23) [] O .sct G (fun hc=>G5 O O) O (Do (Eg y23) [34,35] O .sct ⟨Ua,Ua,G⟩ (fun hc=>Gw (f:=Slot.av) (xs:=l) (y:=y23) O O O Jt hy23 O) O (Do (.dptr [U8 y23.Half]) [36] O .sct ⟨Ua,G⟩ (fun hc=>Ga Jy O O O) O (Do (U8 y23.Half) [37] O .sct ⟨Ua,G⟩ (fun hc=>Gf Jd O O O) O (Do (U8 half) [] O .sct G (fun hc=>G5 O O) O (Do (BL (decide (y23.Half=half))) [38,39] O .sct ⟨Ua,Ua,G⟩ (fun hc=>Jx O O O) O ?_)))))))))))))
  refine Dq (BL (((decide (y23.G4=x.G4))&&(decide (y23.Tier=v28)))&&(decide (y23.Half=half)))) (J5 O O O O) O (Dnil (hK27 (JCc O h (fun h hb=>?_) (fun h hb=>?_))))
  ·
   refine Jr fun hK29=>(G57 (BL true) O (G8 (hK29 (Gr (fin1 BL h)))))
  ·
   refine Gn (hK26 (G3 (G57 (Ei i23) O (JLh (G0 ((i23+1:Nat):Int)) (Hu (Hc hk23 hm10) O O O) O (G57 (G0 ((i23+1:Nat):Int)) O (G8 (e23 _ _ (i23+1) () (app1 hn23 h) (by omega) ⟨(.sm O O),G,rfl⟩)))))))
 ·
  have h:=app1 hkx23 (Hn hi23 (H6 hb))
  refine Hk (hK2 (Jr fun hK30=>(G57 (BL false) O (G8 (hK30 (Gr (fin1 BL h)))))))

def G03 (x:Slot) (l:List Slot):Option Bool:=
 bif decide (x.Tier≤0) then
 (some true)
 else
 (bif decide (x.Half=0) then
  (bnd (Rb l x 0) fun r8=>
   bnd (bif (!r8) then Rb l x 1 else some default) fun r9=>
   bnd (bif ((!r8)&&r9) then Rb l x 2 else some default) fun r10=>
   some (r8||(r9&&r10)))
  else
  (bnd (Rb l x x.Half) fun r12=>
   some r12))
theorem H7c (x:Slot) (l:List Slot) (r:Bool) (h:G03 x l=some r):Pure Ej 75 [.agg [G0 x.G4,G0 x.Tier,U8 x.Half],E9 l] (·=BL r):=by
 unfold G03 at h
 refine Gx [.tmp 4] Tryz.func75 O O (Jr fun hK1=>(JLh (.ptr 1117 0) (Ja (cs:=[G0 x.G4,G0 x.Tier,U8 x.Half]) 1117 O O O O O) O (G57 (BL false) O (G8 (hK1 (Gu [(1,E9 l),(2,.dptr [G0 x.G4,G0 x.Tier,U8 x.Half])] [] 1117 rfl rfl rfl G rfl (by exact⟨.conv (.same rfl),.ptr,G⟩) (Js fun hK2=>Jr fun hK3=>(JLh (.dptr [G0 x.Tier,U8 x.Half]) (Ga Qk O O O) O (JLh (G0 x.Tier) (Gf Gc O O O) O (JLh (BL (decide (x.Tier≤0))) (He6 O O O) O (G8 (hK3 (JCc O h (fun h hb=>?_) (fun h hb=>?_))))))))))))))
 ·
  refine Jr fun hK4=>(G57 (BL true) O (G8 (hK4 (Gr (fin1 BL h)))))
 ·
  refine Gn (hK2 (Js fun hK5=>Jr fun hK6=>(JLh (.dptr [U8 x.Half]) (Ga Jy O O O) O (JLh (U8 x.Half) (Gf Jd O O O) O (JLh (BL (decide (x.Half=0))) (Jx O O O) O (G8 (hK6 (JCc O h (fun h hb=>?_) (fun h hb=>?_)))))))))
  ·
   refine Jr fun hK7=>(G57 (E9 l) O (JLh (.agg [G0 x.G4,G0 x.Tier,U8 x.Half]) (Gj Q0 O O O) O ?_))
   obtain⟨r8,hr8,h⟩:=Ge h
   refine JLh (BL r8) (Gk O (G28 l x 0 r8 hr8) H55 ⟨O,O,O,O,O,O,G⟩) O (G57 (BL r8) O (JLo (E9 l) [] O .scf G (fun hc=>G5 O O) O (JLo (.agg [G0 x.G4,G0 x.Tier,U8 x.Half]) [] O .scf G (fun hc=>Gj Q0 O O O) O ?_)))
   obtain⟨r9,hr9,h⟩:=Ge h
   refine JLo (BL r9) [15,16] O .scf ⟨Ua,Ua,G⟩ (fun hc=>Gk (args:=[E9 l,.agg [G0 x.G4,G0 x.Tier,U8 x.Half],U8 1]) O (G28 l x 1 r9 (Gy hc hr9)) H55 ⟨O,O,O,O,O,O,G⟩) O (JLo (BL r9) [17] O .scf ⟨Ua,G⟩ (fun hc=>G5 O O) O (JLo (E9 l) [] O .optt G (fun hc=>G5 O O) O (JLo (.agg [G0 x.G4,G0 x.Tier,U8 x.Half]) [] O .optt G (fun hc=>Gj Q0 O O O) O ?_)))
   obtain⟨r10,hr10,h⟩:=Ge h
   refine JLo (BL r10) [19,20] O .optt ⟨Ua,Ua,G⟩ (fun hc=>Gk (args:=[E9 l,.agg [G0 x.G4,G0 x.Tier,U8 x.Half],U8 2]) O (G28 l x 2 r10 (Gy hc hr10)) H55 ⟨O,O,O,O,O,O,G⟩) O (Gb (u:=BL (r9&&r10)) [(18,BL r9),(21,_)] O O O .scf ⟨.all id,.part,G⟩ (fun hc=>J5 O O O O) ?_)
   refine JLh (BL (r8||(r9&&r10))) (Yc O O O O) O (G57 (BL (r8||(r9&&r10))) O (G8 (hK7 (Gr (fin1 BL h)))))
  ·
   refine Gn (hK5 (Jr fun hK11=>(G57 (E9 l) O (JLh (.agg [G0 x.G4,G0 x.Tier,U8 x.Half]) (Gj Q0 O O O) O (JLh (.dptr [U8 x.Half]) (Ga Jy O O O) O (JLh (U8 x.Half) (Gf Jd O O O) O ?_))))))
   obtain⟨r12,hr12,h⟩:=Ge h
   refine JLh (BL r12) (Gk O (G28 l x x.Half r12 hr12) H55 ⟨O,O,O,O,O,O,G⟩) O (G57 (BL r12) O (G8 (hK11 (Gr (fin1 BL h)))))

def R4 (a:Int) (b:Int):Option Bool:=
 some (((decide (a=b))||(decide (a=0)))||(decide (b=0)))
theorem G9d (a:Int) (b:Int) (r:Bool) (h:R4 a b=some r):Pure Ej 126 [U8 a,U8 b] (·=BL r):=by
 unfold R4 at h
 refine Gx [.tmp 4] Tryz.func126 O O (Jr fun hK1=>(G57 (BL false) O (G8 (hK1 (Jr fun hK2=>(G57 (U8 a) O (G57 (U8 b) O (JLh (BL (decide (a=b))) (Jx O O O) O (G57 (BL (decide (a=b))) O (JLo (U8 a) [] O .scf G (fun hc=>G5 O O) O (JLo (BL (decide (a=0))) [9] O .scf ⟨Ua,G⟩ (fun hc=>Jx O O O) O (JLh (BL ((decide (a=b))||(decide (a=0)))) (Yc O O O O) O (G57 (BL ((decide (a=b))||(decide (a=0)))) O (JLo (U8 b) [] O .scf G (fun hc=>G5 O O) O (JLo (BL (decide (b=0))) [13] O .scf ⟨Ua,G⟩ (fun hc=>Jx O O O) O (JLh (BL (((decide (a=b))||(decide (a=0)))||(decide (b=0)))) (Yc O O O O) O (G57 (BL (((decide (a=b))||(decide (a=0)))||(decide (b=0)))) O (G8 (hK2 (Gr (fin1 BL h)))))))))))))))))))))

def G02 (a:Slot) (b:Slot):Option Bool:=
 bnd (bif ((decide (a.G4=b.G4))&&(decide (a.Tier=b.Tier))) then R4 a.Half b.Half else some default) fun r3=>
 some (((decide (a.G4=b.G4))&&(decide (a.Tier=b.Tier)))&&r3)
theorem H7b (a:Slot) (b:Slot) (r:Bool) (h:G02 a b=some r):Pure Ej 77 [.agg [G0 a.G4,G0 a.Tier,U8 a.Half],.agg [G0 b.G4,G0 b.Tier,U8 b.Half]] (·=BL r):=by
 unfold G02 at h
 refine Gx [.tmp 4] Tryz.func77 O O (Jr fun hK1=>(JLh (.ptr 1119 0) (Ja (cs:=[G0 a.G4,G0 a.Tier,U8 a.Half]) 1119 O O O O O) O (JLh (.ptr 1120 0) (Ja (cs:=[G0 b.G4,G0 b.Tier,U8 b.Half]) 1120 O O O O O) O (G57 (BL false) O (G8 (hK1 (Gu [(2,.dptr [G0 a.G4,G0 a.Tier,U8 a.Half]),(3,.ptr 1120 0)] [(1120,.box 71 [G0 b.G4,G0 b.Tier,U8 b.Half])] 1119 rfl rfl rfl ⟨⟨_,rfl,.boxEq rfl rfl⟩,G⟩ rfl (by exact⟨.ptr,.conv (.same rfl),G⟩) (Gu [(2,.dptr [G0 a.G4,G0 a.Tier,U8 a.Half]),(3,.dptr [G0 b.G4,G0 b.Tier,U8 b.Half])] [] 1120 rfl rfl rfl G rfl (by exact⟨.conv (.same rfl),.ptr,G⟩) ?_))))))))
 refine Jr fun hK2=>(JLh (.dptr [G0 a.G4,G0 a.Tier,U8 a.Half]) (Ga Jb O O O) O (JLh (G0 a.G4) (Gf Gc O O O) O (JLh (.dptr [G0 b.G4,G0 b.Tier,U8 b.Half]) (Ga Jb O O O) O (JLh (G0 b.G4) (Gf Gc O O O) O (JLh (BL (decide (a.G4=b.G4))) (Jx O O O) O (G57 (BL (decide (a.G4=b.G4))) O (JLo (.dptr [G0 a.Tier,U8 a.Half]) [] O .sct G (fun hc=>Ga Qk O O O) O (JLo (G0 a.Tier) [11] O .sct ⟨Ua,G⟩ (fun hc=>Gf Gc O O O) O (JLo (.dptr [G0 b.Tier,U8 b.Half]) [] O .sct G (fun hc=>Ga Qk O O O) O (JLo (G0 b.Tier) [13] O .sct ⟨Ua,G⟩ (fun hc=>Gf Gc O O O) O (JLo (BL (decide (a.Tier=b.Tier))) [12,14] O .sct ⟨Ua,Ua,G⟩ (fun hc=>Jx O O O) O (JLh (BL ((decide (a.G4=b.G4))&&(decide (a.Tier=b.Tier)))) (J5 O O O O) O (G57 (BL ((decide (a.G4=b.G4))&&(decide (a.Tier=b.Tier)))) O ?_)))))))))))))
 refine JLo (.dptr [U8 a.Half]) [] O .sct G (fun hc=>Ga Jy O O O) O (JLo (U8 a.Half) [18] O .sct ⟨Ua,G⟩ (fun hc=>Gf Jd O O O) O (JLo (.dptr [U8 b.Half]) [] O .sct G (fun hc=>Ga Jy O O O) O (JLo (U8 b.Half) [20] O .sct ⟨Ua,G⟩ (fun hc=>Gf Jd O O O) O ?_)))
 obtain⟨r3,hr3,h⟩:=Ge h
 refine JLo (BL r3) [19,21] O .sct ⟨Ua,Ua,G⟩ (fun hc=>Gk (args:=[U8 a.Half,U8 b.Half]) O (G9d a.Half b.Half r3 (Gy hc hr3)) J8c ⟨O,O,O,O,G⟩) O (JLh (BL (((decide (a.G4=b.G4))&&(decide (a.Tier=b.Tier)))&&r3)) (J5 O O O O) O (G57 (BL (((decide (a.G4=b.G4))&&(decide (a.Tier=b.Tier)))&&r3)) O (G8 (hK2 (Gr (fin1 BL h))))))

def R3 (boxes:List Gg) (l:List Stowed) (column:Int) (half:Int):Option Int:=
 each (fun y42 i42 (s42:Int) nx42=>
  jp (fun kj45=>
   bnd (Rx boxes y42.Gg) fun r47=>
   bif (((!r47.2)||(decide (y42.Slot.G4≠column)))||((decide (y42.Slot.Half≠half))&&(decide (y42.Slot.Half≠0)))) then
   (kj45 s42)
   else
   (bif r47.1.High then
    (G35 (s42+2896) fun v51=>
     kj45 v51)
    else
    (G35 (s42+2591) fun v52=>
     kj45 v52))) fun(j45:Int)=>
  nx42 j45)
 (fun(s42:Int)=>
  some s42) l 0 0
theorem G9c (boxes:List Gg) (l:List Stowed) (column:Int) (half:Int) (r:Int) (h:R3 boxes l column half=some r):Pure Ej 127 [E3 boxes,E2 l,G0 column,U8 half] (·=G0 r):=by
 unfold R3 at h
 refine Gx [.tmp 8] Tryz.func127 O O (Jr fun hK1=>(G57 (G0 0) O (G8 (hK1 (Jr fun hK2=>(G57 (G0 0) O (G8 (hK2 (Js fun hK3=>Jr fun hK4=>(G57 (G0 0) O (G8 (hK4 (Gp ?_)))))))))))))
 obtain⟨b42,kx42,hb42,hkx42,h⟩:=Hx h
 refine He (fun i42 (s42:Int)=>each b42 kx42 (List.drop i42 l) i42 s42=some r) (fun i42 s42=>[(0,E3 boxes),(1,E2 l),(2,G0 column),(3,U8 half),(9,G0 s42),(10,Ei i42)]) (fun i42 s42=>[]) (fun i42=>l.length - i42) 0 0 h ⟨(.sm O O),G,rfl⟩ ?_
 clear h
 intro i42 s42 hi42 K42 e42
 refine Js fun hK43=>Jr fun hK44=>(G57 (Ei i42) O (G57 (E2 l) O (JLl H0 O O O fun hm15=>(JLh (BL (decide ((i42:Int) < (l.length:Int)))) (J1 O O O) O (G8 (hK44 (Gm O (fun hb=>?_) (fun hb=>?_))))))))
 ·
  have hk42:=Jc hb
  obtain⟨y42,nx42,hy42,hn42,h⟩:=Hm hi42 hk42
  replace h:=Rn hb42 h
  refine Gn (hK43 ?_)
  obtain⟨kj45,hkj45,h⟩:=G37 h
  refine Zy (fun j45:Int=>kj45 j45=some r) (fun j45=>[(0,E3 boxes),(1,E2 l),(2,G0 column),(3,U8 half),(9,G0 j45),(10,Ei i42)]) (fun j45=>[]) (fun Kj45 ej45=>?_) ?_
  ·
   refine Gp (Jr fun hK46=>(G57 (E3 boxes) O (G57 (E2 l) O (G57 (Ei i42) O (JLh (Ec y42) (Gw (f:=Stowed.av) (xs:=l) (y:=y42) O O O H0 hy42 O) O (JLh (Ec y42) (Ga Hw O O O) O (JLh (G0 y42.Gg) (Gf Gc O O O) O ?_)))))))
   obtain⟨r47,hr47,h⟩:=Ge h
   refine JLh (.tup [.agg (Gg.cs r47.1),BL r47.2]) (Gk O (G5f boxes y42.Gg r47 hr47) J1b ⟨O,O,O,O,G⟩) O (G57 (.tup [.agg (Gg.cs r47.1),BL r47.2]) O (JLh (.agg (Gg.cs r47.1)) (H9 O O O) O (JLh (BL r47.2) (H9 O O O) O (JLh (.ptr 1169 0) (Ju 1169 9 G2b O O) O (Jf (u:=.junk) (J2 (u:=.agg (Gg.cs r47.1)) (ds:=(Gg.cs r47.1)) G06 O O O O O O O O) (G57 (BL r47.2) O (G8 (hK46 (Gu [(0,E3 boxes),(1,E2 l),(2,G0 column),(3,U8 half),(9,G0 s42),(10,Ei i42),(11,Ee r47.1),(12,BL r47.2)] [] 1169 rfl rfl rfl G rfl (by repeat' (first | exact .ptr | constructor)) ?_)))))))))
   refine Js fun hK48=>?_
   refine Jr fun hK49=>(G57 (BL r47.2) O (JLh (BL (!r47.2)) (Qh (b:=r47.2) O O) O (G57 (BL (!r47.2)) O (JLo (E2 l) [] O .scf G (fun hc=>G5 O O) O (JLo (Ei i42) [] O .scf G (fun hc=>G5 O O) O (JLo (Ec y42) [32,33] O .scf ⟨Ua,Ua,G⟩ (fun hc=>Gw (f:=Stowed.av) (xs:=l) (y:=y42) O O O H0 hy42 O) O (JLo (.dptr ((Stowed.cs y42).drop 1)) [34] O .scf ⟨Ua,G⟩ (fun hc=>Ga J6 O O O) O (JLo (.dptr ((Stowed.cs y42).drop 1)) [35] O .scf ⟨Ua,G⟩ (fun hc=>Ga Jb O O O) O (JLo (G0 y42.Slot.G4) [36] O .scf ⟨Ua,G⟩ (fun hc=>Gf Gc O O O) O (JLo (G0 column) [] O .scf G (fun hc=>G5 O O) O (JLo (BL (decide (y42.Slot.G4≠column))) [37,38] O .scf ⟨Ua,Ua,G⟩ (fun hc=>G30 O O O) O (JLh (BL ((!r47.2)||(decide (y42.Slot.G4≠column)))) (Yc O O O O) O (G57 (BL ((!r47.2)||(decide (y42.Slot.G4≠column)))) O ?_)))))))))))))
   refine JLo (E2 l) [] O .scf G (fun hc=>G5 O O) O (JLo (Ei i42) [] O .scf G (fun hc=>G5 O O) O (JLo (Ec y42) [42,43] O .scf ⟨Ua,Ua,G⟩ (fun hc=>Gw (f:=Stowed.av) (xs:=l) (y:=y42) O O O H0 hy42 O) O (JLo (.dptr ((Stowed.cs y42).drop 1)) [44] O .scf ⟨Ua,G⟩ (fun hc=>Ga J6 O O O) O (JLo (.dptr [U8 y42.Slot.Half]) [45] O .scf ⟨Ua,G⟩ (fun hc=>Ga Jy O O O) O (JLo (U8 y42.Slot.Half) [46] O .scf ⟨Ua,G⟩ (fun hc=>Gf Jd O O O) O (JLo (U8 half) [] O .scf G (fun hc=>G5 O O) O (JLo (BL (decide (y42.Slot.Half≠half))) [47,48] O .scf ⟨Ua,Ua,G⟩ (fun hc=>G30 O O O) O (JLo (BL (decide (y42.Slot.Half≠half))) [49] O .scf ⟨Ua,G⟩ (fun hc=>G5 O O) O (JLo (E2 l) [] O .optt G (fun hc=>G5 O O) O (JLo (Ei i42) [] O .optt G (fun hc=>G5 O O) O (JLo (Ec y42) [51,52] O .optt ⟨Ua,Ua,G⟩ (fun hc=>Gw (f:=Stowed.av) (xs:=l) (y:=y42) O O O H0 hy42 O) O (JLo (.dptr ((Stowed.cs y42).drop 1)) [53] O .optt ⟨Ua,G⟩ (fun hc=>Ga J6 O O O) O (JLo (.dptr [U8 y42.Slot.Half]) [54] O .optt ⟨Ua,G⟩ (fun hc=>Ga Jy O O O) O ?_)))))))))))))
   refine JLo (U8 y42.Slot.Half) [55] O .optt ⟨Ua,G⟩ (fun hc=>Gf Jd O O O) O (JLo (BL (decide (y42.Slot.Half≠0))) [56] O .optt ⟨Ua,G⟩ (fun hc=>G30 O O O) O (Gb (u:=BL ((decide (y42.Slot.Half≠half))&&(decide (y42.Slot.Half≠0)))) [(50,BL (decide (y42.Slot.Half≠half))),(57,_)] O O O .scf ⟨.all id,.part,G⟩ (fun hc=>J5 O O O O) ?_))
   refine JLh (BL (((!r47.2)||(decide (y42.Slot.G4≠column)))||((decide (y42.Slot.Half≠half))&&(decide (y42.Slot.Half≠0))))) (Yc O O O O) O (G8 (hK49 (JCc O h (fun h hb=>?_) (fun h hb=>?_))))
   ·
    refine Hk (ej45 _ _ s42 h ⟨(.sm O O),G,rfl⟩)
   ·
    refine Gn (hK48 (Jr fun hK50=>(JLh (.dptr ((Gg.cs r47.1).drop 3)) (Ga J00 O O O) O (JLh (BL r47.1.High) (Gf Ra O O O) O (G8 (hK50 (JCc O h (fun h hb=>?_) (fun h hb=>?_))))))))
    ·
     refine G3 (G57 (G0 s42) O ?_)
     obtain⟨v51,hv51,h⟩:=Qj h
     refine JLh (G0 v51) (Hu hv51 O O O) O (G57 (G0 v51) O (G8 (ej45 _ _ v51 h ⟨(.sm O O),G,rfl⟩)))
    ·
     refine G3 (G57 (G0 s42) O ?_)
     obtain⟨v52,hv52,h⟩:=Qj h
     refine JLh (G0 v52) (Hu hv52 O O O) O (G57 (G0 v52) O (G8 (ej45 _ _ v52 h ⟨(.sm O O),G,rfl⟩)))
  ·intro j45 h
   replace h:=app1 hkj45 h
   refine G3 (G57 (Ei i42) O (JLh (G0 ((i42+1:Nat):Int)) (Hu (Hc hk42 hm15) O O O) O (G57 (G0 ((i42+1:Nat):Int)) O (G8 (e42 _ _ (i42+1) j45 (app1 hn42 h) (by omega) ⟨(.sm O O),G,rfl⟩)))))
 ·
  have h:=app1 hkx42 (Hn hi42 (H6 hb))
  refine Hk (hK3 (Jr fun hK53=>(G57 (G0 s42) O (G57 (G0 s42) O (G8 (hK53 (Gr (fin1 G0 h))))))))

def G00 (s:H2) (boxes:List Gg) (l:List Stowed) (c:Int):Option Bool:=
 Qr s.Columns c fun y4=>
 bif decide (y4.Height=0) then
 (some false)
 else
 (bnd (R3 boxes l c 1) fun r8=>
  Qr s.Columns c fun y9=>
  bnd (bif (!(decide (y9.Height < r8))) then R3 boxes l c 2 else some default) fun r11=>
  bnd (bif (!(decide (y9.Height < r8))) then Qr s.Columns c some else some default) fun y12=>
  some ((decide (y9.Height < r8))||(decide (y12.Height < r11))))
theorem H79 (s:H2) (boxes:List Gg) (l:List Stowed) (c:Int) (r:Bool) (h:G00 s boxes l c=some r):Pure Ej 78 [.agg (H2.cs s),E3 boxes,E2 l,G0 c] (·=BL r):=by
 unfold G00 at h
 refine Gx [.tmp 8] Tryz.func78 O O (Jr fun hK1=>(JLh (.ptr 1121 0) (Ja (cs:=(H2.cs s)) 1121 O O O O O) O (G57 (BL false) O (G8 (hK1 (Gu [(1,E3 boxes),(2,E2 l),(3,G0 c),(4,Eb s)] [] 1121 rfl rfl rfl G rfl (by repeat' (first | exact .ptr | constructor)) (Js fun hK2=>?_)))))))
 refine Jr fun hK3=>(JLh (Eb s) (Ga Hj O O O) O (JLh (E4 s.Columns) (Gf Ht O O O) O (G57 (G0 c) O ?_)))
 obtain⟨m5,y4,hm5,hy4,h⟩:=R2 h
 refine JLh (Ed y4) (Gw (f:=G4.av) (xs:=s.Columns) (y:=y4) O O O H5 hy4 hm5) O (JLh (.dptr ((G4.cs y4).drop 4)) (Ga G2d O O O) O (JLh (G0 y4.Height) (Gf Gc O O O) O (JLh (BL (decide (y4.Height=0))) (Jx O O O) O (G8 (hK3 (JCc O h (fun h hb=>?_) (fun h hb=>?_)))))))
 ·
  refine Jr fun hK6=>(G57 (BL false) O (G8 (hK6 (Gr (fin1 BL h)))))
 ·
  refine Gn (hK2 (Js fun hK7=>?_))
  obtain⟨r8,hr8,h⟩:=Ge h
  obtain⟨m10,y9,hm10,hy9,h⟩:=R2 h
  obtain⟨r11,hr11,h⟩:=Ge h
  obtain⟨y12,hy12,h⟩:=Ge h
  refine JC_d0 Jg (by kernel_rfl) (Dq (E3 boxes) (G5 O O) O (Dq (E2 l) (G5 O O) O (Dq (G0 c) (G5 O O) O (Dq (G0 r8) (Gk (args:=[E3 boxes,E2 l,G0 c,U8 1]) O (G9c boxes l c 1 r8 hr8) J8b ⟨O,O,O,O,O,O,O,O,G⟩) O (Dq (Eb s) (Ga Hj O O O) O (Dq (E4 s.Columns) (Gf Ht O O O) O (Dq (G0 c) (G5 O O) O (Dq (Ed y9) (Gw (f:=G4.av) (xs:=s.Columns) (y:=y9) O O O H5 hy9 hm10) O (Dq (.dptr ((G4.cs y9).drop 4)) (Ga G2d O O O) O (Dq (G0 y9.Height) (Gf Gc O O O) O (Dq (BL (decide (y9.Height < r8))) (G3d O O O) O (Dq (BL (decide (y9.Height < r8))) (G5 O O) O (Do (E3 boxes) [] O .scf G (fun hc=>G5 O O) O ?_)))))))))))))
  refine Do (E2 l) [] O .scf G (fun hc=>G5 O O) O (Do (G0 c) [] O .scf G (fun hc=>G5 O O) O (Do (G0 r11) [28,29,30] O .scf ⟨Ua,Ua,Ua,G⟩ (fun hc=>Gk (args:=[E3 boxes,E2 l,G0 c,U8 2]) O (G9c boxes l c 2 r11 (Gy hc hr11)) J8b ⟨O,O,O,O,O,O,O,O,G⟩) O (Do (Eb s) [] O .scf G (fun hc=>Ga Hj O O O) O (Do (E4 s.Columns) [32] O .scf ⟨Ua,G⟩ (fun hc=>Gf Ht O O O) O (Do (G0 c) [] O .scf G (fun hc=>G5 O O) O (Do (Ed y12) [33,34] O .scf ⟨Ua,Ua,G⟩ (fun hc=>(match Qa (Gy hc hy12) with | ⟨_,hm_,hy_⟩=>Gw (f:=G4.av) (xs:=s.Columns) (y:=y12) O O O H5 hy_ hm_)) O (Do (.dptr ((G4.cs y12).drop 4)) [35] O .scf ⟨Ua,G⟩ (fun hc=>Ga G2d O O O) O (Do (G0 y12.Height) [36] O .scf ⟨Ua,G⟩ (fun hc=>Gf Gc O O O) O (Do (BL (decide (y12.Height < r11))) [31,37] O .scf ⟨Ua,Ua,G⟩ (fun hc=>G3d O O O) O (Dq (BL ((decide (y9.Height < r8))||(decide (y12.Height < r11)))) (Yc O O O O) O (Dq (BL ((decide (y9.Height < r8))||(decide (y12.Height < r11)))) (G7 O O) O (Dnil ?_))))))))))))
  refine hK7 (Gr (fin1 BL h))

def Q9 (F:Nat) (s:H2) (boxes:List Gg) (l:List Stowed):Option Bool:=
 bnd (Zs F s) fun r4=>
 bif (!r4) then
 (some false)
 else
 (each (fun y8 i8 (s8:Unit) nx8=>
   bnd (Rx boxes y8.Gg) fun r13=>
   bnd (bif (!(!r13.2)) then G35 (r13.1.Size) some else some 0) fun v16=>
   bnd (bif (!(!r13.2)) then Zr s y8.Slot v16 else some default) fun r17=>
   bnd (bif (!((!r13.2)||(!r17))) then Zp l else some default) fun r18=>
   bnd (bif (!((!r13.2)||(!r17))) then G03 y8.Slot r18 else some default) fun r19=>
   bif (((!r13.2)||(!r17))||(!r19)) then
   (some false)
   else
   (need (decide ((i8:Int)≤9223372036854775807)) <|
    upto (fun i39 (s39:Unit) nx39=>
     Qr l (i39:Int) fun y44=>
     bnd (bif (!(decide (y8.Gg≤y44.Gg))) then Qr l (i39:Int) some else some default) fun y46=>
     bnd (bif (!(decide (y8.Gg≤y44.Gg))) then G02 y46.Slot y8.Slot else some default) fun r47=>
     bif ((decide (y8.Gg≤y44.Gg))||r47) then
     (some false)
     else
     (nx39 ()))
    (fun(s39:Unit)=>
     nx8 ()) (i8:Int).toNat 0 ()))
  (fun(s8:Unit)=>
   each (fun y62 i62 (s62:Unit) nx62=>
    bnd (G00 s boxes l (i62:Int)) fun r67=>
    bif r67 then
    (some false)
    else
    (nx62 ()))
   (fun(s62:Unit)=>
    some true) s.Columns 0 ()) l 0 ())
theorem G11 (F:Nat) (s:H2) (boxes:List Gg) (l:List Stowed) (r:Bool) (h:Q9 F s boxes l=some r):Pure Ej 35 [.agg (H2.cs s),E3 boxes,E2 l] (·=BL r):=by
 unfold Q9 at h
 refine Gx [.tmp 6] Tryz.func35 O O (Jr fun hK1=>(JLh (.ptr 1062 0) (Ja (cs:=(H2.cs s)) 1062 O O O O O) O (G57 (BL false) O (G8 (hK1 (Gu [(1,E3 boxes),(2,E2 l),(3,Eb s)] [] 1062 rfl rfl rfl G rfl (by exact⟨.conv (.same rfl),.conv (.same rfl),.ptr,G⟩) (Js fun hK2=>?_)))))))
 refine Jr fun hK3=>(JLh (.agg (H2.cs s)) (Gj Hh O O O) O ?_)
 obtain⟨r4,hr4,h⟩:=Ge h
 refine JLh (BL r4) (Gk O (H6e F s r4 hr4) Q9a ⟨O,O,G⟩) O (JLh (BL (!r4)) (Qh (b:=r4) O O) O (G8 (hK3 (JCc O h (fun h hb=>?_) (fun h hb=>?_)))))
 ·
  refine Jr fun hK5=>(G57 (BL false) O (G8 (hK5 (Gr (fin1 BL h)))))
 ·
  refine Gn (hK2 (Js fun hK6=>Jr fun hK7=>(G57 (G0 0) O (G8 (hK7 (Gp ?_))))))
  obtain⟨b8,kx8,hb8,hkx8,h⟩:=Hx h
  refine He (fun i8 (s8:Unit)=>each b8 kx8 (List.drop i8 l) i8 s8=some r) (fun i8 s8=>[(1,E3 boxes),(2,E2 l),(3,Eb s),(7,Ei i8)]) (fun i8 s8=>[]) (fun i8=>l.length - i8) 0 () h ⟨(.sm O O),G,rfl⟩ ?_
  clear h
  intro i8 s8 hi8 K8 e8
  refine Js fun hK9=>Jr fun hK10=>(G57 (Ei i8) O (G57 (E2 l) O (JLl H0 O O O fun hm17=>(JLh (BL (decide ((i8:Int) < (l.length:Int)))) (J1 O O O) O (G8 (hK10 (Gm O (fun hb=>?_) (fun hb=>?_))))))))
  ·
   have hk8:=Jc hb
   obtain⟨y8,nx8,hy8,hn8,h⟩:=Hm hi8 hk8
   replace h:=Rn hb8 h
   refine Gn (hK9 (Js fun hK11=>Gp (Jr fun hK12=>(G57 (E3 boxes) O (G57 (E2 l) O (G57 (Ei i8) O (JLh (Ec y8) (Gw (f:=Stowed.av) (xs:=l) (y:=y8) O O O H0 hy8 O) O (JLh (Ec y8) (Ga Hw O O O) O (JLh (G0 y8.Gg) (Gf Gc O O O) O ?_)))))))))
   obtain⟨r13,hr13,h⟩:=Ge h
   refine JLh (.tup [.agg (Gg.cs r13.1),BL r13.2]) (Gk O (G5f boxes y8.Gg r13 hr13) J1b ⟨O,O,O,O,G⟩) O (G57 (.tup [.agg (Gg.cs r13.1),BL r13.2]) O (JLh (.agg (Gg.cs r13.1)) (H9 O O O) O (JLh (BL r13.2) (H9 O O O) O (JLh (.ptr 1063 0) (Ju 1063 9 G2b O O) O (Jf (u:=.junk) (J2 (u:=.agg (Gg.cs r13.1)) (ds:=(Gg.cs r13.1)) G06 O O O O O O O O) (G57 (BL r13.2) O (G8 (hK12 ?_))))))))
   refine Gu [(1,E3 boxes),(2,E2 l),(3,Eb s),(7,Ei i8),(8,Ee r13.1),(9,BL r13.2)] [] 1063 rfl rfl rfl G rfl (by repeat' (first | exact .ptr | constructor)) (Js fun hK14=>Js fun hK15=>?_)
   obtain⟨v16,hv16,h⟩:=Ge h
   obtain⟨r17,hr17,h⟩:=Ge h
   obtain⟨r18,hr18,h⟩:=Ge h
   obtain⟨r19,hr19,h⟩:=Ge h
   refine JC_d0 Jg (by kernel_rfl) (Dq (BL r13.2) (G5 O O) O (Dq (BL (!r13.2)) (Qh (b:=r13.2) O O) O (Dq (BL (!r13.2)) (G5 O O) O (Do (.agg (H2.cs s)) [] O .scf G (fun hc=>Gj Hh O O O) O (Do (E2 l) [] O .scf G (fun hc=>G5 O O) O (Do (Ei i8) [] O .scf G (fun hc=>G5 O O) O (Do (Ec y8) [35,36] O .scf ⟨Ua,Ua,G⟩ (fun hc=>Gw (f:=Stowed.av) (xs:=l) (y:=y8) O O O H0 hy8 O) O (Do (.dptr ((Stowed.cs y8).drop 1)) [37] O .scf ⟨Ua,G⟩ (fun hc=>Ga J6 O O O) O (Do (.agg ((Stowed.cs y8).drop 1)) [38] O .scf ⟨Ua,G⟩ (fun hc=>Gj Q0 O O O) O (Do (.dptr ((Gg.cs r13.1).drop 2)) [] O .scf G (fun hc=>Ga G2c O O O) O (Do (U8 r13.1.Size) [40] O .scf ⟨Ua,G⟩ (fun hc=>Gf Jd O O O) O (Do (G0 v16) [41] O .scf ⟨Ua,G⟩ (fun hc=>Qc1 Jc8 tf_int_5 (G25 (Gy hc hv16)) O O) O (Do (BL r17) [34,39,42] O .scf ⟨Ua,Ua,Ua,G⟩ (fun hc=>Gk (args:=[.agg (H2.cs s),.agg ((Stowed.cs y8).drop 1),G0 v16]) O (H6d s y8.Slot v16 r17 (Gy hc hr17)) Q99 ⟨O,O,O,O,O,O,G⟩) O ?_)))))))))))))
   refine Do (BL (!r17)) [43] O .scf ⟨Ua,G⟩ (fun hc=>Qh (b:=r17) O O) O (Dq (BL ((!r13.2)||(!r17))) (Yc O O O O) O (Dq (BL ((!r13.2)||(!r17))) (G5 O O) O (Do (E2 l) [] O .scf G (fun hc=>G5 O O) O (Do (Ei i8) [] O .scf G (fun hc=>G5 O O) O (Do (Ec y8) [47,48] O .scf ⟨Ua,Ua,G⟩ (fun hc=>Gw (f:=Stowed.av) (xs:=l) (y:=y8) O O O H0 hy8 O) O (Do (.dptr ((Stowed.cs y8).drop 1)) [49] O .scf ⟨Ua,G⟩ (fun hc=>Ga J6 O O O) O (Do (.agg ((Stowed.cs y8).drop 1)) [50] O .scf ⟨Ua,G⟩ (fun hc=>Gj Q0 O O O) O (Do (E2 l) [] O .scf G (fun hc=>G5 O O) O (Do (E9 r18) [52] O .scf ⟨Ua,G⟩ (fun hc=>Gk (args:=[E2 l]) O (H6b l r18 (Gy hc hr18)) Q97 ⟨O,O,G⟩) O (Do (BL r19) [51,53] O .scf ⟨Ua,Ua,G⟩ (fun hc=>Gk (args:=[.agg ((Stowed.cs y8).drop 1),E9 r18]) O (H7c y8.Slot r18 r19 (Gy hc hr19)) Q98 ⟨O,O,O,O,G⟩) O (Do (BL (!r19)) [54] O .scf ⟨Ua,G⟩ (fun hc=>Qh (b:=r19) O O) O (Dq (BL (((!r13.2)||(!r17))||(!r19))) (Yc O O O O) O (Dnil ?_)))))))))))))
   refine hK15 (JCc O h (fun h hb=>?_) (fun h hb=>?_))
   ·
    refine Jr fun hK20=>(G57 (BL false) O (G8 (hK20 (Gr (fin1 BL h)))))
   ·
    refine Gn (hK14 (Jr fun hK21=>(G57 (G0 0) O (G8 (hK21 (Gp ?_))))))
    obtain⟨hx39,h⟩:=Hv h
    obtain⟨b39,kx39,hb39,hkx39,h⟩:=G8e h
    refine He (fun i39 (s39:Unit)=>upto b39 kx39 ((i8:Int).toNat - i39) i39 s39=some r) (fun i39 s39=>[(1,E3 boxes),(2,E2 l),(3,Eb s),(7,Ei i8),(10,Ei i39)]) (fun i39 s39=>[]) (fun i39=>(i8:Int).toNat - i39) 0 () h ⟨(.sm O O),G,rfl⟩ ?_
    clear h
    intro i39 s39 hi39 K39 e39
    refine Js fun hK40=>Jr fun hK41=>(G57 (Ei i39) O (G57 (Ei i8) O (JLh (BL (decide ((i39:Int) < (i8:Int)))) (J1 O O O) O (G8 (hK41 (Gm O (fun hb=>?_) (fun hb=>?_)))))))
    ·
     have hk39:=G5e hb
     obtain⟨nx39,hn39,h⟩:=G59 hi39 hk39
     replace h:=Hfc hb39 h
     refine Gn (hK40 (Js fun hK42=>Gp (Js fun hK43=>?_)))
     obtain⟨m45,y44,hm45,hy44,h⟩:=R2 h
     obtain⟨y46,hy46,h⟩:=Ge h
     obtain⟨r47,hr47,h⟩:=Ge h
     refine JC_d0 Jg (by kernel_rfl) (Dq (E2 l) (G5 O O) O (Dq (Ei i39) (G5 O O) O (Dq (Ec y44) (Gw (f:=Stowed.av) (xs:=l) (y:=y44) O O O H0 hy44 hm45) O (Dq (Ec y44) (Ga Hw O O O) O (Dq (G0 y44.Gg) (Gf Gc O O O) O (Dq (E2 l) (G5 O O) O (Dq (Ei i8) (G5 O O) O (Dq (Ec y8) (Gw (f:=Stowed.av) (xs:=l) (y:=y8) O O O H0 hy8 O) O (Dq (Ec y8) (Ga Hw O O O) O (Dq (G0 y8.Gg) (Gf Gc O O O) O (Dq (BL (decide (y8.Gg≤y44.Gg))) (G31 O O O) O (Dq (BL (decide (y8.Gg≤y44.Gg))) (G5 O O) O (Do (E2 l) [] O .scf G (fun hc=>G5 O O) O ?_)))))))))))))
     refine Do (Ei i39) [] O .scf G (fun hc=>G5 O O) O (Do (Ec y46) [74,75] O .scf ⟨Ua,Ua,G⟩ (fun hc=>(match Qa (Gy hc hy46) with | ⟨_,hm_,hy_⟩=>Gw (f:=Stowed.av) (xs:=l) (y:=y46) O O O H0 hy_ hm_)) O (Do (.dptr ((Stowed.cs y46).drop 1)) [76] O .scf ⟨Ua,G⟩ (fun hc=>Ga J6 O O O) O (Do (.agg ((Stowed.cs y46).drop 1)) [77] O .scf ⟨Ua,G⟩ (fun hc=>Gj Q0 O O O) O (Do (E2 l) [] O .scf G (fun hc=>G5 O O) O (Do (Ei i8) [] O .scf G (fun hc=>G5 O O) O (Do (Ec y8) [79,80] O .scf ⟨Ua,Ua,G⟩ (fun hc=>Gw (f:=Stowed.av) (xs:=l) (y:=y8) O O O H0 hy8 O) O (Do (.dptr ((Stowed.cs y8).drop 1)) [81] O .scf ⟨Ua,G⟩ (fun hc=>Ga J6 O O O) O (Do (.agg ((Stowed.cs y8).drop 1)) [82] O .scf ⟨Ua,G⟩ (fun hc=>Gj Q0 O O O) O (Do (BL r47) [78,83] O .scf ⟨Ua,Ua,G⟩ (fun hc=>Gk (args:=[.agg ((Stowed.cs y46).drop 1),.agg ((Stowed.cs y8).drop 1)]) O (H7b y46.Slot y8.Slot r47 (Gy hc hr47)) Q96 ⟨O,O,O,O,G⟩) O (Dq (BL ((decide (y8.Gg≤y44.Gg))||r47)) (Yc O O O O) O (Dnil ?_)))))))))))
     refine hK43 (JCc O h (fun h hb=>?_) (fun h hb=>?_))
     ·
      refine Jr fun hK48=>(G57 (BL false) O (G8 (hK48 (Gr (fin1 BL h)))))
     ·
      refine Gn (hK42 (G3 (G57 (Ei i39) O (JLh (G0 ((i39+1:Nat):Int)) (Hu (Hc hk39 (G32 hx39)) O O O) O (G57 (G0 ((i39+1:Nat):Int)) O (G8 (e39 _ _ (i39+1) () (app1 hn39 h) (by omega) ⟨(.sm O O),G,rfl⟩)))))))
    ·
     have h:=app1 hkx39 (G5a hi39 (Yg hb))
     refine Hk (hK11 (G3 (G57 (Ei i8) O (JLh (G0 ((i8+1:Nat):Int)) (Hu (Hc hk8 hm17) O O O) O (G57 (G0 ((i8+1:Nat):Int)) O (G8 (e8 _ _ (i8+1) () (app1 hn8 h) (by omega) ⟨(.sm O O),G,rfl⟩)))))))
  ·
   have h:=app1 hkx8 (Hn hi8 (H6 hb))
   refine Hk (hK6 (Js fun hK49=>Jr fun hK50=>(G57 (G0 0) O (G8 (hK50 (Gp ?_))))))
   obtain⟨b62,kx62,hb62,hkx62,h⟩:=Hx h
   refine He (fun i62 (s62:Unit)=>each b62 kx62 (List.drop i62 s.Columns) i62 s62=some r) (fun i62 s62=>[(1,E3 boxes),(2,E2 l),(3,Eb s),(11,Ei i62)]) (fun i62 s62=>[]) (fun i62=>s.Columns.length - i62) 0 () h ⟨(.sm O O),G,rfl⟩ ?_
   clear h
   intro i62 s62 hi62 K62 e62
   refine Js fun hK63=>Jr fun hK64=>(G57 (Ei i62) O (JLh (Eb s) (Ga Hj O O O) O (JLh (E4 s.Columns) (Gf Ht O O O) O (JLl H5 O O O fun hm89=>(JLh (BL (decide ((i62:Int) < (s.Columns.length:Int)))) (J1 O O O) O (G8 (hK64 (Gm O (fun hb=>?_) (fun hb=>?_)))))))))
   ·
    have hk62:=Jc hb
    obtain⟨y62,nx62,hy62,hn62,h⟩:=Hm hi62 hk62
    replace h:=Rn hb62 h
    refine Gn (hK63 (Js fun hK65=>Gp (Jr fun hK66=>(JLh (.agg (H2.cs s)) (Gj Hh O O O) O (G57 (E3 boxes) O (G57 (E2 l) O (G57 (Ei i62) O ?_)))))))
    obtain⟨r67,hr67,h⟩:=Ge h
    refine JLh (BL r67) (Gk O (H79 s boxes l (i62:Int) r67 hr67) Q95 ⟨O,O,O,O,O,O,O,O,G⟩) O (G8 (hK66 (JCc O h (fun h hb=>?_) (fun h hb=>?_))))
    ·
     refine Jr fun hK68=>(G57 (BL false) O (G8 (hK68 (Gr (fin1 BL h)))))
    ·
     refine Gn (hK65 (G3 (G57 (Ei i62) O (JLh (G0 ((i62+1:Nat):Int)) (Hu (Hc hk62 hm89) O O O) O (G57 (G0 ((i62+1:Nat):Int)) O (G8 (e62 _ _ (i62+1) () (app1 hn62 h) (by omega) ⟨(.sm O O),G,rfl⟩)))))))
   ·
    have h:=app1 hkx62 (Hn hi62 (H6 hb))
    refine Hk (hK49 (Jr fun hK69=>(G57 (BL true) O (G8 (hK69 (Gr (fin1 BL h)))))))

def Yq (l:List Stowed) (id_:Int):Option Int:=
 each (fun y17 i17 (s17:Unit) nx17=>
  bif decide (y17.Gg=id_) then
  (some (i17:Int))
  else
  (nx17 ()))
 (fun(s17:Unit)=>
  some (-1)) l 0 ()
theorem G77 (l:List Stowed) (id_:Int) (r:Int) (h:Yq l id_=some r):Pure Ej 36 [E2 l,G0 id_] (·=G0 r):=by
 unfold Yq at h
 refine Gx [.tmp 4] Tryz.func36 O O (Jr fun hK1=>(G57 (G0 0) O (G8 (hK1 (Js fun hK2=>Jr fun hK3=>(G57 (G0 0) O (G8 (hK3 (Gp ?_)))))))))
 obtain⟨b17,kx17,hb17,hkx17,h⟩:=Hx h
 refine He (fun i17 (s17:Unit)=>each b17 kx17 (List.drop i17 l) i17 s17=some r) (fun i17 s17=>[(0,E2 l),(1,G0 id_),(5,Ei i17)]) (fun i17 s17=>[]) (fun i17=>l.length - i17) 0 () h ⟨(.sm O O),G,O⟩ ?_
 clear h
 intro i17 s17 hi17 K17 e17
 refine Js fun hK18=>Jr fun hK19=>(G57 (Ei i17) O (G57 (E2 l) O (JLl H0 O O O fun hm8=>(JLh (BL (decide ((i17:Int) < (l.length:Int)))) (J1 O O O) O (G8 (hK19 (Gm O (fun hb=>?_) (fun hb=>?_))))))))
 ·
  have hk17:=Jc hb
  obtain⟨y17,nx17,hy17,hn17,h⟩:=Hm hi17 hk17
  replace h:=Rn hb17 h
  refine Gn (hK18 (Js fun hK20=>Gp (Jr fun hK21=>(G57 (E2 l) O (G57 (Ei i17) O (JLh (Ec y17) (Gw (f:=Stowed.av) (xs:=l) (y:=y17) O O O H0 hy17 O) O (JLh (Ec y17) (Ga Hw O O O) O (JLh (G0 y17.Gg) (Gf Gc O O O) O (G57 (G0 id_) O (JLh (BL (decide (y17.Gg=id_))) (Jx O O O) O (G8 (hK21 (JCc O h (fun h hb=>?_) (fun h hb=>?_))))))))))))))
  ·
   refine Jr fun hK22=>(G57 (Ei i17) O (G57 (Ei i17) O (G8 (hK22 (Gr (fin1 G0 h))))))
  ·
   refine Gn (hK20 (G3 (G57 (Ei i17) O (JLh (G0 ((i17+1:Nat):Int)) (Hu (Hc hk17 hm8) O O O) O (G57 (G0 ((i17+1:Nat):Int)) O (G8 (e17 _ _ (i17+1) () (app1 hn17 h) (by omega) ⟨(.sm O O),G,rfl⟩)))))))
 ·
  have h:=app1 hkx17 (Hn hi17 (H6 hb))
  refine Hk (hK2 (Jr fun hK23=>(G57 (G0 (-1)) O (G8 (hK23 (Gr (fin1 G0 h)))))))

def Jm (boxes:List Gg) (id_:Int):Option Int:=
 bnd (Rx boxes id_) fun r3=>
 some r3.1.Discharge
theorem Qu (boxes:List Gg) (id_:Int) (r:Int) (h:Jm boxes id_=some r):Pure Ej 41 [E3 boxes,G0 id_] (·=G0 r):=by
 unfold Jm at h
 refine Gx [.tmp 4] Tryz.func41 O O (Jr fun hK1=>(G57 (G0 0) O (G8 (hK1 (Jr fun hK2=>(G57 (E3 boxes) O (G57 (G0 id_) O ?_)))))))
 obtain⟨r3,hr3,h⟩:=Ge h
 refine JLh (.tup [.agg (Gg.cs r3.1),BL r3.2]) (Gk O (G5f boxes id_ r3 hr3) J1b ⟨O,O,O,O,G⟩) O (G57 (.tup [.agg (Gg.cs r3.1),BL r3.2]) O (JLh (.agg (Gg.cs r3.1)) (H9 O O O) O (JLh (BL r3.2) (H9 O O O) O (JLh (.ptr 1074 0) (Ju 1074 9 G2b O O) O (Jf (u:=.junk) (J2 (u:=.agg (Gg.cs r3.1)) (ds:=(Gg.cs r3.1)) G06 O O O O O O O O) (G57 (BL r3.2) O (G8 (hK2 (Gu [(5,Ee r3.1)] [] 1074 rfl rfl rfl G rfl (by exact⟨.ptr,G⟩) (Jr fun hK4=>(JLh (.dptr ((Gg.cs r3.1).drop 6)) (Ga Hff O O O) O (JLh (G0 r3.1.Discharge) (Gf Gc O O O) O (G57 (G0 r3.1.Discharge) O (G8 (hK4 (Gr (fin1 G0 h)))))))))))))))))

def Rs (s:H2) (column:Int):Option Int:=
 bif ((decide (column < 0))||(decide ((s.Columns.length:Int)≤column))) then
 (some (-1))
 else
 (each (fun y30 i30 (s30:Unit) nx30=>
   Qr s.Columns column fun y35=>
   bnd (bif decide (y30.Bay=y35.Bay) then Qr s.Columns column some else some default) fun y37=>
   bnd (bif decide (y30.Bay=y35.Bay) then Qf y30.Rows y37.Row else some default) fun r38=>
   bif ((decide (y30.Bay=y35.Bay))&&r38) then
   (some (i30:Int))
   else
   (nx30 ()))
  (fun(s30:Unit)=>
   some (-1)) s.Covers 0 ())
abbrev Ka (s:H2):List AV:=[E5 s.Covers,G0 s.Light.Kilos,G0 s.Light.X,G0 s.Light.Y,G0 s.Light.Z,E7 s.Rows,E6 s.Frames,E8 s.Tanks,G0 s.G2.Tolerance,G0 s.G2.Trim,G0 s.G2.List_,G0 s.G2.Stability]
theorem G86 (s:H2) (column:Int) (r:Int) (h:Rs s column=some r):Pure Ej 109 [.agg (H2.cs s),G0 column] (·=G0 r):=by
 unfold Rs at h
 refine Gx [.tmp 4] Tryz.func109 O O (Jr fun hK1=>(JLh (.ptr 1161 0) (Ja (cs:=(H2.cs s)) 1161 O O O O O) O (G57 (G0 0) O (G8 (hK1 (Gu [(1,G0 column),(2,Eb s)] [] 1161 rfl rfl rfl G rfl (by exact⟨.conv (.same rfl),.ptr,G⟩) (Js fun hK2=>?_)))))))
 refine Jr fun hK3=>(G57 (G0 column) O (JLh (BL (decide (column < 0))) (J1 O O O) O (G57 (BL (decide (column < 0))) O (JLo (G0 column) [] O .scf G (fun hc=>G5 O O) O (JLo (Eb s) [] O .scf G (fun hc=>Ga Hj O O O) O (JLo (E4 s.Columns) [10] O .scf ⟨Ua,G⟩ (fun hc=>Gf Ht O O O) O (JLo (Ei s.Columns.length) [11] O .scf ⟨Ua,G⟩ (fun hc=>Qw (f:=G4.av) (xs:=s.Columns) H5 O O) O (JLo (BL (decide ((s.Columns.length:Int)≤column))) [9,12] O .scf ⟨Ua,Ua,G⟩ (fun hc=>G31 O O O) O (JLh (BL ((decide (column < 0))||(decide ((s.Columns.length:Int)≤column)))) (Yc O O O O) O (G8 (hK3 ?_)))))))))))
 refine JCc O h ?_ ?_<;>intro h hb
 ·
  refine Jr fun hK4=>(G57 (G0 (-1)) O (G8 (hK4 (Gr (fin1 G0 h)))))
 ·
  refine Gn (hK2 (Js fun hK5=>Jr fun hK6=>(G57 (G0 0) O (G8 (hK6 (Gp ?_))))))
  obtain⟨b30,kx30,hb30,hkx30,h⟩:=Hx h
  refine He (fun i30 (s30:Unit)=>each b30 kx30 (List.drop i30 s.Covers) i30 s30=some r) (fun i30 s30=>[(1,G0 column),(2,Eb s),(5,Ei i30)]) (fun i30 s30=>[]) (fun i30=>s.Covers.length - i30) 0 () h ⟨(.sm O O),G,O⟩ ?_
  clear h
  intro i30 s30 hi30 K30 e30
  refine Js fun hK31=>Jr fun hK32=>(G57 (Ei i30) O (JLh (.dptr (Ka s)) (Ga Jk O O O) O (JLh (E5 s.Covers) (Gf Q4 O O O) O (JLl Hr O O O fun hm18=>(JLh (BL (decide ((i30:Int) < (s.Covers.length:Int)))) (J1 O O O) O (G8 (hK32 (Gm O (fun hb=>?_) (fun hb=>?_)))))))))
  ·
   have hk30:=Jc hb
   obtain⟨y30,nx30,hy30,hn30,h⟩:=Hm hi30 hk30
   replace h:=Rn hb30 h
   refine Gn (hK31 (Js fun hK33=>Gp (Js fun hK34=>?_)))
   obtain⟨m36,y35,hm36,hy35,h⟩:=R2 h
   obtain⟨y37,hy37,h⟩:=Ge h
   obtain⟨r38,hr38,h⟩:=Ge h
   refine JC_d0 Jg (by kernel_rfl) (Dq (.dptr (Ka s)) (Ga Jk O O O) O (Dq (E5 s.Covers) (Gf Q4 O O O) O (Dq (Ei i30) (G5 O O) O (Dq (.dptr [G0 y30.Bay,E1 y30.Rows]) (Gw (f:=G9.av) (xs:=s.Covers) (y:=y30) O O O Hr hy30 O) O (Dq (.dptr [G0 y30.Bay,E1 y30.Rows]) (Ga Zk O O O) O (Dq (G0 y30.Bay) (Gf Gc O O O) O (Dq (Eb s) (Ga Hj O O O) O (Dq (E4 s.Columns) (Gf Ht O O O) O (Dq (G0 column) (G5 O O) O (Dq (Ed y35) (Gw (f:=G4.av) (xs:=s.Columns) (y:=y35) O O O H5 hy35 hm36) O (Dq (Ed y35) (Ga G0f O O O) O (Dq (G0 y35.Bay) (Gf Gc O O O) O (Dq (BL (decide (y30.Bay=y35.Bay))) (Jx O O O) O ?_)))))))))))))
   refine Dq (BL (decide (y30.Bay=y35.Bay))) (G5 O O) O (Do (.dptr (Ka s)) [] O .sct G (fun hc=>Ga Jk O O O) O (Do (E5 s.Covers) [36] O .sct ⟨Ua,G⟩ (fun hc=>Gf Q4 O O O) O (Do (Ei i30) [] O .sct G (fun hc=>G5 O O) O (Do (.dptr [G0 y30.Bay,E1 y30.Rows]) [37,38] O .sct ⟨Ua,Ua,G⟩ (fun hc=>Gw (f:=G9.av) (xs:=s.Covers) (y:=y30) O O O Hr hy30 O) O (Do (.dptr [E1 y30.Rows]) [39] O .sct ⟨Ua,G⟩ (fun hc=>Ga Q8 O O O) O (Do (E1 y30.Rows) [40] O .sct ⟨Ua,G⟩ (fun hc=>Gf Hy O O O) O (Do (Eb s) [] O .sct G (fun hc=>Ga Hj O O O) O (Do (E4 s.Columns) [42] O .sct ⟨Ua,G⟩ (fun hc=>Gf Ht O O O) O (Do (G0 column) [] O .sct G (fun hc=>G5 O O) O (Do (Ed y37) [43,44] O .sct ⟨Ua,Ua,G⟩ (fun hc=>(match Qa (Gy hc hy37) with | ⟨_,hm_,hy_⟩=>Gw (f:=G4.av) (xs:=s.Columns) (y:=y37) O O O H5 hy_ hm_)) O (Do (.dptr ((G4.cs y37).drop 1)) [45] O .sct ⟨Ua,G⟩ (fun hc=>Ga G0e O O O) O (Do (G0 y37.Row) [46] O .sct ⟨Ua,G⟩ (fun hc=>Gf Gc O O O) O (Do (BL r38) [41,47] O .sct ⟨Ua,Ua,G⟩ (fun hc=>Gk (args:=[E1 y30.Rows,G0 y37.Row]) O (G9e y30.Rows y37.Row r38 (Gy hc hr38)) J8d ⟨O,O,O,O,G⟩) O ?_)))))))))))))
   refine Dq (BL ((decide (y30.Bay=y35.Bay))&&r38)) (J5 O O O O) O (Dnil (hK34 (JCc O h (fun h hb=>?_) (fun h hb=>?_))))
   ·
    refine Jr fun hK39=>(G57 (Ei i30) O (G57 (Ei i30) O (G8 (hK39 (Gr (fin1 G0 h))))))
   ·
    refine Gn (hK33 (G3 (G57 (Ei i30) O (JLh (G0 ((i30+1:Nat):Int)) (Hu (Hc hk30 hm18) O O O) O (G57 (G0 ((i30+1:Nat):Int)) O (G8 (e30 _ _ (i30+1) () (app1 hn30 h) (by omega) ⟨(.sm O O),G,rfl⟩)))))))
  ·
   have h:=app1 hkx30 (Hn hi30 (H6 hb))
   refine Hk (hK5 (Jr fun hK40=>(G57 (G0 (-1)) O (G8 (hK40 (Gr (fin1 G0 h)))))))

def Zq (s:H2) (column:Int):Option Int:=
 Qr s.Columns column fun y4=>
 bif y4.Deck then
 (some (-1))
 else
 (bnd (Rs s column) fun r8=>
  some r8)
theorem H6c (s:H2) (column:Int) (r:Int) (h:Zq s column=some r):Pure Ej 88 [.agg (H2.cs s),G0 column] (·=G0 r):=by
 unfold Zq at h
 refine Gx [.tmp 4] Tryz.func88 O O (Jr fun hK1=>(JLh (.ptr 1132 0) (Ja (cs:=(H2.cs s)) 1132 O O O O O) O (G57 (G0 0) O (G8 (hK1 (Gu [(1,G0 column),(2,Eb s)] [] 1132 rfl rfl rfl G rfl (by exact⟨.conv (.same rfl),.ptr,G⟩) (Js fun hK2=>?_)))))))
 refine Jr fun hK3=>(JLh (Eb s) (Ga Hj O O O) O (JLh (E4 s.Columns) (Gf Ht O O O) O (G57 (G0 column) O ?_)))
 obtain⟨m5,y4,hm5,hy4,h⟩:=R2 h
 refine JLh (Ed y4) (Gw (f:=G4.av) (xs:=s.Columns) (y:=y4) O O O H5 hy4 hm5) O (JLh (.dptr ((G4.cs y4).drop 2)) (Ga Yw O O O) O (JLh (BL y4.Deck) (Gf Ra O O O) O (G8 (hK3 (JCc O h (fun h hb=>?_) (fun h hb=>?_))))))
 ·
  refine Jr fun hK6=>(G57 (G0 (-1)) O (G8 (hK6 (Gr (fin1 G0 h)))))
 ·
  refine Gn (hK2 (Jr fun hK7=>(JLh (.agg (H2.cs s)) (Gj Hh O O O) O (G57 (G0 column) O ?_))))
  obtain⟨r8,hr8,h⟩:=Ge h
  refine JLh (G0 r8) (Gk O (G86 s column r8 hr8) J92 ⟨O,O,O,O,G⟩) O (G57 (G0 r8) O (G8 (hK7 (Gr (fin1 G0 h)))))

def G01 (a:Slot) (b:Slot):Option Bool:=
 bnd (bif ((decide (a.G4=b.G4))&&(decide (b.Tier < a.Tier))) then R4 a.Half b.Half else some default) fun r3=>
 some (((decide (a.G4=b.G4))&&(decide (b.Tier < a.Tier)))&&r3)
theorem H7a (a:Slot) (b:Slot) (r:Bool) (h:G01 a b=some r):Pure Ej 89 [.agg [G0 a.G4,G0 a.Tier,U8 a.Half],.agg [G0 b.G4,G0 b.Tier,U8 b.Half]] (·=BL r):=by
 unfold G01 at h
 refine Gx [.tmp 4] Tryz.func89 O O (Jr fun hK1=>(JLh (.ptr 1133 0) (Ja (cs:=[G0 a.G4,G0 a.Tier,U8 a.Half]) 1133 O O O O O) O (JLh (.ptr 1134 0) (Ja (cs:=[G0 b.G4,G0 b.Tier,U8 b.Half]) 1134 O O O O O) O (G57 (BL false) O (G8 (hK1 (Gu [(2,.dptr [G0 a.G4,G0 a.Tier,U8 a.Half]),(3,.ptr 1134 0)] [(1134,.box 71 [G0 b.G4,G0 b.Tier,U8 b.Half])] 1133 rfl rfl rfl ⟨⟨_,rfl,.boxEq rfl rfl⟩,G⟩ rfl (by exact⟨.ptr,.conv (.same rfl),G⟩) (Gu [(2,.dptr [G0 a.G4,G0 a.Tier,U8 a.Half]),(3,.dptr [G0 b.G4,G0 b.Tier,U8 b.Half])] [] 1134 rfl rfl rfl G rfl (by exact⟨.conv (.same rfl),.ptr,G⟩) ?_))))))))
 refine Jr fun hK2=>(JLh (.dptr [G0 a.G4,G0 a.Tier,U8 a.Half]) (Ga Jb O O O) O (JLh (G0 a.G4) (Gf Gc O O O) O (JLh (.dptr [G0 b.G4,G0 b.Tier,U8 b.Half]) (Ga Jb O O O) O (JLh (G0 b.G4) (Gf Gc O O O) O (JLh (BL (decide (a.G4=b.G4))) (Jx O O O) O (G57 (BL (decide (a.G4=b.G4))) O (JLo (.dptr [G0 a.Tier,U8 a.Half]) [] O .sct G (fun hc=>Ga Qk O O O) O (JLo (G0 a.Tier) [11] O .sct ⟨Ua,G⟩ (fun hc=>Gf Gc O O O) O (JLo (.dptr [G0 b.Tier,U8 b.Half]) [] O .sct G (fun hc=>Ga Qk O O O) O (JLo (G0 b.Tier) [13] O .sct ⟨Ua,G⟩ (fun hc=>Gf Gc O O O) O (JLo (BL (decide (b.Tier < a.Tier))) [12,14] O .sct ⟨Ua,Ua,G⟩ (fun hc=>G3d O O O) O (JLh (BL ((decide (a.G4=b.G4))&&(decide (b.Tier < a.Tier)))) (J5 O O O O) O (G57 (BL ((decide (a.G4=b.G4))&&(decide (b.Tier < a.Tier)))) O ?_)))))))))))))
 refine JLo (.dptr [U8 a.Half]) [] O .sct G (fun hc=>Ga Jy O O O) O (JLo (U8 a.Half) [18] O .sct ⟨Ua,G⟩ (fun hc=>Gf Jd O O O) O (JLo (.dptr [U8 b.Half]) [] O .sct G (fun hc=>Ga Jy O O O) O (JLo (U8 b.Half) [20] O .sct ⟨Ua,G⟩ (fun hc=>Gf Jd O O O) O ?_)))
 obtain⟨r3,hr3,h⟩:=Ge h
 refine JLo (BL r3) [19,21] O .sct ⟨Ua,Ua,G⟩ (fun hc=>Gk (args:=[U8 a.Half,U8 b.Half]) O (G9d a.Half b.Half r3 (Gy hc hr3)) J8c ⟨O,O,O,O,G⟩) O (JLh (BL (((decide (a.G4=b.G4))&&(decide (b.Tier < a.Tier)))&&r3)) (J5 O O O O) O (G57 (BL (((decide (a.G4=b.G4))&&(decide (b.Tier < a.Tier)))&&r3)) O (G8 (hK2 (Gr (fin1 BL h))))))

def Yu (s:H2) (column:Int) (cover:Int):Option Bool:=
 Qr s.Columns column fun y3=>
 bnd (bif y3.Deck then Rs s column else some default) fun r5=>
 some (y3.Deck&&(decide (r5=cover)))
theorem H78 (s:H2) (column:Int) (cover:Int) (r:Bool) (h:Yu s column cover=some r):Pure Ej 90 [.agg (H2.cs s),G0 column,G0 cover] (·=BL r):=by
 unfold Yu at h
 refine Gx [.tmp 6] Tryz.func90 O O (Jr fun hK1=>(JLh (.ptr 1135 0) (Ja (cs:=(H2.cs s)) 1135 O O O O O) O (G57 (BL false) O (G8 (hK1 (Gu [(1,G0 column),(2,G0 cover),(3,Eb s)] [] 1135 rfl rfl rfl G rfl (by exact⟨.conv (.same rfl),.conv (.same rfl),.ptr,G⟩) ?_))))))
 refine Jr fun hK2=>(JLh (Eb s) (Ga Hj O O O) O (JLh (E4 s.Columns) (Gf Ht O O O) O (G57 (G0 column) O ?_)))
 obtain⟨m4,y3,hm4,hy3,h⟩:=R2 h
 refine JLh (Ed y3) (Gw (f:=G4.av) (xs:=s.Columns) (y:=y3) O O O H5 hy3 hm4) O (JLh (.dptr ((G4.cs y3).drop 2)) (Ga Yw O O O) O (JLh (BL y3.Deck) (Gf Ra O O O) O (G57 (BL y3.Deck) O (JLo (.agg (H2.cs s)) [] O .sct G (fun hc=>Gj Hh O O O) O (JLo (G0 column) [] O .sct G (fun hc=>G5 O O) O ?_)))))
 obtain⟨r5,hr5,h⟩:=Ge h
 refine JLo (G0 r5) [14,15] O .sct ⟨Ua,Ua,G⟩ (fun hc=>Gk (args:=[.agg (H2.cs s),G0 column]) O (G86 s column r5 (Gy hc hr5)) J92 ⟨O,O,O,O,G⟩) O (JLo (G0 cover) [] O .sct G (fun hc=>G5 O O) O (JLo (BL (decide (r5=cover))) [16,17] O .sct ⟨Ua,Ua,G⟩ (fun hc=>Jx O O O) O (JLh (BL (y3.Deck&&(decide (r5=cover)))) (J5 O O O O) O (G57 (BL (y3.Deck&&(decide (r5=cover)))) O (G8 (hK2 (Gr (fin1 BL h))))))))
end
end Go.Proofs.YthcpolfodgjekaaGreat
