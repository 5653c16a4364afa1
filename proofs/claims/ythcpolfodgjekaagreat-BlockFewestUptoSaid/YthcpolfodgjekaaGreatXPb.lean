/-
 Models of functions of the program,and that they return what the models say.
-/
import Derived.Test.YthcpolfodgjekaaGreatXPa
set_option maxRecDepth 100000
set_option maxHeartbeats 1000000
set_option linter.unusedVariables false
set_option linter.unusedSimpArgs false
namespace Go.Proofs.YthcpolfodgjekaaGreat
open Go.RowKit
noncomputable section
open XAF
open XLF
open XCF
open XGF
open XHF
open XPF

def G0c (F:Nat) (s:H0):Option Bool:=
 bnd (J2 (s.Columns.length:Int) 1 200) fun r4=>
 bif ((!r4)||(decide (40 < (s.Covers.length:Int)))) then
 (some false)
 else
 (each (fun y8 i8 (s8:Unit) nx8=>
   bnd (Zx y8) fun r14=>
   bif (!r14) then
   (some false)
   else
   (need (decide ((i8:Int)≤9223372036854775807)) <|
    upto (fun i34 (s34:Unit) nx34=>
     Qm s.Columns (i34:Int) fun y39=>
     bnd (bif decide (y39.Bay=y8.Bay) then Qm s.Columns (i34:Int) some else some default) fun y41=>
     bnd (bif ((decide (y39.Bay=y8.Bay))&&(decide (y41.Row=y8.Row))) then Qm s.Columns (i34:Int) some else some default) fun y42=>
     bif (((decide (y39.Bay=y8.Bay))&&(decide (y41.Row=y8.Row)))&&(y42.Deck==y8.Deck)) then
     (some false)
     else
     (nx34 ()))
    (fun(s34:Unit)=>
     nx8 ()) (i8:Int).toNat 0 ()))
  (fun(s8:Unit)=>
   each (fun y46 i46 (s46:Unit) nx46=>
    bnd (J2 y46.Bay 0 39) fun r53=>
    bif ((!r53)||(decide ((y46.Rows.length:Int)=0))) then
    (some false)
    else
    (each (fun y56 i56 (s56:Unit) nx56=>
      bnd (J2 y56 0 30) fun r62=>
      bnd (bif ((!(!r62))&&(decide (0 < (i56:Int)))) then chk ((i56:Int) - 1) some else some 0) fun v63=>
      bnd (bif ((!(!r62))&&(decide (0 < (i56:Int)))) then Qm y46.Rows v63 some else some default) fun y64=>
      bif ((!r62)||((decide (0 < (i56:Int)))&&(decide (y56≤y64)))) then
      (some false)
      else
      (need (decide ((i46:Int)≤9223372036854775807)) <|
       upto (fun i84 (s84:Unit) nx84=>
        Qm s.Covers (i84:Int) fun y89=>
        bnd (bif decide (y89.Bay=y46.Bay) then Qm s.Covers (i84:Int) some else some default) fun y91=>
        bnd (bif decide (y89.Bay=y46.Bay) then Qn y91.Rows y56 else some default) fun r92=>
        bif ((decide (y89.Bay=y46.Bay))&&r92) then
        (some false)
        else
        (nx84 ()))
       (fun(s84:Unit)=>
        nx56 ()) (i46:Int).toNat 0 ()))
     (fun(s56:Unit)=>
      nx46 ()) y46.Rows 0 ()))
   (fun(s46:Unit)=>
    some true) s.Covers 0 ()) s.Columns 0 ())
abbrev K0 (s:H0):List AV:=[E6 s.Covers,I64 s.Light.Kilos,I64 s.Light.X,I64 s.Light.Y,I64 s.Light.Z,E8 s.Rows,E7 s.Frames,E9 s.Tanks,I64 s.G1.Tolerance,I64 s.G1.Trim,I64 s.G1.List_,I64 s.G1.Stability]
theorem H9b (F:Nat) (s:H0) (r:Bool) (h:G0c F s=some r):Pure Ej 73 [.agg (H0.cs s)] (·=BL r):=by
 unfold G0c at h
 refine Gy [.tmp 2] Tryz.func73 O O (Jr fun hK1=>(JLh (.ptr 1124 0) (J7 (cs:=(H0.cs s)) 1124 O O O O O) O (JLm (BL false) O (G7 (hK1 (Gr [(1,Eb s)] [] 1124 rfl rfl rfl G rfl (by exact⟨.ptr,G⟩) (Js fun hK2=>?_)))))))
 refine Jr fun hK3=>(JLh (Eb s) (Ga Hh O O O) O (JLh (E5 s.Columns) (Ge Ho O O O) O (JLl H6 O O O fun hm11=>?_)))
 obtain⟨r4,hr4,h⟩:=Gd h
 refine JLh (BL r4) (Gi O (Jc (s.Columns.length:Int) 1 200 r4 hr4) Zu ⟨O,O,O,O,O,O,G⟩) O (JLh (BL (!r4)) (Q3 (b:=r4) O O) O (JLm (BL (!r4)) O (JLo (.dptr (K0 s)) [] O .scf G (fun hc=>Ga Jg O O O) O (JLo (E6 s.Covers) [15] O .scf ⟨Ua,G⟩ (fun hc=>Ge Jv O O O) O (JLo (Ei s.Covers.length) [16] O .scf ⟨Ua,G⟩ (fun hc=>Qs (f:=G8.av) (xs:=s.Covers) Hq O O) O (JLo (BL (decide (40 < (s.Covers.length:Int)))) [17] O .scf ⟨Ua,G⟩ (fun hc=>G41 O O O) O (JLh (BL ((!r4)||(decide (40 < (s.Covers.length:Int))))) (Rs O O O O) O (G7 (hK3 ?_)))))))))
 refine JCc O h ?_ ?_<;>intro h hb
 ·
  refine Jr fun hK5=>(JLm (BL false) O (G7 (hK5 (Gq (fin1 BL h)))))
 ·
  refine Gm (hK2 (Js fun hK6=>Jr fun hK7=>(JLm (I64 0) O (G7 (hK7 (Gp ?_))))))
  obtain⟨b8,kx8,hb8,hkx8,h⟩:=Hv h
  refine Hc (fun i8 (s8:Unit)=>each b8 kx8 (List.drop i8 s.Columns) i8 s8=some r) (fun i8 s8=>[(1,Eb s),(3,Ei i8)]) (fun i8 s8=>[]) (fun i8=>s.Columns.length - i8) 0 () h ⟨(.sm O O),G,O⟩ ?_
  clear h
  intro i8 s8 hi8 K8 e8
  refine Js fun hK9=>Jr fun hK10=>(JLm (Ei i8) O (JLh (Eb s) (Ga Hh O O O) O (JLh (E5 s.Columns) (Ge Ho O O O) O (JLl H6 O O O fun hm23=>(JLh (BL (decide ((i8:Int) < (s.Columns.length:Int)))) (Hy O O O) O (G7 (hK10 (Gj O (fun hb=>?_) (fun hb=>?_)))))))))
  ·
   have hk8:=J8 hb
   obtain⟨y8,nx8,hy8,hn8,h⟩:=Hj hi8 hk8
   replace h:=R8 hb8 h
   refine Gm (hK9 (Js fun hK11=>Gp (Js fun hK12=>Jr fun hK13=>(JLh (Eb s) (Ga Hh O O O) O (JLh (E5 s.Columns) (Ge Ho O O O) O (JLm (Ei i8) O (JLh (Ed y8) (Gv (f:=G3.av) (xs:=s.Columns) (y:=y8) O O O H6 hy8 O) O (JLh (.agg (G3.cs y8)) (Gg Y6 O O O) O ?_))))))))
   obtain⟨r14,hr14,h⟩:=Gd h
   refine JLh (BL r14) (Gi O (H7a y8 r14 hr14) R05 ⟨O,O,G⟩) O (JLh (BL (!r14)) (Q3 (b:=r14) O O) O (G7 (hK13 (JCc O h (fun h hb=>?_) (fun h hb=>?_)))))
   ·
    refine Jr fun hK15=>(JLm (BL false) O (G7 (hK15 (Gq (fin1 BL h)))))
   ·
    refine Gm (hK12 (Jr fun hK16=>(JLm (I64 0) O (G7 (hK16 (Gp ?_))))))
    obtain⟨hx34,h⟩:=Hp h
    obtain⟨b34,kx34,hb34,hkx34,h⟩:=G8a h
    refine Hc (fun i34 (s34:Unit)=>upto b34 kx34 ((i8:Int).toNat - i34) i34 s34=some r) (fun i34 s34=>[(1,Eb s),(3,Ei i8),(4,Ei i34)]) (fun i34 s34=>[]) (fun i34=>(i8:Int).toNat - i34) 0 () h ⟨(.sm O O),G,O⟩ ?_
    clear h
    intro i34 s34 hi34 K34 e34
    refine Js fun hK35=>Jr fun hK36=>(JLm (Ei i34) O (JLm (Ei i8) O (JLh (BL (decide ((i34:Int) < (i8:Int)))) (Hy O O O) O (G7 (hK36 (Gj O (fun hb=>?_) (fun hb=>?_)))))))
    ·
     have hk34:=G5d hb
     obtain⟨nx34,hn34,h⟩:=G58 hi34 hk34
     replace h:=J02 hb34 h
     refine Gm (hK35 (Js fun hK37=>Gp (Js fun hK38=>?_)))
     obtain⟨m40,y39,hm40,hy39,h⟩:=Rb h
     obtain⟨y41,hy41,h⟩:=Gd h
     obtain⟨y42,hy42,h⟩:=Gd h
     refine JC_d0 Jb (by kernel_rfl) (Dq (Eb s) (Ga Hh O O O) O (Dq (E5 s.Columns) (Ge Ho O O O) O (Dq (Ei i34) (G4 O O) O (Dq (Ed y39) (Gv (f:=G3.av) (xs:=s.Columns) (y:=y39) O O O H6 hy39 hm40) O (Dq (Ed y39) (Ga G26 O O O) O (Dq (I64 y39.Bay) (Ge Gb O O O) O (Dq (Eb s) (Ga Hh O O O) O (Dq (E5 s.Columns) (Ge Ho O O O) O (Dq (Ei i8) (G4 O O) O (Dq (Ed y8) (Gv (f:=G3.av) (xs:=s.Columns) (y:=y8) O O O H6 hy8 O) O (Dq (Ed y8) (Ga G26 O O O) O (Dq (I64 y8.Bay) (Ge Gb O O O) O (Dq (BL (decide (y39.Bay=y8.Bay))) (Ju O O O) O ?_)))))))))))))
     refine Dq (BL (decide (y39.Bay=y8.Bay))) (G4 O O) O (Do (Eb s) [] O .sct G (fun hc=>Ga Hh O O O) O (Do (E5 s.Columns) [53] O .sct ⟨Ua,G⟩ (fun hc=>Ge Ho O O O) O (Do (Ei i34) [] O .sct G (fun hc=>G4 O O) O (Do (Ed y41) [54,55] O .sct ⟨Ua,Ua,G⟩ (fun hc=>(match Q0 (Gw hc hy41) with | ⟨_,hm_,hy_⟩=>Gv (f:=G3.av) (xs:=s.Columns) (y:=y41) O O O H6 hy_ hm_)) O (Do (.dptr ((G3.cs y41).drop 1)) [56] O .sct ⟨Ua,G⟩ (fun hc=>Ga G25 O O O) O (Do (I64 y41.Row) [57] O .sct ⟨Ua,G⟩ (fun hc=>Ge Gb O O O) O (Do (Eb s) [] O .sct G (fun hc=>Ga Hh O O O) O (Do (E5 s.Columns) [59] O .sct ⟨Ua,G⟩ (fun hc=>Ge Ho O O O) O (Do (Ei i8) [] O .sct G (fun hc=>G4 O O) O (Do (Ed y8) [60,61] O .sct ⟨Ua,Ua,G⟩ (fun hc=>Gv (f:=G3.av) (xs:=s.Columns) (y:=y8) O O O H6 hy8 O) O (Do (.dptr ((G3.cs y8).drop 1)) [62] O .sct ⟨Ua,G⟩ (fun hc=>Ga G25 O O O) O (Do (I64 y8.Row) [63] O .sct ⟨Ua,G⟩ (fun hc=>Ge Gb O O O) O (Do (BL (decide (y41.Row=y8.Row))) [58,64] O .sct ⟨Ua,Ua,G⟩ (fun hc=>Ju O O O) O ?_)))))))))))))
     refine Dq (BL ((decide (y39.Bay=y8.Bay))&&(decide (y41.Row=y8.Row)))) (J4 O O O O) O (Dq (BL ((decide (y39.Bay=y8.Bay))&&(decide (y41.Row=y8.Row)))) (G4 O O) O (Do (Eb s) [] O .sct G (fun hc=>Ga Hh O O O) O (Do (E5 s.Columns) [68] O .sct ⟨Ua,G⟩ (fun hc=>Ge Ho O O O) O (Do (Ei i34) [] O .sct G (fun hc=>G4 O O) O (Do (Ed y42) [69,70] O .sct ⟨Ua,Ua,G⟩ (fun hc=>(match Q0 (Gw hc hy42) with | ⟨_,hm_,hy_⟩=>Gv (f:=G3.av) (xs:=s.Columns) (y:=y42) O O O H6 hy_ hm_)) O (Do (.dptr ((G3.cs y42).drop 2)) [71] O .sct ⟨Ua,G⟩ (fun hc=>Ga Ro O O O) O (Do (BL y42.Deck) [72] O .sct ⟨Ua,G⟩ (fun hc=>Ge Qv O O O) O (Do (Eb s) [] O .sct G (fun hc=>Ga Hh O O O) O (Do (E5 s.Columns) [74] O .sct ⟨Ua,G⟩ (fun hc=>Ge Ho O O O) O (Do (Ei i8) [] O .sct G (fun hc=>G4 O O) O (Do (Ed y8) [75,76] O .sct ⟨Ua,Ua,G⟩ (fun hc=>Gv (f:=G3.av) (xs:=s.Columns) (y:=y8) O O O H6 hy8 O) O (Do (.dptr ((G3.cs y8).drop 2)) [77] O .sct ⟨Ua,G⟩ (fun hc=>Ga Ro O O O) O (Do (BL y8.Deck) [78] O .sct ⟨Ua,G⟩ (fun hc=>Ge Qv O O O) O ?_)))))))))))))
     refine Do (BL (y42.Deck==y8.Deck)) [73,79] O .sct ⟨Ua,Ua,G⟩ (fun hc=>J8d J12 O O O) O (Dq (BL (((decide (y39.Bay=y8.Bay))&&(decide (y41.Row=y8.Row)))&&(y42.Deck==y8.Deck))) (J4 O O O O) O (Dnil (hK38 (JCc O h (fun h hb=>?_) (fun h hb=>?_)))))
     ·
      refine Jr fun hK43=>(JLm (BL false) O (G7 (hK43 (Gq (fin1 BL h)))))
     ·
      refine Gm (hK37 (G2 (JLm (Ei i34) O (JLh (I64 ((i34+1:Nat):Int)) (Ht (Hb hk34 (G36 hx34)) O O O) O (JLm (I64 ((i34+1:Nat):Int)) O (G7 (e34 _ _ (i34+1) () (app1 hn34 h) (by omega) ⟨(.sm O O),G,rfl⟩)))))))
    ·
     have h:=app1 hkx34 (G59 hi34 (Yi hb))
     refine Hi (hK11 (G2 (JLm (Ei i8) O (JLh (I64 ((i8+1:Nat):Int)) (Ht (Hb hk8 hm23) O O O) O (JLm (I64 ((i8+1:Nat):Int)) O (G7 (e8 _ _ (i8+1) () (app1 hn8 h) (by omega) ⟨(.sm O O),G,rfl⟩)))))))
  ·
   have h:=app1 hkx8 (Hk hi8 (H3 hb))
   refine Hi (hK6 (Js fun hK44=>Jr fun hK45=>(JLm (I64 0) O (G7 (hK45 (Gp ?_))))))
   obtain⟨b46,kx46,hb46,hkx46,h⟩:=Hv h
   refine Hc (fun i46 (s46:Unit)=>each b46 kx46 (List.drop i46 s.Covers) i46 s46=some r) (fun i46 s46=>[(1,Eb s),(5,Ei i46)]) (fun i46 s46=>[]) (fun i46=>s.Covers.length - i46) 0 () h ⟨(.sm O O),G,O⟩ ?_
   clear h
   intro i46 s46 hi46 K46 e46
   refine Js fun hK47=>Jr fun hK48=>(JLm (Ei i46) O (JLh (.dptr (K0 s)) (Ga Jg O O O) O (JLh (E6 s.Covers) (Ge Jv O O O) O (JLl Hq O O O fun hm85=>(JLh (BL (decide ((i46:Int) < (s.Covers.length:Int)))) (Hy O O O) O (G7 (hK48 (Gj O (fun hb=>?_) (fun hb=>?_)))))))))
   ·
    have hk46:=J8 hb
    obtain⟨y46,nx46,hy46,hn46,h⟩:=Hj hi46 hk46
    replace h:=R8 hb46 h
    refine Gm (hK47 (Js fun hK49=>Gp (Jr fun hK50=>(JLh (.dptr (K0 s)) (Ga Jg O O O) O (JLh (E6 s.Covers) (Ge Jv O O O) O (JLm (Ei i46) O (JLh (.dptr [I64 y46.Bay,E1 y46.Rows]) (Gv (f:=G8.av) (xs:=s.Covers) (y:=y46) O O O Hq hy46 O) O (JLh (.agg [I64 y46.Bay,E1 y46.Rows]) (Gg Z0 O O O) O (JLh (.ptr 1125 0) (Jn 1125 2 G75 O O) O (Je (u:=.junk) (J5 (u:=.agg [I64 y46.Bay,E1 y46.Rows]) (ds:=[I64 y46.Bay,E1 y46.Rows]) Gd2 O O O O O O O O) (G7 (hK50 ?_))))))))))))
    refine Gr [(1,Eb s),(5,Ei i46),(6,.dptr [I64 y46.Bay,E1 y46.Rows])] [] 1125 rfl rfl rfl G rfl (by exact⟨.conv (.same rfl),.conv (.same rfl),.ptr,G⟩) (Js fun hK51=>Jr fun hK52=>(JLh (.dptr [I64 y46.Bay,E1 y46.Rows]) (Ga G06 O O O) O (JLh (I64 y46.Bay) (Ge Gb O O O) O ?_)))
    obtain⟨r53,hr53,h⟩:=Gd h
    refine JLh (BL r53) (Gi O (Jc y46.Bay 0 39 r53 hr53) Zu ⟨O,O,O,O,O,O,G⟩) O (JLh (BL (!r53)) (Q3 (b:=r53) O O) O (JLm (BL (!r53)) O (JLo (.dptr [E1 y46.Rows]) [] O .scf G (fun hc=>Ga Qf O O O) O (JLo (E1 y46.Rows) [99] O .scf ⟨Ua,G⟩ (fun hc=>Ge J1 O O O) O (JLo (Ei y46.Rows.length) [100] O .scf ⟨Ua,G⟩ (fun hc=>Qs (f:=I64) (xs:=y46.Rows) Gn O O) O (JLo (BL (decide ((y46.Rows.length:Int)=0))) [101] O .scf ⟨Ua,G⟩ (fun hc=>Ju O O O) O (JLh (BL ((!r53)||(decide ((y46.Rows.length:Int)=0)))) (Rs O O O O) O (G7 (hK52 (JCc O h (fun h hb=>?_) (fun h hb=>?_)))))))))))
    ·
     refine Jr fun hK54=>(JLm (BL false) O (G7 (hK54 (Gq (fin1 BL h)))))
    ·
     refine Gm (hK51 (Jr fun hK55=>(JLm (I64 0) O (G7 (hK55 (Gp ?_))))))
     obtain⟨b56,kx56,hb56,hkx56,h⟩:=Hv h
     refine Hc (fun i56 (s56:Unit)=>each b56 kx56 (List.drop i56 y46.Rows) i56 s56=some r) (fun i56 s56=>[(1,Eb s),(5,Ei i46),(6,.dptr [I64 y46.Bay,E1 y46.Rows]),(7,Ei i56)]) (fun i56 s56=>[]) (fun i56=>y46.Rows.length - i56) 0 () h ⟨(.sm O O),G,rfl⟩ ?_
     clear h
     intro i56 s56 hi56 K56 e56
     refine Js fun hK57=>Jr fun hK58=>(JLm (Ei i56) O (JLh (.dptr [E1 y46.Rows]) (Ga Qf O O O) O (JLh (E1 y46.Rows) (Ge J1 O O O) O (JLl Gn O O O fun hm107=>(JLh (BL (decide ((i56:Int) < (y46.Rows.length:Int)))) (Hy O O O) O (G7 (hK58 (Gj O (fun hb=>?_) (fun hb=>?_)))))))))
     ·
      have hk56:=J8 hb
      obtain⟨y56,nx56,hy56,hn56,h⟩:=Hj hi56 hk56
      replace h:=R8 hb56 h
      refine Gm (hK57 (Js fun hK59=>Gp (Js fun hK60=>Js fun hK61=>?_)))
      obtain⟨r62,hr62,h⟩:=Gd h
      obtain⟨v63,hv63,h⟩:=Gd h
      obtain⟨y64,hy64,h⟩:=Gd h
      refine JC_d0 Jb (by kernel_rfl) (Dq (.dptr [E1 y46.Rows]) (Ga Qf O O O) O (Dq (E1 y46.Rows) (Ge J1 O O O) O (Dq (Ei i56) (G4 O O) O (Dq (.dptr [I64 y56]) (Gv (f:=I64) (xs:=y46.Rows) (y:=y56) O O O Gn hy56 O) O (Dq (I64 y56) (Ge Gb O O O) O (Dq (BL r62) (Gi (args:=[I64 y56,I64 0,I64 30]) O (Jc y56 0 30 r62 hr62) Zu ⟨O,O,O,O,O,O,G⟩) O (Dq (BL (!r62)) (Q3 (b:=r62) O O) O (Dq (BL (!r62)) (G4 O O) O (Do (Ei i56) [] O .scf G (fun hc=>G4 O O) O (Do (BL (decide (0 < (i56:Int)))) [119] O .scf ⟨Ua,G⟩ (fun hc=>G41 O O O) O (Do (BL (decide (0 < (i56:Int)))) [120] O .scf ⟨Ua,G⟩ (fun hc=>G4 O O) O (Do (.dptr [E1 y46.Rows]) [] O .optt G (fun hc=>Ga Qf O O O) O (Do (E1 y46.Rows) [122] O .optt ⟨Ua,G⟩ (fun hc=>Ge J1 O O O) O ?_)))))))))))))
      refine Do (Ei i56) [] O .optt G (fun hc=>G4 O O) O (Do (I64 v63) [124] O .optt ⟨Ua,G⟩ (fun hc=>Ge4 (G2d (Gw hc hv63)) O O O) O (Do (.dptr [I64 y64]) [123,125] O .optt ⟨Ua,Ua,G⟩ (fun hc=>(match Q0 (Gw hc hy64) with | ⟨_,hm_,hy_⟩=>Gv (f:=I64) (xs:=y46.Rows) (y:=y64) O O O Gn hy_ hm_)) O (Do (I64 y64) [126] O .optt ⟨Ua,G⟩ (fun hc=>Ge Gb O O O) O (Do (.dptr [E1 y46.Rows]) [] O .optt G (fun hc=>Ga Qf O O O) O (Do (E1 y46.Rows) [128] O .optt ⟨Ua,G⟩ (fun hc=>Ge J1 O O O) O (Do (Ei i56) [] O .optt G (fun hc=>G4 O O) O (Do (.dptr [I64 y56]) [129,130] O .optt ⟨Ua,Ua,G⟩ (fun hc=>Gv (f:=I64) (xs:=y46.Rows) (y:=y56) O O O Gn hy56 O) O (Do (I64 y56) [131] O .optt ⟨Ua,G⟩ (fun hc=>Ge Gb O O O) O (Do (BL (decide (y56≤y64))) [127,132] O .optt ⟨Ua,Ua,G⟩ (fun hc=>G13 O O O) O (Dg (.opt (!(!r62)) (BL ((decide (0 < (i56:Int)))&&(decide (y56≤y64))))) (Gh [(121,BL (decide (0 < (i56:Int)))),(133,_)] O O O .scf ⟨.all id,.part,G⟩ (fun hc=>J4 O O O O) O) O (Dq (BL ((!r62)||((decide (0 < (i56:Int)))&&(decide (y56≤y64))))) (Rs O O O O) O (Dnil ?_))))))))))))
      refine hK61 (JCc O h (fun h hb=>?_) (fun h hb=>?_))
      ·
       refine Jr fun hK65=>(JLm (BL false) O (G7 (hK65 (Gq (fin1 BL h)))))
      ·
       refine Gm (hK60 (Jr fun hK66=>(JLm (I64 0) O (G7 (hK66 (Gp ?_))))))
       obtain⟨hx84,h⟩:=Hp h
       obtain⟨b84,kx84,hb84,hkx84,h⟩:=G8a h
       refine Hc (fun i84 (s84:Unit)=>upto b84 kx84 ((i46:Int).toNat - i84) i84 s84=some r) (fun i84 s84=>[(1,Eb s),(5,Ei i46),(6,.dptr [I64 y46.Bay,E1 y46.Rows]),(7,Ei i56),(8,Ei i84)]) (fun i84 s84=>[]) (fun i84=>(i46:Int).toNat - i84) 0 () h ⟨(.sm O O),G,rfl⟩ ?_
       clear h
       intro i84 s84 hi84 K84 e84
       refine Js fun hK85=>Jr fun hK86=>(JLm (Ei i84) O (JLm (Ei i46) O (JLh (BL (decide ((i84:Int) < (i46:Int)))) (Hy O O O) O (G7 (hK86 (Gj O (fun hb=>?_) (fun hb=>?_)))))))
       ·
        have hk84:=G5d hb
        obtain⟨nx84,hn84,h⟩:=G58 hi84 hk84
        replace h:=J02 hb84 h
        refine Gm (hK85 (Js fun hK87=>Gp (Js fun hK88=>?_)))
        obtain⟨m90,y89,hm90,hy89,h⟩:=Rb h
        obtain⟨y91,hy91,h⟩:=Gd h
        obtain⟨r92,hr92,h⟩:=Gd h
        refine JC_d0 Jb (by kernel_rfl) (Dq (.dptr (K0 s)) (Ga Jg O O O) O (Dq (E6 s.Covers) (Ge Jv O O O) O (Dq (Ei i84) (G4 O O) O (Dq (.dptr [I64 y89.Bay,E1 y89.Rows]) (Gv (f:=G8.av) (xs:=s.Covers) (y:=y89) O O O Hq hy89 hm90) O (Dq (.dptr [I64 y89.Bay,E1 y89.Rows]) (Ga G06 O O O) O (Dq (I64 y89.Bay) (Ge Gb O O O) O (Dq (.dptr [I64 y46.Bay,E1 y46.Rows]) (Ga G06 O O O) O (Dq (I64 y46.Bay) (Ge Gb O O O) O (Dq (BL (decide (y89.Bay=y46.Bay))) (Ju O O O) O (Dq (BL (decide (y89.Bay=y46.Bay))) (G4 O O) O (Do (.dptr (K0 s)) [] O .sct G (fun hc=>Ga Jg O O O) O (Do (E6 s.Covers) [151] O .sct ⟨Ua,G⟩ (fun hc=>Ge Jv O O O) O (Do (Ei i84) [] O .sct G (fun hc=>G4 O O) O ?_)))))))))))))
        refine Do (.dptr [I64 y91.Bay,E1 y91.Rows]) [152,153] O .sct ⟨Ua,Ua,G⟩ (fun hc=>(match Q0 (Gw hc hy91) with | ⟨_,hm_,hy_⟩=>Gv (f:=G8.av) (xs:=s.Covers) (y:=y91) O O O Hq hy_ hm_)) O (Do (.dptr [E1 y91.Rows]) [154] O .sct ⟨Ua,G⟩ (fun hc=>Ga Qf O O O) O (Do (E1 y91.Rows) [155] O .sct ⟨Ua,G⟩ (fun hc=>Ge J1 O O O) O (Do (.dptr [E1 y46.Rows]) [] O .sct G (fun hc=>Ga Qf O O O) O (Do (E1 y46.Rows) [157] O .sct ⟨Ua,G⟩ (fun hc=>Ge J1 O O O) O (Do (Ei i56) [] O .sct G (fun hc=>G4 O O) O (Do (.dptr [I64 y56]) [158,159] O .sct ⟨Ua,Ua,G⟩ (fun hc=>Gv (f:=I64) (xs:=y46.Rows) (y:=y56) O O O Gn hy56 O) O (Do (I64 y56) [160] O .sct ⟨Ua,G⟩ (fun hc=>Ge Gb O O O) O (Do (BL r92) [156,161] O .sct ⟨Ua,Ua,G⟩ (fun hc=>Gi (args:=[E1 y91.Rows,I64 y56]) O (Gb8 y91.Rows y56 r92 (Gw hc hr92)) Jbd ⟨O,O,O,O,G⟩) O (Dq (BL ((decide (y89.Bay=y46.Bay))&&r92)) (J4 O O O O) O (Dnil ?_))))))))))
        refine hK88 (JCc O h (fun h hb=>?_) (fun h hb=>?_))
        ·
         refine Jr fun hK93=>(JLm (BL false) O (G7 (hK93 (Gq (fin1 BL h)))))
        ·
         refine Gm (hK87 (G2 (JLm (Ei i84) O (JLh (I64 ((i84+1:Nat):Int)) (Ht (Hb hk84 (G36 hx84)) O O O) O (JLm (I64 ((i84+1:Nat):Int)) O (G7 (e84 _ _ (i84+1) () (app1 hn84 h) (by omega) ⟨(.sm O O),G,rfl⟩)))))))
       ·
        have h:=app1 hkx84 (G59 hi84 (Yi hb))
        refine Hi (hK59 (G2 (JLm (Ei i56) O (JLh (I64 ((i56+1:Nat):Int)) (Ht (Hb hk56 hm107) O O O) O (JLm (I64 ((i56+1:Nat):Int)) O (G7 (e56 _ _ (i56+1) () (app1 hn56 h) (by omega) ⟨(.sm O O),G,rfl⟩)))))))
     ·
      have h:=app1 hkx56 (Hk hi56 (H3 hb))
      refine Hi (hK49 (G2 (JLm (Ei i46) O (JLh (I64 ((i46+1:Nat):Int)) (Ht (Hb hk46 hm85) O O O) O (JLm (I64 ((i46+1:Nat):Int)) O (G7 (e46 _ _ (i46+1) () (app1 hn46 h) (by omega) ⟨(.sm O O),G,rfl⟩)))))))
   ·
    have h:=app1 hkx46 (Hk hi46 (H3 hb))
    refine Hi (hK44 (Jr fun hK94=>(JLm (BL true) O (G7 (hK94 (Gq (fin1 BL h)))))))

def Qt (boxes:List Box) (id_:Int):Option (Box×Bool):=
 each (fun y21 i21 (s21:Unit) nx21=>
  bif decide (y21.ID=id_) then
  (some (y21,true))
  else
  (nx21 ()))
 (fun(s21:Unit)=>
  some ((Box.mk 0 ByteArray.empty 0 false 0 0 0 0 false),false)) boxes 0 ()
theorem Zw (boxes:List Box) (id_:Int) (r:Box×Bool) (h:Qt boxes id_=some r):Pure Ej 51 [E3 boxes,I64 id_] (·=.tup [.agg (Box.cs r.1),BL r.2]):=by
 unfold Qt at h
 refine Gy [.cell 4 69,.tmp 5] Tryz.func51 O O (Jr fun hK1=>(JLh (.ptr 1092 0) (G34 1092 [I64 0,ST Kc,U8 0,BL false,I64 0,I64 0,I64 0,U8 0,BL false] [E0,.string ByteArray.empty,.int .u8 0,.bool false,E0,E0,E0,.int .u8 0,.bool false] G1e ⟨.inl O,.inl O,.inl O,.inl O,.inl O,.inl O,.inl O,.inl O,.inl O,G⟩ O O) O (JLm (BL false) O (G7 (hK1 (Js fun hK2=>Jr fun hK3=>(JLm (I64 0) O (G7 (hK3 (Gp ?_))))))))))
 obtain⟨b21,kx21,hb21,hkx21,h⟩:=Hv h
 refine Hc (fun i21 (s21:Unit)=>each b21 kx21 (List.drop i21 boxes) i21 s21=some r) (fun i21 s21=>[(0,E3 boxes),(1,I64 id_),(4,.ptr 1092 0),(6,Ei i21)]) (fun i21 s21=>[(1092,.box 69 [I64 0,ST Kc,U8 0,BL false,I64 0,I64 0,I64 0,U8 0,BL false])]) (fun i21=>boxes.length - i21) 0 () h ⟨(.sm O O),⟨⟨_,rfl,.boxL rfl (.sm O O)⟩,G⟩,rfl⟩ ?_
 clear h
 intro i21 s21 hi21 K21 e21
 refine Js fun hK22=>Jr fun hK23=>(JLm (Ei i21) O (JLm (E3 boxes) O (JLl Q1 O O O fun hm9=>(JLh (BL (decide ((i21:Int) < (boxes.length:Int)))) (Hy O O O) O (G7 (hK23 (Gj O (fun hb=>?_) (fun hb=>?_))))))))
 ·
  have hk21:=J8 hb
  obtain⟨y21,nx21,hy21,hn21,h⟩:=Hj hi21 hk21
  replace h:=R8 hb21 h
  refine Gm (hK22 (Js fun hK24=>Gp (Jr fun hK25=>(JLm (E3 boxes) O (JLm (Ei i21) O (JLh (Ee y21) (Gv (f:=Box.av) (xs:=boxes) (y:=y21) O O O Q1 hy21 O) O (JLh (Ee y21) (Ga H96 O O O) O (JLh (I64 y21.ID) (Ge Gb O O O) O (JLm (I64 id_) O (JLh (BL (decide (y21.ID=id_))) (Ju O O O) O (G7 (hK25 (JCc O h (fun h hb=>?_) (fun h hb=>?_))))))))))))))
  ·
   refine Jr fun hK26=>(JLm (E3 boxes) O (JLm (Ei i21) O (JLh (Ee y21) (Gv (f:=Box.av) (xs:=boxes) (y:=y21) O O O Q1 hy21 O) O (JLh (.agg (Box.cs y21)) (Gg G48 O O O) O (Je (u:=.junk) (J5 (u:=.agg (Box.cs y21)) (ds:=(Box.cs y21)) Zs O O O O O O O O) (JLm (BL true) O (G7 (hK26 (Gq (⟨[.agg (Box.cs y21),BL true],[],G,O,⟨⟨_,⟨_,_,_,_,O,O,O,.inl ⟨G48,O⟩⟩,.conv (.same O)⟩,⟨_,O,.conv (.same O)⟩,G⟩,O,congrArg (fun r:Box×Bool=>(.tup [.agg (Box.cs r.1),BL r.2]:AV)) (Kj h)⟩))))))))))
  ·
   refine Gm (hK24 (G2 (JLm (Ei i21) O (JLh (I64 ((i21+1:Nat):Int)) (Ht (Hb hk21 hm9) O O O) O (JLm (I64 ((i21+1:Nat):Int)) O (G7 (e21 _ _ (i21+1) () (app1 hn21 h) (by omega) ⟨(.sm O O),⟨⟨_,rfl,.boxL rfl (.sm O O)⟩,G⟩,rfl⟩)))))))
 ·
  have h:=app1 hkx21 (Hk hi21 (H3 hb))
  refine Hi (hK2 ?_)
  refine Jr fun hK27=>(JLh (.agg [I64 0,ST Kc,U8 0,BL false,I64 0,I64 0,I64 0,U8 0,BL false]) (Jk (cs:=[I64 0,ST Kc,U8 0,BL false,I64 0,I64 0,I64 0,U8 0,BL false]) [(0,1),(1,1),(2,1),(3,1),(4,1),(5,1),(6,1),(7,1),(8,1)] [I64 0,ST Kc,U8 0,BL false,I64 0,I64 0,I64 0,U8 0,BL false] [E0,.string ByteArray.empty,.int .u8 0,.bool false,E0,E0,E0,.int .u8 0,.bool false] G24 G1e ⟨.inl O,.inl O,.inl O,.inl O,.inl O,.inl O,.inl O,.inl O,.inl O,G⟩ O O) O (Je (u:=.junk) (J5 (u:=.agg [I64 0,ST Kc,U8 0,BL false,I64 0,I64 0,I64 0,U8 0,BL false]) (ds:=[I64 0,ST Kc,U8 0,BL false,I64 0,I64 0,I64 0,U8 0,BL false]) Zs O O O O O O O O) (JLm (BL false) O (G7 (hK27 ?_)))))
  refine Gq (⟨[.agg [I64 0,ST Kc,U8 0,BL false,I64 0,I64 0,I64 0,U8 0,BL false],BL false],[],G,O,⟨⟨_,⟨_,_,_,_,O,O,O,.inl ⟨G48,O⟩⟩,.conv (.same O)⟩,⟨_,O,.conv (.same O)⟩,G⟩,O,congrArg (fun r:Box×Bool=>(.tup [.agg (Box.cs r.1),BL r.2]:AV)) (Kj h)⟩)

def Y0 (s:H0) (x:Slot) (size:Int):Option Bool:=
 bnd (bif (!(((decide (x.G3 < 0))||(decide ((s.Columns.length:Int)≤x.G3)))||(decide (x.Tier < 0)))) then Qm s.Columns x.G3 some else some default) fun y4=>
 bif ((((decide (x.G3 < 0))||(decide ((s.Columns.length:Int)≤x.G3)))||(decide (x.Tier < 0)))||(decide (y4.Tiers≤x.Tier))) then
 (some false)
 else
 (some (((decide (size=40))&&(decide (x.Half=0)))||((decide (size=20))&&((decide (x.Half=1))||(decide (x.Half=2))))))
theorem G69 (s:H0) (x:Slot) (size:Int) (r:Bool) (h:Y0 s x size=some r):Pure Ej 74 [.agg (H0.cs s),.agg [I64 x.G3,I64 x.Tier,U8 x.Half],I64 size] (·=BL r):=by
 unfold Y0 at h
 refine Gy [.tmp 6] Tryz.func74 O O (Jr fun hK1=>(JLh (.ptr 1126 0) (J7 (cs:=(H0.cs s)) 1126 O O O O O) O (JLh (.ptr 1127 0) (J7 (cs:=[I64 x.G3,I64 x.Tier,U8 x.Half]) 1127 O O O O O) O (JLm (BL false) O (G7 (hK1 ?_))))))
 refine Gr [(2,I64 size),(3,Eb s),(4,.ptr 1127 0)] [(1127,.box 71 [I64 x.G3,I64 x.Tier,U8 x.Half])] 1126 rfl rfl rfl ⟨⟨_,rfl,.boxEq rfl rfl⟩,G⟩ rfl (by exact⟨.conv (.same rfl),.ptr,.conv (.same rfl),G⟩) ?_
 refine Gr [(2,I64 size),(3,Eb s),(4,.dptr [I64 x.G3,I64 x.Tier,U8 x.Half])] [] 1127 rfl rfl rfl G rfl (by exact⟨.conv (.same rfl),.conv (.same rfl),.ptr,G⟩) (Js fun hK2=>Js fun hK3=>?_)
 obtain⟨y4,hy4,h⟩:=Gd h
 refine JC_d0 Jb (by kernel_rfl) (Dq (.dptr [I64 x.G3,I64 x.Tier,U8 x.Half]) (Ga J0 O O O) O (Dq (I64 x.G3) (Ge Gb O O O) O (Dq (BL (decide (x.G3 < 0))) (Hy O O O) O (Dq (BL (decide (x.G3 < 0))) (G4 O O) O (Do (.dptr [I64 x.G3,I64 x.Tier,U8 x.Half]) [] O .scf G (fun hc=>Ga J0 O O O) O (Do (I64 x.G3) [11] O .scf ⟨Ua,G⟩ (fun hc=>Ge Gb O O O) O (Do (Eb s) [] O .scf G (fun hc=>Ga Hh O O O) O (Do (E5 s.Columns) [13] O .scf ⟨Ua,G⟩ (fun hc=>Ge Ho O O O) O (Do (Ei s.Columns.length) [14] O .scf ⟨Ua,G⟩ (fun hc=>Qs (f:=G3.av) (xs:=s.Columns) H6 O O) O (Do (BL (decide ((s.Columns.length:Int)≤x.G3))) [12,15] O .scf ⟨Ua,Ua,G⟩ (fun hc=>G13 O O O) O (Dq (BL ((decide (x.G3 < 0))||(decide ((s.Columns.length:Int)≤x.G3)))) (Rs O O O O) O (Dq (BL ((decide (x.G3 < 0))||(decide ((s.Columns.length:Int)≤x.G3)))) (G4 O O) O (Do (.dptr [I64 x.Tier,U8 x.Half]) [] O .scf G (fun hc=>Ga Qq O O O) O ?_)))))))))))))
 refine Do (I64 x.Tier) [19] O .scf ⟨Ua,G⟩ (fun hc=>Ge Gb O O O) O (Do (BL (decide (x.Tier < 0))) [20] O .scf ⟨Ua,G⟩ (fun hc=>Hy O O O) O (Dq (BL (((decide (x.G3 < 0))||(decide ((s.Columns.length:Int)≤x.G3)))||(decide (x.Tier < 0)))) (Rs O O O O) O (Dq (BL (((decide (x.G3 < 0))||(decide ((s.Columns.length:Int)≤x.G3)))||(decide (x.Tier < 0)))) (G4 O O) O (Do (.dptr [I64 x.Tier,U8 x.Half]) [] O .scf G (fun hc=>Ga Qq O O O) O (Do (I64 x.Tier) [24] O .scf ⟨Ua,G⟩ (fun hc=>Ge Gb O O O) O (Do (Eb s) [] O .scf G (fun hc=>Ga Hh O O O) O (Do (E5 s.Columns) [26] O .scf ⟨Ua,G⟩ (fun hc=>Ge Ho O O O) O (Do (.dptr [I64 x.G3,I64 x.Tier,U8 x.Half]) [] O .scf G (fun hc=>Ga J0 O O O) O (Do (I64 x.G3) [28] O .scf ⟨Ua,G⟩ (fun hc=>Ge Gb O O O) O (Do (Ed y4) [27,29] O .scf ⟨Ua,Ua,G⟩ (fun hc=>(match Q0 (Gw hc hy4) with | ⟨_,hm_,hy_⟩=>Gv (f:=G3.av) (xs:=s.Columns) (y:=y4) O O O H6 hy_ hm_)) O (Do (.dptr ((G3.cs y4).drop 3)) [30] O .scf ⟨Ua,G⟩ (fun hc=>Ga Zn O O O) O (Do (I64 y4.Tiers) [31] O .scf ⟨Ua,G⟩ (fun hc=>Ge Gb O O O) O (Do (BL (decide (y4.Tiers≤x.Tier))) [25,32] O .scf ⟨Ua,Ua,G⟩ (fun hc=>G13 O O O) O ?_)))))))))))))
 refine Dq (BL ((((decide (x.G3 < 0))||(decide ((s.Columns.length:Int)≤x.G3)))||(decide (x.Tier < 0)))||(decide (y4.Tiers≤x.Tier)))) (Rs O O O O) O (Dnil (hK3 (JCc O h (fun h hb=>?_) (fun h hb=>?_))))
 ·
  refine Jr fun hK5=>(JLm (BL false) O (G7 (hK5 (Gq (fin1 BL h)))))
 ·
  refine Gm (hK2 (Jr fun hK6=>(JLm (I64 size) O (JLh (BL (decide (size=40))) (Ju O O O) O (JLm (BL (decide (size=40))) O (JLo (.dptr [U8 x.Half]) [] O .sct G (fun hc=>Ga Q4 O O O) O (JLo (U8 x.Half) [38] O .sct ⟨Ua,G⟩ (fun hc=>Ge J6 O O O) O (JLo (BL (decide (x.Half=0))) [39] O .sct ⟨Ua,G⟩ (fun hc=>Ju O O O) O (JLh (BL ((decide (size=40))&&(decide (x.Half=0)))) (J4 O O O O) O (JLm (BL ((decide (size=40))&&(decide (x.Half=0)))) O (JLo (I64 size) [] O .scf G (fun hc=>G4 O O) O (JLo (BL (decide (size=20))) [43] O .scf ⟨Ua,G⟩ (fun hc=>Ju O O O) O (JLo (BL (decide (size=20))) [44] O .scf ⟨Ua,G⟩ (fun hc=>G4 O O) O (JLo (.dptr [U8 x.Half]) [] O .optt G (fun hc=>Ga Q4 O O O) O (JLo (U8 x.Half) [46] O .optt ⟨Ua,G⟩ (fun hc=>Ge J6 O O O) O ?_)))))))))))))))
  refine JLo (BL (decide (x.Half=1))) [47] O .optt ⟨Ua,G⟩ (fun hc=>Ju O O O) O (JLo (BL (decide (x.Half=1))) [48] O .optt ⟨Ua,G⟩ (fun hc=>G4 O O) O (JLo (.dptr [U8 x.Half]) [] O .optf G (fun hc=>Ga Q4 O O O) O (JLo (U8 x.Half) [50] O .optf ⟨Ua,G⟩ (fun hc=>Ge J6 O O O) O (JLo (BL (decide (x.Half=2))) [51] O .optf ⟨Ua,G⟩ (fun hc=>Ju O O O) O (G9 (u:=BL ((decide (x.Half=1))||(decide (x.Half=2)))) [(49,BL (decide (x.Half=1))),(52,_)] O O O .optt ⟨.all id,.part,G⟩ (fun hc=>Rs O O O O) ?_)))))
  refine G9 (u:=BL ((decide (size=20))&&((decide (x.Half=1))||(decide (x.Half=2))))) [(45,BL (decide (size=20))),(53,_)] O O O .scf ⟨.all id,.part,G⟩ (fun hc=>J4 O O O O) ?_
  refine JLh (BL (((decide (size=40))&&(decide (x.Half=0)))||((decide (size=20))&&((decide (x.Half=1))||(decide (x.Half=2)))))) (Rs O O O O) O (JLm (BL (((decide (size=40))&&(decide (x.Half=0)))||((decide (size=20))&&((decide (x.Half=1))||(decide (x.Half=2)))))) O (G7 (hK6 (Gq (fin1 BL h)))))

def Z3 (l:List Stowed):Option (List Slot):=
 each (fun y16 i16 (s16:(List Slot)) nx16=>
  need (decide ((s16.length+[y16.Slot].length)*24≤140737488355328∧s16.length+[y16.Slot].length≤maxLen)) <|
  nx16 (s16++[y16.Slot]))
 (fun(s16:(List Slot))=>
  some s16) l 0 []
theorem Gc3 (l:List Stowed) (r:(List Slot)) (h:Z3 l=some r):Pure Ej 76 [E2 l] (·=E4 r):=by
 unfold Z3 at h
 refine Gy [.tmp 2] Tryz.func76 O O (Jr fun hK1=>(JLh (E4 ([]:List Slot)) (H2 3 O O) O (G7 (hK1 (Jr fun hK2=>(JLh (OW 1129 3 Slot.av ([]:List Slot)) (G12 1129 71 3 O O O) O (G7 (hK2 (Js fun hK3=>Jr fun hK4=>(JLm (I64 0) O (G7 (hK4 (Gp ?_)))))))))))))
 obtain⟨b16,kx16,hb16,hkx16,h⟩:=Hv h
 refine Hc (fun i16 (s16:(List Slot))=>each b16 kx16 (List.drop i16 l) i16 s16=some r) (fun i16 s16=>[(0,E2 l),(3,OW 1129 3 Slot.av s16),(4,Ei i16)]) (fun i16 s16=>[(1129,.spare 71 3 s16.length s16.length)]) (fun i16=>l.length - i16) 0 [] h ⟨(.sm O O),⟨⟨_,O,.same⟩,G⟩,O⟩ ?_
 clear h
 intro i16 s16 hi16 K16 e16
 refine Js fun hK17=>Jr fun hK18=>(JLm (Ei i16) O (JLm (E2 l) O (JLl Gx O O O fun hm7=>(JLh (BL (decide ((i16:Int) < (l.length:Int)))) (Hy O O O) O (G7 (hK18 (Gj O (fun hb=>?_) (fun hb=>?_))))))))
 ·
  have hk16:=J8 hb
  obtain⟨y16,nx16,hy16,hn16,h⟩:=Hj hi16 hk16
  replace h:=R8 hb16 h
  refine Gm (hK17 (Js fun hK19=>Gp (G2 (JLm (OW 1129 3 Slot.av s16) O (JLm (E2 l) O (JLm (Ei i16) O (JLh (Ec y16) (Gv (f:=Stowed.av) (xs:=l) (y:=y16) O O O Gx hy16 O) O (JLh (.dptr ((Stowed.cs y16).drop 1)) (Ga Hs O O O) O (JLh (.agg ((Stowed.cs y16).drop 1)) (Gg Jh O O O) O (JLh (E4 [y16.Slot]) (Ha (xs:=[.agg ((Stowed.cs y16).drop 1)]) O ⟨O,O,G⟩ Ja G15 O O O O) O ?_))))))))))
  obtain⟨ha20,h⟩:=Hp h
  refine JLh (OW 1129 3 Slot.av (s16++[y16.Slot])) (Q8 (f:=Slot.av) (xs:=s16) (ys:=[y16.Slot]) O O O O Ja H02 ha20 (fun _=>O) (.inl O) O) O (JLm (OW 1129 3 Slot.av (s16++[y16.Slot])) O (G7 (hK19 (G2 (JLm (Ei i16) O (JLh (I64 ((i16+1:Nat):Int)) (Ht (Hb hk16 hm7) O O O) O (JLm (I64 ((i16+1:Nat):Int)) O (G7 (e16 _ _ (i16+1) (s16++[y16.Slot]) (app1 hn16 h) (by omega) ⟨(.sm O O),⟨⟨_,rfl,.same⟩,G⟩,rfl⟩)))))))))
 ·
  have h:=app1 hkx16 (Hk hi16 (H3 hb))
  refine Hi (hK3 (Jr fun hK21=>(JLm (OW 1129 3 Slot.av s16) O (JLm (OW 1129 3 Slot.av s16) O (G7 (hK21 (Gq (fin1l (fun r:(List Slot)=>(E4 r:AV)) h))))))))

def Rr (l:List Slot) (x:Slot) (half:Int):Option Bool:=
 each (fun y23 i23 (s23:Unit) nx23=>
  bnd (bif decide (y23.G3=x.G3) then chk (x.Tier - 1) some else some 0) fun v28=>
  bif (((decide (y23.G3=x.G3))&&(decide (y23.Tier=v28)))&&(decide (y23.Half=half))) then
  (some true)
  else
  (nx23 ()))
 (fun(s23:Unit)=>
  some false) l 0 ()
theorem G43 (l:List Slot) (x:Slot) (half:Int) (r:Bool) (h:Rr l x half=some r):Pure Ej 125 [E4 l,.agg [I64 x.G3,I64 x.Tier,U8 x.Half],U8 half] (·=BL r):=by
 unfold Rr at h
 refine Gy [.tmp 6] Tryz.func125 O O (Jr fun hK1=>(JLh (.ptr 1185 0) (J7 (cs:=[I64 x.G3,I64 x.Tier,U8 x.Half]) 1185 O O O O O) O (JLm (BL false) O (G7 (hK1 (Gr [(0,E4 l),(2,U8 half),(4,.dptr [I64 x.G3,I64 x.Tier,U8 x.Half])] [] 1185 rfl rfl rfl G rfl (by exact⟨.conv (.same rfl),.conv (.same rfl),.ptr,G⟩) (Js fun hK2=>Jr fun hK3=>(JLm (I64 0) O (G7 (hK3 (Gp ?_)))))))))))
 obtain⟨b23,kx23,hb23,hkx23,h⟩:=Hv h
 refine Hc (fun i23 (s23:Unit)=>each b23 kx23 (List.drop i23 l) i23 s23=some r) (fun i23 s23=>[(0,E4 l),(2,U8 half),(4,.dptr [I64 x.G3,I64 x.Tier,U8 x.Half]),(7,Ei i23)]) (fun i23 s23=>[]) (fun i23=>l.length - i23) 0 () h ⟨(.sm O O),G,rfl⟩ ?_
 clear h
 intro i23 s23 hi23 K23 e23
 refine Js fun hK24=>Jr fun hK25=>(JLm (Ei i23) O (JLm (E4 l) O (JLl Ja O O O fun hm10=>(JLh (BL (decide ((i23:Int) < (l.length:Int)))) (Hy O O O) O (G7 (hK25 (Gj O (fun hb=>?_) (fun hb=>?_))))))))
 ·
  have hk23:=J8 hb
  obtain⟨y23,nx23,hy23,hn23,h⟩:=Hj hi23 hk23
  replace h:=R8 hb23 h
  refine Gm (hK24 (Js fun hK26=>Gp (Js fun hK27=>?_)))
  obtain⟨v28,hv28,h⟩:=Gd h
  refine JC_d0 Jb (by kernel_rfl) (Dq (E4 l) (G4 O O) O (Dq (Ei i23) (G4 O O) O (Dq (Eg y23) (Gv (f:=Slot.av) (xs:=l) (y:=y23) O O O Ja hy23 O) O (Dq (Eg y23) (Ga J0 O O O) O (Dq (I64 y23.G3) (Ge Gb O O O) O (Dq (.dptr [I64 x.G3,I64 x.Tier,U8 x.Half]) (Ga J0 O O O) O (Dq (I64 x.G3) (Ge Gb O O O) O (Dq (BL (decide (y23.G3=x.G3))) (Ju O O O) O (Dq (BL (decide (y23.G3=x.G3))) (G4 O O) O (Do (E4 l) [] O .sct G (fun hc=>G4 O O) O (Do (Ei i23) [] O .sct G (fun hc=>G4 O O) O (Do (Eg y23) [23,24] O .sct ⟨Ua,Ua,G⟩ (fun hc=>Gv (f:=Slot.av) (xs:=l) (y:=y23) O O O Ja hy23 O) O (Do (.dptr [I64 y23.Tier,U8 y23.Half]) [25] O .sct ⟨Ua,G⟩ (fun hc=>Ga Qq O O O) O ?_)))))))))))))
  refine Do (I64 y23.Tier) [26] O .sct ⟨Ua,G⟩ (fun hc=>Ge Gb O O O) O (Do (.dptr [I64 x.Tier,U8 x.Half]) [] O .sct G (fun hc=>Ga Qq O O O) O (Do (I64 x.Tier) [28] O .sct ⟨Ua,G⟩ (fun hc=>Ge Gb O O O) O (Do (I64 v28) [29] O .sct ⟨Ua,G⟩ (fun hc=>Ge4 (G2d (Gw hc hv28)) O O O) O (Do (BL (decide (y23.Tier=v28))) [27,30] O .sct ⟨Ua,Ua,G⟩ (fun hc=>Ju O O O) O (Dq (BL ((decide (y23.G3=x.G3))&&(decide (y23.Tier=v28)))) (J4 O O O O) O (Dq (BL ((decide (y23.G3=x.G3))&&(decide (y23.Tier=v28)))) (G4 O O) O (Do (E4 l) [] O .sct G (fun hc=>G4 O O) O (Do (Ei i23) [] O .sct G (fun hc=>G4 O O) O (Do (Eg y23) [34,35] O .sct ⟨Ua,Ua,G⟩ (fun hc=>Gv (f:=Slot.av) (xs:=l) (y:=y23) O O O Ja hy23 O) O (Do (.dptr [U8 y23.Half]) [36] O .sct ⟨Ua,G⟩ (fun hc=>Ga Q4 O O O) O (Do (U8 y23.Half) [37] O .sct ⟨Ua,G⟩ (fun hc=>Ge J6 O O O) O (Do (U8 half) [] O .sct G (fun hc=>G4 O O) O (Do (BL (decide (y23.Half=half))) [38,39] O .sct ⟨Ua,Ua,G⟩ (fun hc=>Ju O O O) O ?_)))))))))))))
  refine Dq (BL (((decide (y23.G3=x.G3))&&(decide (y23.Tier=v28)))&&(decide (y23.Half=half)))) (J4 O O O O) O (Dnil (hK27 (JCc O h (fun h hb=>?_) (fun h hb=>?_))))
  ·
   refine Jr fun hK29=>(JLm (BL true) O (G7 (hK29 (Gq (fin1 BL h)))))
  ·
   refine Gm (hK26 (G2 (JLm (Ei i23) O (JLh (I64 ((i23+1:Nat):Int)) (Ht (Hb hk23 hm10) O O O) O (JLm (I64 ((i23+1:Nat):Int)) O (G7 (e23 _ _ (i23+1) () (app1 hn23 h) (by omega) ⟨(.sm O O),G,rfl⟩)))))))
 ·
  have h:=app1 hkx23 (Hk hi23 (H3 hb))
  refine Hi (hK2 (Jr fun hK30=>(JLm (BL false) O (G7 (hK30 (Gq (fin1 BL h)))))))

def Zj (x:Slot) (l:List Slot):Option Bool:=
 bif decide (x.Tier≤0) then
 (some true)
 else
 (bif decide (x.Half=0) then
  (bnd (Rr l x 0) fun r8=>
   bnd (bif (!r8) then Rr l x 1 else some default) fun r9=>
   bnd (bif ((!r8)&&r9) then Rr l x 2 else some default) fun r10=>
   some (r8||(r9&&r10)))
  else
  (bnd (Rr l x x.Half) fun r12=>
   some r12))
theorem Gdd (x:Slot) (l:List Slot) (r:Bool) (h:Zj x l=some r):Pure Ej 75 [.agg [I64 x.G3,I64 x.Tier,U8 x.Half],E4 l] (·=BL r):=by
 unfold Zj at h
 refine Gy [.tmp 4] Tryz.func75 O O (Jr fun hK1=>(JLh (.ptr 1128 0) (J7 (cs:=[I64 x.G3,I64 x.Tier,U8 x.Half]) 1128 O O O O O) O (JLm (BL false) O (G7 (hK1 (Gr [(1,E4 l),(2,.dptr [I64 x.G3,I64 x.Tier,U8 x.Half])] [] 1128 rfl rfl rfl G rfl (by exact⟨.conv (.same rfl),.ptr,G⟩) (Js fun hK2=>Jr fun hK3=>(JLh (.dptr [I64 x.Tier,U8 x.Half]) (Ga Qq O O O) O (JLh (I64 x.Tier) (Ge Gb O O O) O (JLh (BL (decide (x.Tier≤0))) (J10 O O O) O (G7 (hK3 (JCc O h (fun h hb=>?_) (fun h hb=>?_))))))))))))))
 ·
  refine Jr fun hK4=>(JLm (BL true) O (G7 (hK4 (Gq (fin1 BL h)))))
 ·
  refine Gm (hK2 (Js fun hK5=>Jr fun hK6=>(JLh (.dptr [U8 x.Half]) (Ga Q4 O O O) O (JLh (U8 x.Half) (Ge J6 O O O) O (JLh (BL (decide (x.Half=0))) (Ju O O O) O (G7 (hK6 (JCc O h (fun h hb=>?_) (fun h hb=>?_)))))))))
  ·
   refine Jr fun hK7=>(JLm (E4 l) O (JLh (.agg [I64 x.G3,I64 x.Tier,U8 x.Half]) (Gg Jh O O O) O ?_))
   obtain⟨r8,hr8,h⟩:=Gd h
   refine JLh (BL r8) (Gi O (G43 l x 0 r8 hr8) H84 ⟨O,O,O,O,O,O,G⟩) O (JLm (BL r8) O (JLo (E4 l) [] O .scf G (fun hc=>G4 O O) O (JLo (.agg [I64 x.G3,I64 x.Tier,U8 x.Half]) [] O .scf G (fun hc=>Gg Jh O O O) O ?_)))
   obtain⟨r9,hr9,h⟩:=Gd h
   refine JLo (BL r9) [15,16] O .scf ⟨Ua,Ua,G⟩ (fun hc=>Gi (args:=[E4 l,.agg [I64 x.G3,I64 x.Tier,U8 x.Half],U8 1]) O (G43 l x 1 r9 (Gw hc hr9)) H84 ⟨O,O,O,O,O,O,G⟩) O (JLo (BL r9) [17] O .scf ⟨Ua,G⟩ (fun hc=>G4 O O) O (JLo (E4 l) [] O .optt G (fun hc=>G4 O O) O (JLo (.agg [I64 x.G3,I64 x.Tier,U8 x.Half]) [] O .optt G (fun hc=>Gg Jh O O O) O ?_)))
   obtain⟨r10,hr10,h⟩:=Gd h
   refine JLo (BL r10) [19,20] O .optt ⟨Ua,Ua,G⟩ (fun hc=>Gi (args:=[E4 l,.agg [I64 x.G3,I64 x.Tier,U8 x.Half],U8 2]) O (G43 l x 2 r10 (Gw hc hr10)) H84 ⟨O,O,O,O,O,O,G⟩) O (G9 (u:=BL (r9&&r10)) [(18,BL r9),(21,_)] O O O .scf ⟨.all id,.part,G⟩ (fun hc=>J4 O O O O) ?_)
   refine JLh (BL (r8||(r9&&r10))) (Rs O O O O) O (JLm (BL (r8||(r9&&r10))) O (G7 (hK7 (Gq (fin1 BL h)))))
  ·
   refine Gm (hK5 (Jr fun hK11=>(JLm (E4 l) O (JLh (.agg [I64 x.G3,I64 x.Tier,U8 x.Half]) (Gg Jh O O O) O (JLh (.dptr [U8 x.Half]) (Ga Q4 O O O) O (JLh (U8 x.Half) (Ge J6 O O O) O ?_))))))
   obtain⟨r12,hr12,h⟩:=Gd h
   refine JLh (BL r12) (Gi O (G43 l x x.Half r12 hr12) H84 ⟨O,O,O,O,O,O,G⟩) O (JLm (BL r12) O (G7 (hK11 (Gq (fin1 BL h)))))

def Re (a:Int) (b:Int):Option Bool:=
 some (((decide (a=b))||(decide (a=0)))||(decide (b=0)))
theorem Gb7 (a:Int) (b:Int) (r:Bool) (h:Re a b=some r):Pure Ej 126 [U8 a,U8 b] (·=BL r):=by
 unfold Re at h
 refine Gy [.tmp 4] Tryz.func126 O O (Jr fun hK1=>(JLm (BL false) O (G7 (hK1 (Jr fun hK2=>(JLm (U8 a) O (JLm (U8 b) O (JLh (BL (decide (a=b))) (Ju O O O) O (JLm (BL (decide (a=b))) O (JLo (U8 a) [] O .scf G (fun hc=>G4 O O) O (JLo (BL (decide (a=0))) [9] O .scf ⟨Ua,G⟩ (fun hc=>Ju O O O) O (JLh (BL ((decide (a=b))||(decide (a=0)))) (Rs O O O O) O (JLm (BL ((decide (a=b))||(decide (a=0)))) O (JLo (U8 b) [] O .scf G (fun hc=>G4 O O) O (JLo (BL (decide (b=0))) [13] O .scf ⟨Ua,G⟩ (fun hc=>Ju O O O) O (JLh (BL (((decide (a=b))||(decide (a=0)))||(decide (b=0)))) (Rs O O O O) O (JLm (BL (((decide (a=b))||(decide (a=0)))||(decide (b=0)))) O (G7 (hK2 (Gq (fin1 BL h)))))))))))))))))))))

def Zi (a:Slot) (b:Slot):Option Bool:=
 bnd (bif ((decide (a.G3=b.G3))&&(decide (a.Tier=b.Tier))) then Re a.Half b.Half else some default) fun r3=>
 some (((decide (a.G3=b.G3))&&(decide (a.Tier=b.Tier)))&&r3)
theorem Gdc (a:Slot) (b:Slot) (r:Bool) (h:Zi a b=some r):Pure Ej 77 [.agg [I64 a.G3,I64 a.Tier,U8 a.Half],.agg [I64 b.G3,I64 b.Tier,U8 b.Half]] (·=BL r):=by
 unfold Zi at h
 refine Gy [.tmp 4] Tryz.func77 O O (Jr fun hK1=>(JLh (.ptr 1130 0) (J7 (cs:=[I64 a.G3,I64 a.Tier,U8 a.Half]) 1130 O O O O O) O (JLh (.ptr 1131 0) (J7 (cs:=[I64 b.G3,I64 b.Tier,U8 b.Half]) 1131 O O O O O) O (JLm (BL false) O (G7 (hK1 (Gr [(2,.dptr [I64 a.G3,I64 a.Tier,U8 a.Half]),(3,.ptr 1131 0)] [(1131,.box 71 [I64 b.G3,I64 b.Tier,U8 b.Half])] 1130 rfl rfl rfl ⟨⟨_,rfl,.boxEq rfl rfl⟩,G⟩ rfl (by exact⟨.ptr,.conv (.same rfl),G⟩) (Gr [(2,.dptr [I64 a.G3,I64 a.Tier,U8 a.Half]),(3,.dptr [I64 b.G3,I64 b.Tier,U8 b.Half])] [] 1131 rfl rfl rfl G rfl (by exact⟨.conv (.same rfl),.ptr,G⟩) ?_))))))))
 refine Jr fun hK2=>(JLh (.dptr [I64 a.G3,I64 a.Tier,U8 a.Half]) (Ga J0 O O O) O (JLh (I64 a.G3) (Ge Gb O O O) O (JLh (.dptr [I64 b.G3,I64 b.Tier,U8 b.Half]) (Ga J0 O O O) O (JLh (I64 b.G3) (Ge Gb O O O) O (JLh (BL (decide (a.G3=b.G3))) (Ju O O O) O (JLm (BL (decide (a.G3=b.G3))) O (JLo (.dptr [I64 a.Tier,U8 a.Half]) [] O .sct G (fun hc=>Ga Qq O O O) O (JLo (I64 a.Tier) [11] O .sct ⟨Ua,G⟩ (fun hc=>Ge Gb O O O) O (JLo (.dptr [I64 b.Tier,U8 b.Half]) [] O .sct G (fun hc=>Ga Qq O O O) O (JLo (I64 b.Tier) [13] O .sct ⟨Ua,G⟩ (fun hc=>Ge Gb O O O) O (JLo (BL (decide (a.Tier=b.Tier))) [12,14] O .sct ⟨Ua,Ua,G⟩ (fun hc=>Ju O O O) O (JLh (BL ((decide (a.G3=b.G3))&&(decide (a.Tier=b.Tier)))) (J4 O O O O) O (JLm (BL ((decide (a.G3=b.G3))&&(decide (a.Tier=b.Tier)))) O ?_)))))))))))))
 refine JLo (.dptr [U8 a.Half]) [] O .sct G (fun hc=>Ga Q4 O O O) O (JLo (U8 a.Half) [18] O .sct ⟨Ua,G⟩ (fun hc=>Ge J6 O O O) O (JLo (.dptr [U8 b.Half]) [] O .sct G (fun hc=>Ga Q4 O O O) O (JLo (U8 b.Half) [20] O .sct ⟨Ua,G⟩ (fun hc=>Ge J6 O O O) O ?_)))
 obtain⟨r3,hr3,h⟩:=Gd h
 refine JLo (BL r3) [19,21] O .sct ⟨Ua,Ua,G⟩ (fun hc=>Gi (args:=[U8 a.Half,U8 b.Half]) O (Gb7 a.Half b.Half r3 (Gw hc hr3)) Jbc ⟨O,O,O,O,G⟩) O (JLh (BL (((decide (a.G3=b.G3))&&(decide (a.Tier=b.Tier)))&&r3)) (J4 O O O O) O (JLm (BL (((decide (a.G3=b.G3))&&(decide (a.Tier=b.Tier)))&&r3)) O (G7 (hK2 (Gq (fin1 BL h))))))

def Rc (boxes:List Box) (l:List Stowed) (column:Int) (half:Int):Option Int:=
 each (fun y42 i42 (s42:Int) nx42=>
  jp (fun kj45=>
   bnd (Qt boxes y42.Box) fun r47=>
   bif (((!r47.2)||(decide (y42.Slot.G3≠column)))||((decide (y42.Slot.Half≠half))&&(decide (y42.Slot.Half≠0)))) then
   (kj45 s42)
   else
   (bif r47.1.High then
    (chk (s42+2896) fun v51=>
     kj45 v51)
    else
    (chk (s42+2591) fun v52=>
     kj45 v52))) fun(j45:Int)=>
  nx42 j45)
 (fun(s42:Int)=>
  some s42) l 0 0
theorem Gb6 (boxes:List Box) (l:List Stowed) (column:Int) (half:Int) (r:Int) (h:Rc boxes l column half=some r):Pure Ej 127 [E3 boxes,E2 l,I64 column,U8 half] (·=I64 r):=by
 unfold Rc at h
 refine Gy [.tmp 8] Tryz.func127 O O (Jr fun hK1=>(JLm (I64 0) O (G7 (hK1 (Jr fun hK2=>(JLm (I64 0) O (G7 (hK2 (Js fun hK3=>Jr fun hK4=>(JLm (I64 0) O (G7 (hK4 (Gp ?_)))))))))))))
 obtain⟨b42,kx42,hb42,hkx42,h⟩:=Hv h
 refine Hc (fun i42 (s42:Int)=>each b42 kx42 (List.drop i42 l) i42 s42=some r) (fun i42 s42=>[(0,E3 boxes),(1,E2 l),(2,I64 column),(3,U8 half),(9,I64 s42),(10,Ei i42)]) (fun i42 s42=>[]) (fun i42=>l.length - i42) 0 0 h ⟨(.sm O O),G,rfl⟩ ?_
 clear h
 intro i42 s42 hi42 K42 e42
 refine Js fun hK43=>Jr fun hK44=>(JLm (Ei i42) O (JLm (E2 l) O (JLl Gx O O O fun hm15=>(JLh (BL (decide ((i42:Int) < (l.length:Int)))) (Hy O O O) O (G7 (hK44 (Gj O (fun hb=>?_) (fun hb=>?_))))))))
 ·
  have hk42:=J8 hb
  obtain⟨y42,nx42,hy42,hn42,h⟩:=Hj hi42 hk42
  replace h:=R8 hb42 h
  refine Gm (hK43 ?_)
  obtain⟨kj45,hkj45,h⟩:=G09 h
  refine Yt (fun j45:Int=>kj45 j45=some r) (fun j45=>[(0,E3 boxes),(1,E2 l),(2,I64 column),(3,U8 half),(9,I64 j45),(10,Ei i42)]) (fun j45=>[]) (fun Kj45 ej45=>?_) ?_
  ·
   refine Gp (Jr fun hK46=>(JLm (E3 boxes) O (JLm (E2 l) O (JLm (Ei i42) O (JLh (Ec y42) (Gv (f:=Stowed.av) (xs:=l) (y:=y42) O O O Gx hy42 O) O (JLh (Ec y42) (Ga Hu O O O) O (JLh (I64 y42.Box) (Ge Gb O O O) O ?_)))))))
   obtain⟨r47,hr47,h⟩:=Gd h
   refine JLh (.tup [.agg (Box.cs r47.1),BL r47.2]) (Gi O (Zw boxes y42.Box r47 hr47) H53 ⟨O,O,O,O,G⟩) O (JLm (.tup [.agg (Box.cs r47.1),BL r47.2]) O (JLh (.agg (Box.cs r47.1)) (H4 O O O) O (JLh (BL r47.2) (H4 O O O) O (JLh (.ptr 1186 0) (Jn 1186 9 G16 O O) O (Je (u:=.junk) (J5 (u:=.agg (Box.cs r47.1)) (ds:=(Box.cs r47.1)) Zs O O O O O O O O) (JLm (BL r47.2) O (G7 (hK46 (Gr [(0,E3 boxes),(1,E2 l),(2,I64 column),(3,U8 half),(9,I64 s42),(10,Ei i42),(11,Ee r47.1),(12,BL r47.2)] [] 1186 rfl rfl rfl G rfl (by repeat' (first | exact .ptr | constructor)) ?_)))))))))
   refine Js fun hK48=>?_
   refine Jr fun hK49=>(JLm (BL r47.2) O (JLh (BL (!r47.2)) (Q3 (b:=r47.2) O O) O (JLm (BL (!r47.2)) O (JLo (E2 l) [] O .scf G (fun hc=>G4 O O) O (JLo (Ei i42) [] O .scf G (fun hc=>G4 O O) O (JLo (Ec y42) [32,33] O .scf ⟨Ua,Ua,G⟩ (fun hc=>Gv (f:=Stowed.av) (xs:=l) (y:=y42) O O O Gx hy42 O) O (JLo (.dptr ((Stowed.cs y42).drop 1)) [34] O .scf ⟨Ua,G⟩ (fun hc=>Ga Hs O O O) O (JLo (.dptr ((Stowed.cs y42).drop 1)) [35] O .scf ⟨Ua,G⟩ (fun hc=>Ga J0 O O O) O (JLo (I64 y42.Slot.G3) [36] O .scf ⟨Ua,G⟩ (fun hc=>Ge Gb O O O) O (JLo (I64 column) [] O .scf G (fun hc=>G4 O O) O (JLo (BL (decide (y42.Slot.G3≠column))) [37,38] O .scf ⟨Ua,Ua,G⟩ (fun hc=>G1d O O O) O (JLh (BL ((!r47.2)||(decide (y42.Slot.G3≠column)))) (Rs O O O O) O (JLm (BL ((!r47.2)||(decide (y42.Slot.G3≠column)))) O ?_)))))))))))))
   refine JLo (E2 l) [] O .scf G (fun hc=>G4 O O) O (JLo (Ei i42) [] O .scf G (fun hc=>G4 O O) O (JLo (Ec y42) [42,43] O .scf ⟨Ua,Ua,G⟩ (fun hc=>Gv (f:=Stowed.av) (xs:=l) (y:=y42) O O O Gx hy42 O) O (JLo (.dptr ((Stowed.cs y42).drop 1)) [44] O .scf ⟨Ua,G⟩ (fun hc=>Ga Hs O O O) O (JLo (.dptr [U8 y42.Slot.Half]) [45] O .scf ⟨Ua,G⟩ (fun hc=>Ga Q4 O O O) O (JLo (U8 y42.Slot.Half) [46] O .scf ⟨Ua,G⟩ (fun hc=>Ge J6 O O O) O (JLo (U8 half) [] O .scf G (fun hc=>G4 O O) O (JLo (BL (decide (y42.Slot.Half≠half))) [47,48] O .scf ⟨Ua,Ua,G⟩ (fun hc=>G1d O O O) O (JLo (BL (decide (y42.Slot.Half≠half))) [49] O .scf ⟨Ua,G⟩ (fun hc=>G4 O O) O (JLo (E2 l) [] O .optt G (fun hc=>G4 O O) O (JLo (Ei i42) [] O .optt G (fun hc=>G4 O O) O (JLo (Ec y42) [51,52] O .optt ⟨Ua,Ua,G⟩ (fun hc=>Gv (f:=Stowed.av) (xs:=l) (y:=y42) O O O Gx hy42 O) O (JLo (.dptr ((Stowed.cs y42).drop 1)) [53] O .optt ⟨Ua,G⟩ (fun hc=>Ga Hs O O O) O (JLo (.dptr [U8 y42.Slot.Half]) [54] O .optt ⟨Ua,G⟩ (fun hc=>Ga Q4 O O O) O ?_)))))))))))))
   refine JLo (U8 y42.Slot.Half) [55] O .optt ⟨Ua,G⟩ (fun hc=>Ge J6 O O O) O (JLo (BL (decide (y42.Slot.Half≠0))) [56] O .optt ⟨Ua,G⟩ (fun hc=>G1d O O O) O (G9 (u:=BL ((decide (y42.Slot.Half≠half))&&(decide (y42.Slot.Half≠0)))) [(50,BL (decide (y42.Slot.Half≠half))),(57,_)] O O O .scf ⟨.all id,.part,G⟩ (fun hc=>J4 O O O O) ?_))
   refine JLh (BL (((!r47.2)||(decide (y42.Slot.G3≠column)))||((decide (y42.Slot.Half≠half))&&(decide (y42.Slot.Half≠0))))) (Rs O O O O) O (G7 (hK49 (JCc O h (fun h hb=>?_) (fun h hb=>?_))))
   ·
    refine Hi (ej45 _ _ s42 h ⟨(.sm O O),G,rfl⟩)
   ·
    refine Gm (hK48 (Jr fun hK50=>(JLh (.dptr ((Box.cs r47.1).drop 3)) (Ga J2d O O O) O (JLh (BL r47.1.High) (Ge Qv O O O) O (G7 (hK50 (JCc O h (fun h hb=>?_) (fun h hb=>?_))))))))
    ·
     refine G2 (JLm (I64 s42) O ?_)
     obtain⟨v51,hv51,h⟩:=Qk h
     refine JLh (I64 v51) (Ht hv51 O O O) O (JLm (I64 v51) O (G7 (ej45 _ _ v51 h ⟨(.sm O O),G,rfl⟩)))
    ·
     refine G2 (JLm (I64 s42) O ?_)
     obtain⟨v52,hv52,h⟩:=Qk h
     refine JLh (I64 v52) (Ht hv52 O O O) O (JLm (I64 v52) O (G7 (ej45 _ _ v52 h ⟨(.sm O O),G,rfl⟩)))
  ·intro j45 h
   replace h:=app1 hkj45 h
   refine G2 (JLm (Ei i42) O (JLh (I64 ((i42+1:Nat):Int)) (Ht (Hb hk42 hm15) O O O) O (JLm (I64 ((i42+1:Nat):Int)) O (G7 (e42 _ _ (i42+1) j45 (app1 hn42 h) (by omega) ⟨(.sm O O),G,rfl⟩)))))
 ·
  have h:=app1 hkx42 (Hk hi42 (H3 hb))
  refine Hi (hK3 (Jr fun hK53=>(JLm (I64 s42) O (JLm (I64 s42) O (G7 (hK53 (Gq (fin1 I64 h))))))))

def Yf (s:H0) (boxes:List Box) (l:List Stowed) (c:Int):Option Bool:=
 Qm s.Columns c fun y4=>
 bif decide (y4.Height=0) then
 (some false)
 else
 (bnd (Rc boxes l c 1) fun r8=>
  Qm s.Columns c fun y9=>
  bnd (bif (!(decide (y9.Height < r8))) then Rc boxes l c 2 else some default) fun r11=>
  bnd (bif (!(decide (y9.Height < r8))) then Qm s.Columns c some else some default) fun y12=>
  some ((decide (y9.Height < r8))||(decide (y12.Height < r11))))
theorem Gdb (s:H0) (boxes:List Box) (l:List Stowed) (c:Int) (r:Bool) (h:Yf s boxes l c=some r):Pure Ej 78 [.agg (H0.cs s),E3 boxes,E2 l,I64 c] (·=BL r):=by
 unfold Yf at h
 refine Gy [.tmp 8] Tryz.func78 O O (Jr fun hK1=>(JLh (.ptr 1132 0) (J7 (cs:=(H0.cs s)) 1132 O O O O O) O (JLm (BL false) O (G7 (hK1 (Gr [(1,E3 boxes),(2,E2 l),(3,I64 c),(4,Eb s)] [] 1132 rfl rfl rfl G rfl (by repeat' (first | exact .ptr | constructor)) (Js fun hK2=>?_)))))))
 refine Jr fun hK3=>(JLh (Eb s) (Ga Hh O O O) O (JLh (E5 s.Columns) (Ge Ho O O O) O (JLm (I64 c) O ?_)))
 obtain⟨m5,y4,hm5,hy4,h⟩:=Rb h
 refine JLh (Ed y4) (Gv (f:=G3.av) (xs:=s.Columns) (y:=y4) O O O H6 hy4 hm5) O (JLh (.dptr ((G3.cs y4).drop 4)) (Ga G45 O O O) O (JLh (I64 y4.Height) (Ge Gb O O O) O (JLh (BL (decide (y4.Height=0))) (Ju O O O) O (G7 (hK3 (JCc O h (fun h hb=>?_) (fun h hb=>?_)))))))
 ·
  refine Jr fun hK6=>(JLm (BL false) O (G7 (hK6 (Gq (fin1 BL h)))))
 ·
  refine Gm (hK2 (Js fun hK7=>?_))
  obtain⟨r8,hr8,h⟩:=Gd h
  obtain⟨m10,y9,hm10,hy9,h⟩:=Rb h
  obtain⟨r11,hr11,h⟩:=Gd h
  obtain⟨y12,hy12,h⟩:=Gd h
  refine JC_d0 Jb (by kernel_rfl) (Dq (E3 boxes) (G4 O O) O (Dq (E2 l) (G4 O O) O (Dq (I64 c) (G4 O O) O (Dq (I64 r8) (Gi (args:=[E3 boxes,E2 l,I64 c,U8 1]) O (Gb6 boxes l c 1 r8 hr8) Jbb ⟨O,O,O,O,O,O,O,O,G⟩) O (Dq (Eb s) (Ga Hh O O O) O (Dq (E5 s.Columns) (Ge Ho O O O) O (Dq (I64 c) (G4 O O) O (Dq (Ed y9) (Gv (f:=G3.av) (xs:=s.Columns) (y:=y9) O O O H6 hy9 hm10) O (Dq (.dptr ((G3.cs y9).drop 4)) (Ga G45 O O O) O (Dq (I64 y9.Height) (Ge Gb O O O) O (Dq (BL (decide (y9.Height < r8))) (G41 O O O) O (Dq (BL (decide (y9.Height < r8))) (G4 O O) O (Do (E3 boxes) [] O .scf G (fun hc=>G4 O O) O ?_)))))))))))))
  refine Do (E2 l) [] O .scf G (fun hc=>G4 O O) O (Do (I64 c) [] O .scf G (fun hc=>G4 O O) O (Do (I64 r11) [28,29,30] O .scf ⟨Ua,Ua,Ua,G⟩ (fun hc=>Gi (args:=[E3 boxes,E2 l,I64 c,U8 2]) O (Gb6 boxes l c 2 r11 (Gw hc hr11)) Jbb ⟨O,O,O,O,O,O,O,O,G⟩) O (Do (Eb s) [] O .scf G (fun hc=>Ga Hh O O O) O (Do (E5 s.Columns) [32] O .scf ⟨Ua,G⟩ (fun hc=>Ge Ho O O O) O (Do (I64 c) [] O .scf G (fun hc=>G4 O O) O (Do (Ed y12) [33,34] O .scf ⟨Ua,Ua,G⟩ (fun hc=>(match Q0 (Gw hc hy12) with | ⟨_,hm_,hy_⟩=>Gv (f:=G3.av) (xs:=s.Columns) (y:=y12) O O O H6 hy_ hm_)) O (Do (.dptr ((G3.cs y12).drop 4)) [35] O .scf ⟨Ua,G⟩ (fun hc=>Ga G45 O O O) O (Do (I64 y12.Height) [36] O .scf ⟨Ua,G⟩ (fun hc=>Ge Gb O O O) O (Do (BL (decide (y12.Height < r11))) [31,37] O .scf ⟨Ua,Ua,G⟩ (fun hc=>G41 O O O) O (Dq (BL ((decide (y9.Height < r8))||(decide (y12.Height < r11)))) (Rs O O O O) O (Dq (BL ((decide (y9.Height < r8))||(decide (y12.Height < r11)))) (G6 O O) O (Dnil ?_))))))))))))
  refine hK7 (Gq (fin1 BL h))

def Q7 (F:Nat) (s:H0) (boxes:List Box) (l:List Stowed):Option Bool:=
 bnd (G0c F s) fun r4=>
 bif (!r4) then
 (some false)
 else
 (each (fun y8 i8 (s8:Unit) nx8=>
   bnd (Qt boxes y8.Box) fun r13=>
   bnd (bif (!(!r13.2)) then chk (r13.1.Size) some else some 0) fun v16=>
   bnd (bif (!(!r13.2)) then Y0 s y8.Slot v16 else some default) fun r17=>
   bnd (bif (!((!r13.2)||(!r17))) then Z3 l else some default) fun r18=>
   bnd (bif (!((!r13.2)||(!r17))) then Zj y8.Slot r18 else some default) fun r19=>
   bif (((!r13.2)||(!r17))||(!r19)) then
   (some false)
   else
   (need (decide ((i8:Int)≤9223372036854775807)) <|
    upto (fun i39 (s39:Unit) nx39=>
     Qm l (i39:Int) fun y44=>
     bnd (bif (!(decide (y8.Box≤y44.Box))) then Qm l (i39:Int) some else some default) fun y46=>
     bnd (bif (!(decide (y8.Box≤y44.Box))) then Zi y46.Slot y8.Slot else some default) fun r47=>
     bif ((decide (y8.Box≤y44.Box))||r47) then
     (some false)
     else
     (nx39 ()))
    (fun(s39:Unit)=>
     nx8 ()) (i8:Int).toNat 0 ()))
  (fun(s8:Unit)=>
   each (fun y62 i62 (s62:Unit) nx62=>
    bnd (Yf s boxes l (i62:Int)) fun r67=>
    bif r67 then
    (some false)
    else
    (nx62 ()))
   (fun(s62:Unit)=>
    some true) s.Columns 0 ()) l 0 ())
theorem Y7 (F:Nat) (s:H0) (boxes:List Box) (l:List Stowed) (r:Bool) (h:Q7 F s boxes l=some r):Pure Ej 35 [.agg (H0.cs s),E3 boxes,E2 l] (·=BL r):=by
 unfold Q7 at h
 refine Gy [.tmp 6] Tryz.func35 O O (Jr fun hK1=>(JLh (.ptr 1068 0) (J7 (cs:=(H0.cs s)) 1068 O O O O O) O (JLm (BL false) O (G7 (hK1 (Gr [(1,E3 boxes),(2,E2 l),(3,Eb s)] [] 1068 rfl rfl rfl G rfl (by exact⟨.conv (.same rfl),.conv (.same rfl),.ptr,G⟩) (Js fun hK2=>?_)))))))
 refine Jr fun hK3=>(JLh (.agg (H0.cs s)) (Gg H7 O O O) O ?_)
 obtain⟨r4,hr4,h⟩:=Gd h
 refine JLh (BL r4) (Gi O (H9b F s r4 hr4) R63 ⟨O,O,G⟩) O (JLh (BL (!r4)) (Q3 (b:=r4) O O) O (G7 (hK3 (JCc O h (fun h hb=>?_) (fun h hb=>?_)))))
 ·
  refine Jr fun hK5=>(JLm (BL false) O (G7 (hK5 (Gq (fin1 BL h)))))
 ·
  refine Gm (hK2 (Js fun hK6=>Jr fun hK7=>(JLm (I64 0) O (G7 (hK7 (Gp ?_))))))
  obtain⟨b8,kx8,hb8,hkx8,h⟩:=Hv h
  refine Hc (fun i8 (s8:Unit)=>each b8 kx8 (List.drop i8 l) i8 s8=some r) (fun i8 s8=>[(1,E3 boxes),(2,E2 l),(3,Eb s),(7,Ei i8)]) (fun i8 s8=>[]) (fun i8=>l.length - i8) 0 () h ⟨(.sm O O),G,rfl⟩ ?_
  clear h
  intro i8 s8 hi8 K8 e8
  refine Js fun hK9=>Jr fun hK10=>(JLm (Ei i8) O (JLm (E2 l) O (JLl Gx O O O fun hm17=>(JLh (BL (decide ((i8:Int) < (l.length:Int)))) (Hy O O O) O (G7 (hK10 (Gj O (fun hb=>?_) (fun hb=>?_))))))))
  ·
   have hk8:=J8 hb
   obtain⟨y8,nx8,hy8,hn8,h⟩:=Hj hi8 hk8
   replace h:=R8 hb8 h
   refine Gm (hK9 (Js fun hK11=>Gp (Jr fun hK12=>(JLm (E3 boxes) O (JLm (E2 l) O (JLm (Ei i8) O (JLh (Ec y8) (Gv (f:=Stowed.av) (xs:=l) (y:=y8) O O O Gx hy8 O) O (JLh (Ec y8) (Ga Hu O O O) O (JLh (I64 y8.Box) (Ge Gb O O O) O ?_)))))))))
   obtain⟨r13,hr13,h⟩:=Gd h
   refine JLh (.tup [.agg (Box.cs r13.1),BL r13.2]) (Gi O (Zw boxes y8.Box r13 hr13) H53 ⟨O,O,O,O,G⟩) O (JLm (.tup [.agg (Box.cs r13.1),BL r13.2]) O (JLh (.agg (Box.cs r13.1)) (H4 O O O) O (JLh (BL r13.2) (H4 O O O) O (JLh (.ptr 1069 0) (Jn 1069 9 G16 O O) O (Je (u:=.junk) (J5 (u:=.agg (Box.cs r13.1)) (ds:=(Box.cs r13.1)) Zs O O O O O O O O) (JLm (BL r13.2) O (G7 (hK12 ?_))))))))
   refine Gr [(1,E3 boxes),(2,E2 l),(3,Eb s),(7,Ei i8),(8,Ee r13.1),(9,BL r13.2)] [] 1069 rfl rfl rfl G rfl (by repeat' (first | exact .ptr | constructor)) (Js fun hK14=>Js fun hK15=>?_)
   obtain⟨v16,hv16,h⟩:=Gd h
   obtain⟨r17,hr17,h⟩:=Gd h
   obtain⟨r18,hr18,h⟩:=Gd h
   obtain⟨r19,hr19,h⟩:=Gd h
   refine JC_d0 Jb (by kernel_rfl) (Dq (BL r13.2) (G4 O O) O (Dq (BL (!r13.2)) (Q3 (b:=r13.2) O O) O (Dq (BL (!r13.2)) (G4 O O) O (Do (.agg (H0.cs s)) [] O .scf G (fun hc=>Gg H7 O O O) O (Do (E2 l) [] O .scf G (fun hc=>G4 O O) O (Do (Ei i8) [] O .scf G (fun hc=>G4 O O) O (Do (Ec y8) [35,36] O .scf ⟨Ua,Ua,G⟩ (fun hc=>Gv (f:=Stowed.av) (xs:=l) (y:=y8) O O O Gx hy8 O) O (Do (.dptr ((Stowed.cs y8).drop 1)) [37] O .scf ⟨Ua,G⟩ (fun hc=>Ga Hs O O O) O (Do (.agg ((Stowed.cs y8).drop 1)) [38] O .scf ⟨Ua,G⟩ (fun hc=>Gg Jh O O O) O (Do (.dptr ((Box.cs r13.1).drop 2)) [] O .scf G (fun hc=>Ga Rm O O O) O (Do (U8 r13.1.Size) [40] O .scf ⟨Ua,G⟩ (fun hc=>Ge J6 O O O) O (Do (I64 v16) [41] O .scf ⟨Ua,G⟩ (fun hc=>Q70 He1 Jf9 (G2d (Gw hc hv16)) O O) O (Do (BL r17) [34,39,42] O .scf ⟨Ua,Ua,Ua,G⟩ (fun hc=>Gi (args:=[.agg (H0.cs s),.agg ((Stowed.cs y8).drop 1),I64 v16]) O (G69 s y8.Slot v16 r17 (Gw hc hr17)) J46 ⟨O,O,O,O,O,O,G⟩) O ?_)))))))))))))
   refine Do (BL (!r17)) [43] O .scf ⟨Ua,G⟩ (fun hc=>Q3 (b:=r17) O O) O (Dq (BL ((!r13.2)||(!r17))) (Rs O O O O) O (Dq (BL ((!r13.2)||(!r17))) (G4 O O) O (Do (E2 l) [] O .scf G (fun hc=>G4 O O) O (Do (Ei i8) [] O .scf G (fun hc=>G4 O O) O (Do (Ec y8) [47,48] O .scf ⟨Ua,Ua,G⟩ (fun hc=>Gv (f:=Stowed.av) (xs:=l) (y:=y8) O O O Gx hy8 O) O (Do (.dptr ((Stowed.cs y8).drop 1)) [49] O .scf ⟨Ua,G⟩ (fun hc=>Ga Hs O O O) O (Do (.agg ((Stowed.cs y8).drop 1)) [50] O .scf ⟨Ua,G⟩ (fun hc=>Gg Jh O O O) O (Do (E2 l) [] O .scf G (fun hc=>G4 O O) O (Do (E4 r18) [52] O .scf ⟨Ua,G⟩ (fun hc=>Gi (args:=[E2 l]) O (Gc3 l r18 (Gw hc hr18)) Q03 ⟨O,O,G⟩) O (Do (BL r19) [51,53] O .scf ⟨Ua,Ua,G⟩ (fun hc=>Gi (args:=[.agg ((Stowed.cs y8).drop 1),E4 r18]) O (Gdd y8.Slot r18 r19 (Gw hc hr19)) Q04 ⟨O,O,O,O,G⟩) O (Do (BL (!r19)) [54] O .scf ⟨Ua,G⟩ (fun hc=>Q3 (b:=r19) O O) O (Dq (BL (((!r13.2)||(!r17))||(!r19))) (Rs O O O O) O (Dnil ?_)))))))))))))
   refine hK15 (JCc O h (fun h hb=>?_) (fun h hb=>?_))
   ·
    refine Jr fun hK20=>(JLm (BL false) O (G7 (hK20 (Gq (fin1 BL h)))))
   ·
    refine Gm (hK14 (Jr fun hK21=>(JLm (I64 0) O (G7 (hK21 (Gp ?_))))))
    obtain⟨hx39,h⟩:=Hp h
    obtain⟨b39,kx39,hb39,hkx39,h⟩:=G8a h
    refine Hc (fun i39 (s39:Unit)=>upto b39 kx39 ((i8:Int).toNat - i39) i39 s39=some r) (fun i39 s39=>[(1,E3 boxes),(2,E2 l),(3,Eb s),(7,Ei i8),(10,Ei i39)]) (fun i39 s39=>[]) (fun i39=>(i8:Int).toNat - i39) 0 () h ⟨(.sm O O),G,rfl⟩ ?_
    clear h
    intro i39 s39 hi39 K39 e39
    refine Js fun hK40=>Jr fun hK41=>(JLm (Ei i39) O (JLm (Ei i8) O (JLh (BL (decide ((i39:Int) < (i8:Int)))) (Hy O O O) O (G7 (hK41 (Gj O (fun hb=>?_) (fun hb=>?_)))))))
    ·
     have hk39:=G5d hb
     obtain⟨nx39,hn39,h⟩:=G58 hi39 hk39
     replace h:=J02 hb39 h
     refine Gm (hK40 (Js fun hK42=>Gp (Js fun hK43=>?_)))
     obtain⟨m45,y44,hm45,hy44,h⟩:=Rb h
     obtain⟨y46,hy46,h⟩:=Gd h
     obtain⟨r47,hr47,h⟩:=Gd h
     refine JC_d0 Jb (by kernel_rfl) (Dq (E2 l) (G4 O O) O (Dq (Ei i39) (G4 O O) O (Dq (Ec y44) (Gv (f:=Stowed.av) (xs:=l) (y:=y44) O O O Gx hy44 hm45) O (Dq (Ec y44) (Ga Hu O O O) O (Dq (I64 y44.Box) (Ge Gb O O O) O (Dq (E2 l) (G4 O O) O (Dq (Ei i8) (G4 O O) O (Dq (Ec y8) (Gv (f:=Stowed.av) (xs:=l) (y:=y8) O O O Gx hy8 O) O (Dq (Ec y8) (Ga Hu O O O) O (Dq (I64 y8.Box) (Ge Gb O O O) O (Dq (BL (decide (y8.Box≤y44.Box))) (G13 O O O) O (Dq (BL (decide (y8.Box≤y44.Box))) (G4 O O) O (Do (E2 l) [] O .scf G (fun hc=>G4 O O) O ?_)))))))))))))
     refine Do (Ei i39) [] O .scf G (fun hc=>G4 O O) O (Do (Ec y46) [74,75] O .scf ⟨Ua,Ua,G⟩ (fun hc=>(match Q0 (Gw hc hy46) with | ⟨_,hm_,hy_⟩=>Gv (f:=Stowed.av) (xs:=l) (y:=y46) O O O Gx hy_ hm_)) O (Do (.dptr ((Stowed.cs y46).drop 1)) [76] O .scf ⟨Ua,G⟩ (fun hc=>Ga Hs O O O) O (Do (.agg ((Stowed.cs y46).drop 1)) [77] O .scf ⟨Ua,G⟩ (fun hc=>Gg Jh O O O) O (Do (E2 l) [] O .scf G (fun hc=>G4 O O) O (Do (Ei i8) [] O .scf G (fun hc=>G4 O O) O (Do (Ec y8) [79,80] O .scf ⟨Ua,Ua,G⟩ (fun hc=>Gv (f:=Stowed.av) (xs:=l) (y:=y8) O O O Gx hy8 O) O (Do (.dptr ((Stowed.cs y8).drop 1)) [81] O .scf ⟨Ua,G⟩ (fun hc=>Ga Hs O O O) O (Do (.agg ((Stowed.cs y8).drop 1)) [82] O .scf ⟨Ua,G⟩ (fun hc=>Gg Jh O O O) O (Do (BL r47) [78,83] O .scf ⟨Ua,Ua,G⟩ (fun hc=>Gi (args:=[.agg ((Stowed.cs y46).drop 1),.agg ((Stowed.cs y8).drop 1)]) O (Gdc y46.Slot y8.Slot r47 (Gw hc hr47)) Q02 ⟨O,O,O,O,G⟩) O (Dq (BL ((decide (y8.Box≤y44.Box))||r47)) (Rs O O O O) O (Dnil ?_)))))))))))
     refine hK43 (JCc O h (fun h hb=>?_) (fun h hb=>?_))
     ·
      refine Jr fun hK48=>(JLm (BL false) O (G7 (hK48 (Gq (fin1 BL h)))))
     ·
      refine Gm (hK42 (G2 (JLm (Ei i39) O (JLh (I64 ((i39+1:Nat):Int)) (Ht (Hb hk39 (G36 hx39)) O O O) O (JLm (I64 ((i39+1:Nat):Int)) O (G7 (e39 _ _ (i39+1) () (app1 hn39 h) (by omega) ⟨(.sm O O),G,rfl⟩)))))))
    ·
     have h:=app1 hkx39 (G59 hi39 (Yi hb))
     refine Hi (hK11 (G2 (JLm (Ei i8) O (JLh (I64 ((i8+1:Nat):Int)) (Ht (Hb hk8 hm17) O O O) O (JLm (I64 ((i8+1:Nat):Int)) O (G7 (e8 _ _ (i8+1) () (app1 hn8 h) (by omega) ⟨(.sm O O),G,rfl⟩)))))))
  ·
   have h:=app1 hkx8 (Hk hi8 (H3 hb))
   refine Hi (hK6 (Js fun hK49=>Jr fun hK50=>(JLm (I64 0) O (G7 (hK50 (Gp ?_))))))
   obtain⟨b62,kx62,hb62,hkx62,h⟩:=Hv h
   refine Hc (fun i62 (s62:Unit)=>each b62 kx62 (List.drop i62 s.Columns) i62 s62=some r) (fun i62 s62=>[(1,E3 boxes),(2,E2 l),(3,Eb s),(11,Ei i62)]) (fun i62 s62=>[]) (fun i62=>s.Columns.length - i62) 0 () h ⟨(.sm O O),G,rfl⟩ ?_
   clear h
   intro i62 s62 hi62 K62 e62
   refine Js fun hK63=>Jr fun hK64=>(JLm (Ei i62) O (JLh (Eb s) (Ga Hh O O O) O (JLh (E5 s.Columns) (Ge Ho O O O) O (JLl H6 O O O fun hm89=>(JLh (BL (decide ((i62:Int) < (s.Columns.length:Int)))) (Hy O O O) O (G7 (hK64 (Gj O (fun hb=>?_) (fun hb=>?_)))))))))
   ·
    have hk62:=J8 hb
    obtain⟨y62,nx62,hy62,hn62,h⟩:=Hj hi62 hk62
    replace h:=R8 hb62 h
    refine Gm (hK63 (Js fun hK65=>Gp (Jr fun hK66=>(JLh (.agg (H0.cs s)) (Gg H7 O O O) O (JLm (E3 boxes) O (JLm (E2 l) O (JLm (Ei i62) O ?_)))))))
    obtain⟨r67,hr67,h⟩:=Gd h
    refine JLh (BL r67) (Gi O (Gdb s boxes l (i62:Int) r67 hr67) Q01 ⟨O,O,O,O,O,O,O,O,G⟩) O (G7 (hK66 (JCc O h (fun h hb=>?_) (fun h hb=>?_))))
    ·
     refine Jr fun hK68=>(JLm (BL false) O (G7 (hK68 (Gq (fin1 BL h)))))
    ·
     refine Gm (hK65 (G2 (JLm (Ei i62) O (JLh (I64 ((i62+1:Nat):Int)) (Ht (Hb hk62 hm89) O O O) O (JLm (I64 ((i62+1:Nat):Int)) O (G7 (e62 _ _ (i62+1) () (app1 hn62 h) (by omega) ⟨(.sm O O),G,rfl⟩)))))))
   ·
    have h:=app1 hkx62 (Hk hi62 (H3 hb))
    refine Hi (hK49 (Jr fun hK69=>(JLm (BL true) O (G7 (hK69 (Gq (fin1 BL h)))))))

def Ra (l:List Stowed) (id_:Int):Option Int:=
 each (fun y17 i17 (s17:Unit) nx17=>
  bif decide (y17.Box=id_) then
  (some (i17:Int))
  else
  (nx17 ()))
 (fun(s17:Unit)=>
  some (-1)) l 0 ()
theorem G1a (l:List Stowed) (id_:Int) (r:Int) (h:Ra l id_=some r):Pure Ej 36 [E2 l,I64 id_] (·=I64 r):=by
 unfold Ra at h
 refine Gy [.tmp 4] Tryz.func36 O O (Jr fun hK1=>(JLm (I64 0) O (G7 (hK1 (Js fun hK2=>Jr fun hK3=>(JLm (I64 0) O (G7 (hK3 (Gp ?_)))))))))
 obtain⟨b17,kx17,hb17,hkx17,h⟩:=Hv h
 refine Hc (fun i17 (s17:Unit)=>each b17 kx17 (List.drop i17 l) i17 s17=some r) (fun i17 s17=>[(0,E2 l),(1,I64 id_),(5,Ei i17)]) (fun i17 s17=>[]) (fun i17=>l.length - i17) 0 () h ⟨(.sm O O),G,O⟩ ?_
 clear h
 intro i17 s17 hi17 K17 e17
 refine Js fun hK18=>Jr fun hK19=>(JLm (Ei i17) O (JLm (E2 l) O (JLl Gx O O O fun hm8=>(JLh (BL (decide ((i17:Int) < (l.length:Int)))) (Hy O O O) O (G7 (hK19 (Gj O (fun hb=>?_) (fun hb=>?_))))))))
 ·
  have hk17:=J8 hb
  obtain⟨y17,nx17,hy17,hn17,h⟩:=Hj hi17 hk17
  replace h:=R8 hb17 h
  refine Gm (hK18 (Js fun hK20=>Gp (Jr fun hK21=>(JLm (E2 l) O (JLm (Ei i17) O (JLh (Ec y17) (Gv (f:=Stowed.av) (xs:=l) (y:=y17) O O O Gx hy17 O) O (JLh (Ec y17) (Ga Hu O O O) O (JLh (I64 y17.Box) (Ge Gb O O O) O (JLm (I64 id_) O (JLh (BL (decide (y17.Box=id_))) (Ju O O O) O (G7 (hK21 (JCc O h (fun h hb=>?_) (fun h hb=>?_))))))))))))))
  ·
   refine Jr fun hK22=>(JLm (Ei i17) O (JLm (Ei i17) O (G7 (hK22 (Gq (fin1 I64 h))))))
  ·
   refine Gm (hK20 (G2 (JLm (Ei i17) O (JLh (I64 ((i17+1:Nat):Int)) (Ht (Hb hk17 hm8) O O O) O (JLm (I64 ((i17+1:Nat):Int)) O (G7 (e17 _ _ (i17+1) () (app1 hn17 h) (by omega) ⟨(.sm O O),G,rfl⟩)))))))
 ·
  have h:=app1 hkx17 (Hk hi17 (H3 hb))
  refine Hi (hK2 (Jr fun hK23=>(JLm (I64 (-1)) O (G7 (hK23 (Gq (fin1 I64 h)))))))

def Jq (boxes:List Box) (id_:Int):Option Int:=
 bnd (Qt boxes id_) fun r3=>
 some r3.1.Discharge
theorem Qz (boxes:List Box) (id_:Int) (r:Int) (h:Jq boxes id_=some r):Pure Ej 41 [E3 boxes,I64 id_] (·=I64 r):=by
 unfold Jq at h
 refine Gy [.tmp 4] Tryz.func41 O O (Jr fun hK1=>(JLm (I64 0) O (G7 (hK1 (Jr fun hK2=>(JLm (E3 boxes) O (JLm (I64 id_) O ?_)))))))
 obtain⟨r3,hr3,h⟩:=Gd h
 refine JLh (.tup [.agg (Box.cs r3.1),BL r3.2]) (Gi O (Zw boxes id_ r3 hr3) H53 ⟨O,O,O,O,G⟩) O (JLm (.tup [.agg (Box.cs r3.1),BL r3.2]) O (JLh (.agg (Box.cs r3.1)) (H4 O O O) O (JLh (BL r3.2) (H4 O O O) O (JLh (.ptr 1080 0) (Jn 1080 9 G16 O O) O (Je (u:=.junk) (J5 (u:=.agg (Box.cs r3.1)) (ds:=(Box.cs r3.1)) Zs O O O O O O O O) (JLm (BL r3.2) O (G7 (hK2 (Gr [(5,Ee r3.1)] [] 1080 rfl rfl rfl G rfl (by exact⟨.ptr,G⟩) (Jr fun hK4=>(JLh (.dptr ((Box.cs r3.1).drop 6)) (Ga J2c O O O) O (JLh (I64 r3.1.Discharge) (Ge Gb O O O) O (JLm (I64 r3.1.Discharge) O (G7 (hK4 (Gq (fin1 I64 h)))))))))))))))))

def Q5 (s:H0) (column:Int):Option Int:=
 bif ((decide (column < 0))||(decide ((s.Columns.length:Int)≤column))) then
 (some (-1))
 else
 (each (fun y30 i30 (s30:Unit) nx30=>
   Qm s.Columns column fun y35=>
   bnd (bif decide (y30.Bay=y35.Bay) then Qm s.Columns column some else some default) fun y37=>
   bnd (bif decide (y30.Bay=y35.Bay) then Qn y30.Rows y37.Row else some default) fun r38=>
   bif ((decide (y30.Bay=y35.Bay))&&r38) then
   (some (i30:Int))
   else
   (nx30 ()))
  (fun(s30:Unit)=>
   some (-1)) s.Covers 0 ())
abbrev Ka (s:H0):List AV:=[E6 s.Covers,I64 s.Light.Kilos,I64 s.Light.X,I64 s.Light.Y,I64 s.Light.Z,E8 s.Rows,E7 s.Frames,E9 s.Tanks,I64 s.G1.Tolerance,I64 s.G1.Trim,I64 s.G1.List_,I64 s.G1.Stability]
theorem G0d (s:H0) (column:Int) (r:Int) (h:Q5 s column=some r):Pure Ej 109 [.agg (H0.cs s),I64 column] (·=I64 r):=by
 unfold Q5 at h
 refine Gy [.tmp 4] Tryz.func109 O O (Jr fun hK1=>(JLh (.ptr 1172 0) (J7 (cs:=(H0.cs s)) 1172 O O O O O) O (JLm (I64 0) O (G7 (hK1 (Gr [(1,I64 column),(2,Eb s)] [] 1172 rfl rfl rfl G rfl (by exact⟨.conv (.same rfl),.ptr,G⟩) (Js fun hK2=>?_)))))))
 refine Jr fun hK3=>(JLm (I64 column) O (JLh (BL (decide (column < 0))) (Hy O O O) O (JLm (BL (decide (column < 0))) O (JLo (I64 column) [] O .scf G (fun hc=>G4 O O) O (JLo (Eb s) [] O .scf G (fun hc=>Ga Hh O O O) O (JLo (E5 s.Columns) [10] O .scf ⟨Ua,G⟩ (fun hc=>Ge Ho O O O) O (JLo (Ei s.Columns.length) [11] O .scf ⟨Ua,G⟩ (fun hc=>Qs (f:=G3.av) (xs:=s.Columns) H6 O O) O (JLo (BL (decide ((s.Columns.length:Int)≤column))) [9,12] O .scf ⟨Ua,Ua,G⟩ (fun hc=>G13 O O O) O (JLh (BL ((decide (column < 0))||(decide ((s.Columns.length:Int)≤column)))) (Rs O O O O) O (G7 (hK3 ?_)))))))))))
 refine JCc O h ?_ ?_<;>intro h hb
 ·
  refine Jr fun hK4=>(JLm (I64 (-1)) O (G7 (hK4 (Gq (fin1 I64 h)))))
 ·
  refine Gm (hK2 (Js fun hK5=>Jr fun hK6=>(JLm (I64 0) O (G7 (hK6 (Gp ?_))))))
  obtain⟨b30,kx30,hb30,hkx30,h⟩:=Hv h
  refine Hc (fun i30 (s30:Unit)=>each b30 kx30 (List.drop i30 s.Covers) i30 s30=some r) (fun i30 s30=>[(1,I64 column),(2,Eb s),(5,Ei i30)]) (fun i30 s30=>[]) (fun i30=>s.Covers.length - i30) 0 () h ⟨(.sm O O),G,O⟩ ?_
  clear h
  intro i30 s30 hi30 K30 e30
  refine Js fun hK31=>Jr fun hK32=>(JLm (Ei i30) O (JLh (.dptr (Ka s)) (Ga Jg O O O) O (JLh (E6 s.Covers) (Ge Jv O O O) O (JLl Hq O O O fun hm18=>(JLh (BL (decide ((i30:Int) < (s.Covers.length:Int)))) (Hy O O O) O (G7 (hK32 (Gj O (fun hb=>?_) (fun hb=>?_)))))))))
  ·
   have hk30:=J8 hb
   obtain⟨y30,nx30,hy30,hn30,h⟩:=Hj hi30 hk30
   replace h:=R8 hb30 h
   refine Gm (hK31 (Js fun hK33=>Gp (Js fun hK34=>?_)))
   obtain⟨m36,y35,hm36,hy35,h⟩:=Rb h
   obtain⟨y37,hy37,h⟩:=Gd h
   obtain⟨r38,hr38,h⟩:=Gd h
   refine JC_d0 Jb (by kernel_rfl) (Dq (.dptr (Ka s)) (Ga Jg O O O) O (Dq (E6 s.Covers) (Ge Jv O O O) O (Dq (Ei i30) (G4 O O) O (Dq (.dptr [I64 y30.Bay,E1 y30.Rows]) (Gv (f:=G8.av) (xs:=s.Covers) (y:=y30) O O O Hq hy30 O) O (Dq (.dptr [I64 y30.Bay,E1 y30.Rows]) (Ga G06 O O O) O (Dq (I64 y30.Bay) (Ge Gb O O O) O (Dq (Eb s) (Ga Hh O O O) O (Dq (E5 s.Columns) (Ge Ho O O O) O (Dq (I64 column) (G4 O O) O (Dq (Ed y35) (Gv (f:=G3.av) (xs:=s.Columns) (y:=y35) O O O H6 hy35 hm36) O (Dq (Ed y35) (Ga G26 O O O) O (Dq (I64 y35.Bay) (Ge Gb O O O) O (Dq (BL (decide (y30.Bay=y35.Bay))) (Ju O O O) O ?_)))))))))))))
   refine Dq (BL (decide (y30.Bay=y35.Bay))) (G4 O O) O (Do (.dptr (Ka s)) [] O .sct G (fun hc=>Ga Jg O O O) O (Do (E6 s.Covers) [36] O .sct ⟨Ua,G⟩ (fun hc=>Ge Jv O O O) O (Do (Ei i30) [] O .sct G (fun hc=>G4 O O) O (Do (.dptr [I64 y30.Bay,E1 y30.Rows]) [37,38] O .sct ⟨Ua,Ua,G⟩ (fun hc=>Gv (f:=G8.av) (xs:=s.Covers) (y:=y30) O O O Hq hy30 O) O (Do (.dptr [E1 y30.Rows]) [39] O .sct ⟨Ua,G⟩ (fun hc=>Ga Qf O O O) O (Do (E1 y30.Rows) [40] O .sct ⟨Ua,G⟩ (fun hc=>Ge J1 O O O) O (Do (Eb s) [] O .sct G (fun hc=>Ga Hh O O O) O (Do (E5 s.Columns) [42] O .sct ⟨Ua,G⟩ (fun hc=>Ge Ho O O O) O (Do (I64 column) [] O .sct G (fun hc=>G4 O O) O (Do (Ed y37) [43,44] O .sct ⟨Ua,Ua,G⟩ (fun hc=>(match Q0 (Gw hc hy37) with | ⟨_,hm_,hy_⟩=>Gv (f:=G3.av) (xs:=s.Columns) (y:=y37) O O O H6 hy_ hm_)) O (Do (.dptr ((G3.cs y37).drop 1)) [45] O .sct ⟨Ua,G⟩ (fun hc=>Ga G25 O O O) O (Do (I64 y37.Row) [46] O .sct ⟨Ua,G⟩ (fun hc=>Ge Gb O O O) O (Do (BL r38) [41,47] O .sct ⟨Ua,Ua,G⟩ (fun hc=>Gi (args:=[E1 y30.Rows,I64 y37.Row]) O (Gb8 y30.Rows y37.Row r38 (Gw hc hr38)) Jbd ⟨O,O,O,O,G⟩) O ?_)))))))))))))
   refine Dq (BL ((decide (y30.Bay=y35.Bay))&&r38)) (J4 O O O O) O (Dnil (hK34 (JCc O h (fun h hb=>?_) (fun h hb=>?_))))
   ·
    refine Jr fun hK39=>(JLm (Ei i30) O (JLm (Ei i30) O (G7 (hK39 (Gq (fin1 I64 h))))))
   ·
    refine Gm (hK33 (G2 (JLm (Ei i30) O (JLh (I64 ((i30+1:Nat):Int)) (Ht (Hb hk30 hm18) O O O) O (JLm (I64 ((i30+1:Nat):Int)) O (G7 (e30 _ _ (i30+1) () (app1 hn30 h) (by omega) ⟨(.sm O O),G,rfl⟩)))))))
  ·
   have h:=app1 hkx30 (Hk hi30 (H3 hb))
   refine Hi (hK5 (Jr fun hK40=>(JLm (I64 (-1)) O (G7 (hK40 (Gq (fin1 I64 h)))))))

def G0b (s:H0) (column:Int):Option Int:=
 Qm s.Columns column fun y4=>
 bif y4.Deck then
 (some (-1))
 else
 (bnd (Q5 s column) fun r8=>
  some r8)
theorem H9a (s:H0) (column:Int) (r:Int) (h:G0b s column=some r):Pure Ej 88 [.agg (H0.cs s),I64 column] (·=I64 r):=by
 unfold G0b at h
 refine Gy [.tmp 4] Tryz.func88 O O (Jr fun hK1=>(JLh (.ptr 1143 0) (J7 (cs:=(H0.cs s)) 1143 O O O O O) O (JLm (I64 0) O (G7 (hK1 (Gr [(1,I64 column),(2,Eb s)] [] 1143 rfl rfl rfl G rfl (by exact⟨.conv (.same rfl),.ptr,G⟩) (Js fun hK2=>?_)))))))
 refine Jr fun hK3=>(JLh (Eb s) (Ga Hh O O O) O (JLh (E5 s.Columns) (Ge Ho O O O) O (JLm (I64 column) O ?_)))
 obtain⟨m5,y4,hm5,hy4,h⟩:=Rb h
 refine JLh (Ed y4) (Gv (f:=G3.av) (xs:=s.Columns) (y:=y4) O O O H6 hy4 hm5) O (JLh (.dptr ((G3.cs y4).drop 2)) (Ga Ro O O O) O (JLh (BL y4.Deck) (Ge Qv O O O) O (G7 (hK3 (JCc O h (fun h hb=>?_) (fun h hb=>?_))))))
 ·
  refine Jr fun hK6=>(JLm (I64 (-1)) O (G7 (hK6 (Gq (fin1 I64 h)))))
 ·
  refine Gm (hK2 (Jr fun hK7=>(JLh (.agg (H0.cs s)) (Gg H7 O O O) O (JLm (I64 column) O ?_))))
  obtain⟨r8,hr8,h⟩:=Gd h
  refine JLh (I64 r8) (Gi O (G0d s column r8 hr8) H85 ⟨O,O,O,O,G⟩) O (JLm (I64 r8) O (G7 (hK7 (Gq (fin1 I64 h)))))

def G1b (a:Slot) (b:Slot):Option Bool:=
 bnd (bif ((decide (a.G3=b.G3))&&(decide (b.Tier < a.Tier))) then Re a.Half b.Half else some default) fun r3=>
 some (((decide (a.G3=b.G3))&&(decide (b.Tier < a.Tier)))&&r3)
theorem Ha7 (a:Slot) (b:Slot) (r:Bool) (h:G1b a b=some r):Pure Ej 89 [.agg [I64 a.G3,I64 a.Tier,U8 a.Half],.agg [I64 b.G3,I64 b.Tier,U8 b.Half]] (·=BL r):=by
 unfold G1b at h
 refine Gy [.tmp 4] Tryz.func89 O O (Jr fun hK1=>(JLh (.ptr 1144 0) (J7 (cs:=[I64 a.G3,I64 a.Tier,U8 a.Half]) 1144 O O O O O) O (JLh (.ptr 1145 0) (J7 (cs:=[I64 b.G3,I64 b.Tier,U8 b.Half]) 1145 O O O O O) O (JLm (BL false) O (G7 (hK1 (Gr [(2,.dptr [I64 a.G3,I64 a.Tier,U8 a.Half]),(3,.ptr 1145 0)] [(1145,.box 71 [I64 b.G3,I64 b.Tier,U8 b.Half])] 1144 rfl rfl rfl ⟨⟨_,rfl,.boxEq rfl rfl⟩,G⟩ rfl (by exact⟨.ptr,.conv (.same rfl),G⟩) (Gr [(2,.dptr [I64 a.G3,I64 a.Tier,U8 a.Half]),(3,.dptr [I64 b.G3,I64 b.Tier,U8 b.Half])] [] 1145 rfl rfl rfl G rfl (by exact⟨.conv (.same rfl),.ptr,G⟩) ?_))))))))
 refine Jr fun hK2=>(JLh (.dptr [I64 a.G3,I64 a.Tier,U8 a.Half]) (Ga J0 O O O) O (JLh (I64 a.G3) (Ge Gb O O O) O (JLh (.dptr [I64 b.G3,I64 b.Tier,U8 b.Half]) (Ga J0 O O O) O (JLh (I64 b.G3) (Ge Gb O O O) O (JLh (BL (decide (a.G3=b.G3))) (Ju O O O) O (JLm (BL (decide (a.G3=b.G3))) O (JLo (.dptr [I64 a.Tier,U8 a.Half]) [] O .sct G (fun hc=>Ga Qq O O O) O (JLo (I64 a.Tier) [11] O .sct ⟨Ua,G⟩ (fun hc=>Ge Gb O O O) O (JLo (.dptr [I64 b.Tier,U8 b.Half]) [] O .sct G (fun hc=>Ga Qq O O O) O (JLo (I64 b.Tier) [13] O .sct ⟨Ua,G⟩ (fun hc=>Ge Gb O O O) O (JLo (BL (decide (b.Tier < a.Tier))) [12,14] O .sct ⟨Ua,Ua,G⟩ (fun hc=>G41 O O O) O (JLh (BL ((decide (a.G3=b.G3))&&(decide (b.Tier < a.Tier)))) (J4 O O O O) O (JLm (BL ((decide (a.G3=b.G3))&&(decide (b.Tier < a.Tier)))) O ?_)))))))))))))
 refine JLo (.dptr [U8 a.Half]) [] O .sct G (fun hc=>Ga Q4 O O O) O (JLo (U8 a.Half) [18] O .sct ⟨Ua,G⟩ (fun hc=>Ge J6 O O O) O (JLo (.dptr [U8 b.Half]) [] O .sct G (fun hc=>Ga Q4 O O O) O (JLo (U8 b.Half) [20] O .sct ⟨Ua,G⟩ (fun hc=>Ge J6 O O O) O ?_)))
 obtain⟨r3,hr3,h⟩:=Gd h
 refine JLo (BL r3) [19,21] O .sct ⟨Ua,Ua,G⟩ (fun hc=>Gi (args:=[U8 a.Half,U8 b.Half]) O (Gb7 a.Half b.Half r3 (Gw hc hr3)) Jbc ⟨O,O,O,O,G⟩) O (JLh (BL (((decide (a.G3=b.G3))&&(decide (b.Tier < a.Tier)))&&r3)) (J4 O O O O) O (JLm (BL (((decide (a.G3=b.G3))&&(decide (b.Tier < a.Tier)))&&r3)) O (G7 (hK2 (Gq (fin1 BL h))))))

def R9 (s:H0) (column:Int) (cover:Int):Option Bool:=
 Qm s.Columns column fun y3=>
 bnd (bif y3.Deck then Q5 s column else some default) fun r5=>
 some (y3.Deck&&(decide (r5=cover)))
theorem Gda (s:H0) (column:Int) (cover:Int) (r:Bool) (h:R9 s column cover=some r):Pure Ej 90 [.agg (H0.cs s),I64 column,I64 cover] (·=BL r):=by
 unfold R9 at h
 refine Gy [.tmp 6] Tryz.func90 O O (Jr fun hK1=>(JLh (.ptr 1146 0) (J7 (cs:=(H0.cs s)) 1146 O O O O O) O (JLm (BL false) O (G7 (hK1 (Gr [(1,I64 column),(2,I64 cover),(3,Eb s)] [] 1146 rfl rfl rfl G rfl (by exact⟨.conv (.same rfl),.conv (.same rfl),.ptr,G⟩) ?_))))))
 refine Jr fun hK2=>(JLh (Eb s) (Ga Hh O O O) O (JLh (E5 s.Columns) (Ge Ho O O O) O (JLm (I64 column) O ?_)))
 obtain⟨m4,y3,hm4,hy3,h⟩:=Rb h
 refine JLh (Ed y3) (Gv (f:=G3.av) (xs:=s.Columns) (y:=y3) O O O H6 hy3 hm4) O (JLh (.dptr ((G3.cs y3).drop 2)) (Ga Ro O O O) O (JLh (BL y3.Deck) (Ge Qv O O O) O (JLm (BL y3.Deck) O (JLo (.agg (H0.cs s)) [] O .sct G (fun hc=>Gg H7 O O O) O (JLo (I64 column) [] O .sct G (fun hc=>G4 O O) O ?_)))))
 obtain⟨r5,hr5,h⟩:=Gd h
 refine JLo (I64 r5) [14,15] O .sct ⟨Ua,Ua,G⟩ (fun hc=>Gi (args:=[.agg (H0.cs s),I64 column]) O (G0d s column r5 (Gw hc hr5)) H85 ⟨O,O,O,O,G⟩) O (JLo (I64 cover) [] O .sct G (fun hc=>G4 O O) O (JLo (BL (decide (r5=cover))) [16,17] O .sct ⟨Ua,Ua,G⟩ (fun hc=>Ju O O O) O (JLh (BL (y3.Deck&&(decide (r5=cover)))) (J4 O O O O) O (JLm (BL (y3.Deck&&(decide (r5=cover)))) O (G7 (hK2 (Gq (fin1 BL h))))))))
end
end Go.Proofs.YthcpolfodgjekaaGreat
