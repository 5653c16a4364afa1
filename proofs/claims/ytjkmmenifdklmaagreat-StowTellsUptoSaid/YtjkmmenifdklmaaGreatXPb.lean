/-
 Models of functions of the program,and that they return what the models say.
-/
import Derived.Test.YtjkmmenifdklmaaGreatXPa
set_option maxRecDepth 100000
set_option linter.unusedVariables false
set_option linter.unusedSimpArgs false
namespace Go.Proofs.YtjkmmenifdklmaaGreat
open Go.RowKit
noncomputable section
open XAF
open XLF
open XCF
open XGF
open XPF

def Yq (c:G4):Option Bool:=
 each (fun y41 i41 (s41:Unit) nx41=>
  bif ((decide (y41 < 0))||(decide (c.Tiers≤y41))) then
  (some false)
  else
  (bnd (bif decide (0 < (i41:Int)) then G1f ((i41:Int) - 1) some else some 0) fun v49=>
   bnd (bif decide (0 < (i41:Int)) then Qm c.Plugs v49 some else some default) fun y50=>
   bif ((decide (0 < (i41:Int)))&&(decide (y41≤y50))) then
   (some false)
   else
   (nx41 ())))
 (fun(s41:Unit)=>
  bnd (Hp c.X (-500000) 500000) fun r53=>
  bnd (bif r53 then Hp c.Y (-500000) 500000 else some default) fun r54=>
  bnd (bif (r53&&r54) then Hp c.Z (-500000) 500000 else some default) fun r55=>
  bnd (Hp c.Kilos20 0 500000000) fun r57=>
  bnd (bif r57 then Hp c.Kilos40 0 500000000 else some default) fun r58=>
  bnd (bif (r57&&r58) then Hp c.Lash 0 1000000000000 else some default) fun r59=>
  bnd (Hp c.Bay 0 39) fun r61=>
  bnd (bif r61 then Hp c.Row 0 30 else some default) fun r62=>
  bnd (bif (r61&&r62) then Hp c.Tiers 1 10 else some default) fun r63=>
  bnd (bif ((r61&&r62)&&r63) then Hp c.Height 0 40000 else some default) fun r64=>
  some (((((r61&&r62)&&r63)&&r64)&&((r57&&r58)&&r59))&&((r53&&r54)&&r55))) c.Plugs 0 ()
theorem H1f (c:G4) (r:Bool) (h:Yq c=some r):Pure Eh 110 [.agg (G4.cs c)] (·=BL r):=by
 unfold Yq at h
 refine Gy [.tmp 2] Tryz.func110 O O (Jr fun hK1=>(JLh (.ptr 1119 0) (Ji (cs:=(G4.cs c)) 1119 O O O O O) O (Yy (BL false) O (G7 (hK1 (Gz [(1,Ec c)] [] 1119 rfl rfl rfl G rfl (by exact⟨.ptr,G⟩) (Js fun hK2=>Jr fun hK3=>(Yy (G0 0) O (G7 (hK3 (Gs ?_)))))))))))
 obtain⟨b41,kx41,hb41,hkx41,h⟩:=J5 h
 refine Hc (fun i41 (s41:Unit)=>each b41 kx41 (List.drop i41 c.Plugs) i41 s41=some r) (fun i41 s41=>[(1,Ec c),(3,Eg i41)]) (fun i41 s41=>[]) (fun i41=>c.Plugs.length - i41) 0 () h ⟨⟨.same O,.same O,G⟩,G,O⟩ ?_
 clear h
 intro i41 s41 hi41 K41 e41
 refine Js fun hK42=>Jr fun hK43=>(Yy (Eg i41) O (JLh (.dptr [E0 c.Plugs,G0 c.X,G0 c.Y,G0 c.Z]) (Ga Qw O O O) O (JLh (E0 c.Plugs) (Gg Ho O O O) O (JLl Gu O O O fun hm9=>(JLh (BL (decide ((i41:Int) < (c.Plugs.length:Int)))) (J4 O O O) O (G7 (hK43 (Gk O (fun hb=>?_) (fun hb=>?_)))))))))
 ·
  have hk41:=Jj hb
  obtain⟨y41,nx41,hy41,hn41,h⟩:=Hq hi41 hk41
  replace h:=Z1 hb41 h
  refine Gp (hK42 (Js fun hK44=>Gs (Js fun hK45=>Js fun hK46=>?_)))
  refine JC_d0 J8 (by kernel_rfl) (Dq (.dptr [E0 c.Plugs,G0 c.X,G0 c.Y,G0 c.Z]) (Ga Qw O O O) O (Dq (E0 c.Plugs) (Gg Ho O O O) O (Dq (Eg i41) (G5 O O) O (Dq (.dptr [G0 y41]) (Gv (f:=G0) (xs:=c.Plugs) (y:=y41) O O O Gu hy41 O) O (Dq (G0 y41) (Gg Gd O O O) O (Dq (BL (decide (y41 < 0))) (J4 O O O) O (Dq (BL (decide (y41 < 0))) (G5 O O) O (Do (.dptr [E0 c.Plugs,G0 c.X,G0 c.Y,G0 c.Z]) [] O .scf G (fun hc=>Ga Qw O O O) O (Do (E0 c.Plugs) [20] O .scf ⟨Ua,G⟩ (fun hc=>Gg Ho O O O) O (Do (Eg i41) [] O .scf G (fun hc=>G5 O O) O (Do (.dptr [G0 y41]) [21,22] O .scf ⟨Ua,Ua,G⟩ (fun hc=>Gv (f:=G0) (xs:=c.Plugs) (y:=y41) O O O Gu hy41 O) O (Do (G0 y41) [23] O .scf ⟨Ua,G⟩ (fun hc=>Gg Gd O O O) O (Do (.dptr [G0 c.Tiers,G0 c.Height,G0 c.Kilos20,G0 c.Kilos40,G0 c.Lash,E0 c.Plugs,G0 c.X,G0 c.Y,G0 c.Z]) [] O .scf G (fun hc=>Ga Zs O O O) O ?_)))))))))))))
  refine Do (G0 c.Tiers) [25] O .scf ⟨Ua,G⟩ (fun hc=>Gg Gd O O O) O (Do (BL (decide (c.Tiers≤y41))) [24,26] O .scf ⟨Ua,Ua,G⟩ (fun hc=>G17 O O O) O (Dq (BL ((decide (y41 < 0))||(decide (c.Tiers≤y41)))) (Yi O O O O) O (Dnil (hK46 (JCc O h (fun h hb=>?_) (fun h hb=>?_))))))
  ·
   refine Jr fun hK47=>(Yy (BL false) O (G7 (hK47 (Gr (fin1 BL h)))))
  ·
   refine Gp (hK45 (Js fun hK48=>?_))
   obtain⟨v49,hv49,h⟩:=Ge h
   obtain⟨y50,hy50,h⟩:=Ge h
   refine JC_d0 J8 (by kernel_rfl) (Dq (Eg i41) (G5 O O) O (Dq (BL (decide (0 < (i41:Int)))) (G2c O O O) O (Dq (BL (decide (0 < (i41:Int)))) (G5 O O) O (Do (.dptr [E0 c.Plugs,G0 c.X,G0 c.Y,G0 c.Z]) [] O .sct G (fun hc=>Ga Qw O O O) O (Do (E0 c.Plugs) [32] O .sct ⟨Ua,G⟩ (fun hc=>Gg Ho O O O) O (Do (Eg i41) [] O .sct G (fun hc=>G5 O O) O (Do (G0 v49) [34] O .sct ⟨Ua,G⟩ (fun hc=>Gaf (Z7 (Gx hc hv49)) O O O) O (Do (.dptr [G0 y50]) [33,35] O .sct ⟨Ua,Ua,G⟩ (fun hc=>(match Q3 (Gx hc hy50) with | ⟨_,hm_,hy_⟩=>Gv (f:=G0) (xs:=c.Plugs) (y:=y50) O O O Gu hy_ hm_)) O (Do (G0 y50) [36] O .sct ⟨Ua,G⟩ (fun hc=>Gg Gd O O O) O (Do (.dptr [E0 c.Plugs,G0 c.X,G0 c.Y,G0 c.Z]) [] O .sct G (fun hc=>Ga Qw O O O) O (Do (E0 c.Plugs) [38] O .sct ⟨Ua,G⟩ (fun hc=>Gg Ho O O O) O (Do (Eg i41) [] O .sct G (fun hc=>G5 O O) O (Do (.dptr [G0 y41]) [39,40] O .sct ⟨Ua,Ua,G⟩ (fun hc=>Gv (f:=G0) (xs:=c.Plugs) (y:=y41) O O O Gu hy41 O) O ?_)))))))))))))
   refine Do (G0 y41) [41] O .sct ⟨Ua,G⟩ (fun hc=>Gg Gd O O O) O (Do (BL (decide (y41≤y50))) [37,42] O .sct ⟨Ua,Ua,G⟩ (fun hc=>G17 O O O) O (Dq (BL ((decide (0 < (i41:Int)))&&(decide (y41≤y50)))) (Hx O O O O) O (Dnil (hK48 (JCc O h (fun h hb=>?_) (fun h hb=>?_))))))
   ·
    refine Jr fun hK51=>(Yy (BL false) O (G7 (hK51 (Gr (fin1 BL h)))))
   ·
    refine Gp (hK44 (G3 (Yy (Eg i41) O (JLh (G0 ((i41+1:Nat):Int)) (Hs (He hk41 hm9) O O O) O (Yy (G0 ((i41+1:Nat):Int)) O (G7 (e41 _ _ (i41+1) () (app1 hn41 h) (by omega) ⟨⟨.same rfl,.same rfl,G⟩,G,rfl⟩)))))))
 ·
  have h:=app1 hkx41 (Hr hi41 (Ha hb))
  refine Hi (hK2 (Jr fun hK52=>(JLh (.dptr [G0 c.X,G0 c.Y,G0 c.Z]) (Ga Gc4 O O O) O (JLh (G0 c.X) (Gg Gd O O O) O ?_))))
  obtain⟨r53,hr53,h⟩:=Ge h
  refine JLh (BL r53) (Gn O (J0 c.X (-500000) 500000 r53 hr53) Yn ⟨O,O,O,O,O,O,G⟩) O (Yy (BL r53) O (JLo (.dptr [G0 c.Y,G0 c.Z]) [] O .sct G (fun hc=>Ga Ga7 O O O) O (JLo (G0 c.Y) [49] O .sct ⟨Ua,G⟩ (fun hc=>Gg Gd O O O) O ?_)))
  obtain⟨r54,hr54,h⟩:=Ge h
  refine JLo (BL r54) [50] O .sct ⟨Ua,G⟩ (fun hc=>Gn (args:=[G0 c.Y,G0 (-500000),G0 500000]) O (J0 c.Y (-500000) 500000 r54 (Gx hc hr54)) Yn ⟨O,O,O,O,O,O,G⟩) O (JLh (BL (r53&&r54)) (Hx O O O O) O (Yy (BL (r53&&r54)) O (JLo (.dptr [G0 c.Z]) [] O .sct G (fun hc=>Ga Ga6 O O O) O (JLo (G0 c.Z) [54] O .sct ⟨Ua,G⟩ (fun hc=>Gg Gd O O O) O ?_))))
  obtain⟨r55,hr55,h⟩:=Ge h
  refine JLo (BL r55) [55] O .sct ⟨Ua,G⟩ (fun hc=>Gn (args:=[G0 c.Z,G0 (-500000),G0 500000]) O (J0 c.Z (-500000) 500000 r55 (Gx hc hr55)) Yn ⟨O,O,O,O,O,O,G⟩) O (JLh (BL ((r53&&r54)&&r55)) (Hx O O O O) O (Yy (BL ((r53&&r54)&&r55)) O (G7 (hK52 (Jr fun hK56=>(JLh (.dptr [G0 c.Kilos20,G0 c.Kilos40,G0 c.Lash,E0 c.Plugs,G0 c.X,G0 c.Y,G0 c.Z]) (Ga Gc7 O O O) O (JLh (G0 c.Kilos20) (Gg Gd O O O) O ?_)))))))
  obtain⟨r57,hr57,h⟩:=Ge h
  refine JLh (BL r57) (Gn O (J0 c.Kilos20 0 500000000 r57 hr57) Yn ⟨O,O,O,O,O,O,G⟩) O (Yy (BL r57) O (JLo (.dptr [G0 c.Kilos40,G0 c.Lash,E0 c.Plugs,G0 c.X,G0 c.Y,G0 c.Z]) [] O .sct G (fun hc=>Ga Gc6 O O O) O (JLo (G0 c.Kilos40) [62] O .sct ⟨Ua,G⟩ (fun hc=>Gg Gd O O O) O ?_)))
  obtain⟨r58,hr58,h⟩:=Ge h
  refine JLo (BL r58) [63] O .sct ⟨Ua,G⟩ (fun hc=>Gn (args:=[G0 c.Kilos40,G0 0,G0 500000000]) O (J0 c.Kilos40 0 500000000 r58 (Gx hc hr58)) Yn ⟨O,O,O,O,O,O,G⟩) O (JLh (BL (r57&&r58)) (Hx O O O O) O (Yy (BL (r57&&r58)) O (JLo (.dptr [G0 c.Lash,E0 c.Plugs,G0 c.X,G0 c.Y,G0 c.Z]) [] O .sct G (fun hc=>Ga Gc5 O O O) O (JLo (G0 c.Lash) [67] O .sct ⟨Ua,G⟩ (fun hc=>Gg Gd O O O) O ?_))))
  obtain⟨r59,hr59,h⟩:=Ge h
  refine JLo (BL r59) [68] O .sct ⟨Ua,G⟩ (fun hc=>Gn (args:=[G0 c.Lash,G0 0,G0 1000000000000]) O (J0 c.Lash 0 1000000000000 r59 (Gx hc hr59)) Yn ⟨O,O,O,O,O,O,G⟩) O (JLh (BL ((r57&&r58)&&r59)) (Hx O O O O) O (Yy (BL ((r57&&r58)&&r59)) O (G7 (hK56 (Jr fun hK60=>(JLh (Ec c) (Ga Zu O O O) O (JLh (G0 c.Bay) (Gg Gd O O O) O ?_)))))))
  obtain⟨r61,hr61,h⟩:=Ge h
  refine JLh (BL r61) (Gn O (J0 c.Bay 0 39 r61 hr61) Yn ⟨O,O,O,O,O,O,G⟩) O (Yy (BL r61) O (JLo (.dptr [G0 c.Row,BL c.Deck,G0 c.Tiers,G0 c.Height,G0 c.Kilos20,G0 c.Kilos40,G0 c.Lash,E0 c.Plugs,G0 c.X,G0 c.Y,G0 c.Z]) [] O .sct G (fun hc=>Ga Zt O O O) O (JLo (G0 c.Row) [75] O .sct ⟨Ua,G⟩ (fun hc=>Gg Gd O O O) O ?_)))
  obtain⟨r62,hr62,h⟩:=Ge h
  refine JLo (BL r62) [76] O .sct ⟨Ua,G⟩ (fun hc=>Gn (args:=[G0 c.Row,G0 0,G0 30]) O (J0 c.Row 0 30 r62 (Gx hc hr62)) Yn ⟨O,O,O,O,O,O,G⟩) O (JLh (BL (r61&&r62)) (Hx O O O O) O (Yy (BL (r61&&r62)) O (JLo (.dptr [G0 c.Tiers,G0 c.Height,G0 c.Kilos20,G0 c.Kilos40,G0 c.Lash,E0 c.Plugs,G0 c.X,G0 c.Y,G0 c.Z]) [] O .sct G (fun hc=>Ga Zs O O O) O (JLo (G0 c.Tiers) [80] O .sct ⟨Ua,G⟩ (fun hc=>Gg Gd O O O) O ?_))))
  obtain⟨r63,hr63,h⟩:=Ge h
  refine JLo (BL r63) [81] O .sct ⟨Ua,G⟩ (fun hc=>Gn (args:=[G0 c.Tiers,G0 1,G0 10]) O (J0 c.Tiers 1 10 r63 (Gx hc hr63)) Yn ⟨O,O,O,O,O,O,G⟩) O (JLh (BL ((r61&&r62)&&r63)) (Hx O O O O) O (Yy (BL ((r61&&r62)&&r63)) O (JLo (.dptr [G0 c.Height,G0 c.Kilos20,G0 c.Kilos40,G0 c.Lash,E0 c.Plugs,G0 c.X,G0 c.Y,G0 c.Z]) [] O .sct G (fun hc=>Ga G13 O O O) O (JLo (G0 c.Height) [85] O .sct ⟨Ua,G⟩ (fun hc=>Gg Gd O O O) O ?_))))
  obtain⟨r64,hr64,h⟩:=Ge h
  refine JLo (BL r64) [86] O .sct ⟨Ua,G⟩ (fun hc=>Gn (args:=[G0 c.Height,G0 0,G0 40000]) O (J0 c.Height 0 40000 r64 (Gx hc hr64)) Yn ⟨O,O,O,O,O,O,G⟩) O (JLh (BL (((r61&&r62)&&r63)&&r64)) (Hx O O O O) O (Yy (BL (((r61&&r62)&&r63)&&r64)) O (JLo (BL ((r57&&r58)&&r59)) [] O .sct G (fun hc=>G5 O O) O (JLh (BL ((((r61&&r62)&&r63)&&r64)&&((r57&&r58)&&r59))) (Hx O O O O) O (Yy (BL ((((r61&&r62)&&r63)&&r64)&&((r57&&r58)&&r59))) O (JLo (BL ((r53&&r54)&&r55)) [] O .sct G (fun hc=>G5 O O) O (JLh (BL (((((r61&&r62)&&r63)&&r64)&&((r57&&r58)&&r59))&&((r53&&r54)&&r55))) (Hx O O O O) O (Yy (BL (((((r61&&r62)&&r63)&&r64)&&((r57&&r58)&&r59))&&((r53&&r54)&&r55))) O (G7 (hK60 (Gr (fin1 BL h))))))))))))

def Q4 (rows:List Int) (row:Int):Option Bool:=
 each (fun y17 i17 (s17:Unit) nx17=>
  bif decide (y17=row) then
  (some true)
  else
  (nx17 ()))
 (fun(s17:Unit)=>
  some false) rows 0 ()
theorem G76 (rows:List Int) (row:Int) (r:Bool) (h:Q4 rows row=some r):Pure Eh 111 [E0 rows,G0 row] (·=BL r):=by
 unfold Q4 at h
 refine Gy [.tmp 4] Tryz.func111 O O (Jr fun hK1=>(Yy (BL false) O (G7 (hK1 (Js fun hK2=>Jr fun hK3=>(Yy (G0 0) O (G7 (hK3 (Gs ?_)))))))))
 obtain⟨b17,kx17,hb17,hkx17,h⟩:=J5 h
 refine Hc (fun i17 (s17:Unit)=>each b17 kx17 (List.drop i17 rows) i17 s17=some r) (fun i17 s17=>[(0,E0 rows),(1,G0 row),(5,Eg i17)]) (fun i17 s17=>[]) (fun i17=>rows.length - i17) 0 () h ⟨⟨.same O,.same O,.same O,G⟩,G,O⟩ ?_
 clear h
 intro i17 s17 hi17 K17 e17
 refine Js fun hK18=>Jr fun hK19=>(Yy (Eg i17) O (Yy (E0 rows) O (JLl Gu O O O fun hm8=>(JLh (BL (decide ((i17:Int) < (rows.length:Int)))) (J4 O O O) O (G7 (hK19 (Gk O (fun hb=>?_) (fun hb=>?_))))))))
 ·
  have hk17:=Jj hb
  obtain⟨y17,nx17,hy17,hn17,h⟩:=Hq hi17 hk17
  replace h:=Z1 hb17 h
  refine Gp (hK18 (Js fun hK20=>Gs (Jr fun hK21=>(Yy (E0 rows) O (Yy (Eg i17) O (JLh (.dptr [G0 y17]) (Gv (f:=G0) (xs:=rows) (y:=y17) O O O Gu hy17 O) O (JLh (G0 y17) (Gg Gd O O O) O (Yy (G0 row) O (JLh (BL (decide (y17=row))) (Jt O O O) O (G7 (hK21 (JCc O h (fun h hb=>?_) (fun h hb=>?_)))))))))))))
  ·
   refine Jr fun hK22=>(Yy (BL true) O (G7 (hK22 (Gr (fin1 BL h)))))
  ·
   refine Gp (hK20 (G3 (Yy (Eg i17) O (JLh (G0 ((i17+1:Nat):Int)) (Hs (He hk17 hm8) O O O) O (Yy (G0 ((i17+1:Nat):Int)) O (G7 (e17 _ _ (i17+1) () (app1 hn17 h) (by omega) ⟨⟨.same rfl,.same rfl,.same rfl,G⟩,G,rfl⟩)))))))
 ·
  have h:=app1 hkx17 (Hr hi17 (Ha hb))
  refine Hi (hK2 (Jr fun hK23=>(Yy (BL false) O (G7 (hK23 (Gr (fin1 BL h)))))))

def Zd (F:Nat) (s:H4):Option Bool:=
 bnd (Hp (s.Columns.length:Int) 1 200) fun r4=>
 bif ((!r4)||(decide (40 < (s.Covers.length:Int)))) then
 (some false)
 else
 (each (fun y8 i8 (s8:Unit) nx8=>
   bnd (Yq y8) fun r14=>
   bif (!r14) then
   (some false)
   else
   (need (decide ((i8:Int)≤9223372036854775807)) <|
    upto (fun i34 (s34:Unit) nx34=>
     Qm s.Columns (i34:Int) fun y39=>
     bnd (bif decide (y39.Bay=y8.Bay) then Qm s.Columns (i34:Int) some else some default) fun y41=>
     bnd (bif ((decide (y39.Bay=y8.Bay))&&(decide (y41.Row=y8.Row))) then Qm s.Columns (i34:Int) some else some default) fun y42=>
     bif (((decide (y39.Bay=y8.Bay))&&(decide (y41.Row=y8.Row)))&&(y42.Deck==y8.Deck)) then
     (some false)
     else
     (nx34 ()))
    (fun(s34:Unit)=>
     nx8 ()) (i8:Int).toNat 0 ()))
  (fun(s8:Unit)=>
   each (fun y46 i46 (s46:Unit) nx46=>
    bnd (Hp y46.Bay 0 39) fun r53=>
    bif ((!r53)||(decide ((y46.Rows.length:Int)=0))) then
    (some false)
    else
    (each (fun y56 i56 (s56:Unit) nx56=>
      bnd (Hp y56 0 30) fun r62=>
      bnd (bif ((!(!r62))&&(decide (0 < (i56:Int)))) then G1f ((i56:Int) - 1) some else some 0) fun v63=>
      bnd (bif ((!(!r62))&&(decide (0 < (i56:Int)))) then Qm y46.Rows v63 some else some default) fun y64=>
      bif ((!r62)||((decide (0 < (i56:Int)))&&(decide (y56≤y64)))) then
      (some false)
      else
      (need (decide ((i46:Int)≤9223372036854775807)) <|
       upto (fun i84 (s84:Unit) nx84=>
        Qm s.Covers (i84:Int) fun y89=>
        bnd (bif decide (y89.Bay=y46.Bay) then Qm s.Covers (i84:Int) some else some default) fun y91=>
        bnd (bif decide (y89.Bay=y46.Bay) then Q4 y91.Rows y56 else some default) fun r92=>
        bif ((decide (y89.Bay=y46.Bay))&&r92) then
        (some false)
        else
        (nx84 ()))
       (fun(s84:Unit)=>
        nx56 ()) (i46:Int).toNat 0 ()))
     (fun(s56:Unit)=>
      nx46 ()) y46.Rows 0 ()))
   (fun(s46:Unit)=>
    some true) s.Covers 0 ()) s.Columns 0 ())
theorem H44 (F:Nat) (s:H4) (r:Bool) (h:Zd F s=some r):Pure Eh 57 [.agg (H4.cs s)] (·=BL r):=by
 unfold Zd at h
 refine Gy [.tmp 2] Tryz.func57 O O (Jr fun hK1=>(JLh (.ptr 1074 0) (Ji (cs:=(H4.cs s)) 1074 O O O O O) O (Yy (BL false) O (G7 (hK1 (Gz [(1,Ea s)] [] 1074 rfl rfl rfl G rfl (by exact⟨.ptr,G⟩) (Js fun hK2=>?_)))))))
 refine Jr fun hK3=>(JLh (Ea s) (Ga Hd O O O) O (JLh (E4 s.Columns) (Gg Hm O O O) O (JLl H5 O O O fun hm11=>?_)))
 obtain⟨r4,hr4,h⟩:=Ge h
 refine JLh (BL r4) (Gn O (J0 (s.Columns.length:Int) 1 200 r4 hr4) Yn ⟨O,O,O,O,O,O,G⟩) O (JLh (BL (!r4)) (R5 (b:=r4) O O) O (Yy (BL (!r4)) O (JLo (.dptr [E3 s.Covers,G0 s.Light.Kilos,G0 s.Light.X,G0 s.Light.Y,G0 s.Light.Z,E6 s.Rows,E5 s.Frames,E7 s.Tanks,G0 s.G2.Tolerance,G0 s.G2.Trim,G0 s.G2.List_,G0 s.G2.Stability]) [] O .scf G (fun hc=>Ga Je O O O) O (JLo (E3 s.Covers) [15] O .scf ⟨Ua,G⟩ (fun hc=>Gg Jv O O O) O (JLo (Eg s.Covers.length) [16] O .scf ⟨Ua,G⟩ (fun hc=>Qi (f:=Gc.av) (xs:=s.Covers) Hh O O) O (JLo (BL (decide (40 < (s.Covers.length:Int)))) [17] O .scf ⟨Ua,G⟩ (fun hc=>G2c O O O) O (JLh (BL ((!r4)||(decide (40 < (s.Covers.length:Int))))) (Yi O O O O) O (G7 (hK3 ?_)))))))))
 refine JCc O h (fun h hb=>?_) (fun h hb=>?_)
 ·
  refine Jr fun hK5=>(Yy (BL false) O (G7 (hK5 (Gr (fin1 BL h)))))
 ·
  refine Gp (hK2 (Js fun hK6=>Jr fun hK7=>(Yy (G0 0) O (G7 (hK7 (Gs ?_))))))
  obtain⟨b8,kx8,hb8,hkx8,h⟩:=J5 h
  refine Hc (fun i8 (s8:Unit)=>each b8 kx8 (List.drop i8 s.Columns) i8 s8=some r) (fun i8 s8=>[(1,Ea s),(3,Eg i8)]) (fun i8 s8=>[]) (fun i8=>s.Columns.length - i8) 0 () h ⟨⟨.same O,.same O,G⟩,G,O⟩ ?_
  clear h
  intro i8 s8 hi8 K8 e8
  refine Js fun hK9=>Jr fun hK10=>(Yy (Eg i8) O (JLh (Ea s) (Ga Hd O O O) O (JLh (E4 s.Columns) (Gg Hm O O O) O (JLl H5 O O O fun hm23=>(JLh (BL (decide ((i8:Int) < (s.Columns.length:Int)))) (J4 O O O) O (G7 (hK10 (Gk O (fun hb=>?_) (fun hb=>?_)))))))))
  ·
   have hk8:=Jj hb
   obtain⟨y8,nx8,hy8,hn8,h⟩:=Hq hi8 hk8
   replace h:=Z1 hb8 h
   refine Gp (hK9 (Js fun hK11=>Gs (Js fun hK12=>Jr fun hK13=>(JLh (Ea s) (Ga Hd O O O) O (JLh (E4 s.Columns) (Gg Hm O O O) O (Yy (Eg i8) O (JLh (Ec y8) (Gv (f:=G4.av) (xs:=s.Columns) (y:=y8) O O O H5 hy8 O) O (JLh (.agg (G4.cs y8)) (Gi Rf O O O) O ?_))))))))
   obtain⟨r14,hr14,h⟩:=Ge h
   refine JLh (BL r14) (Gn O (H1f y8 r14 hr14) Q13 ⟨O,O,G⟩) O (JLh (BL (!r14)) (R5 (b:=r14) O O) O (G7 (hK13 (JCc O h (fun h hb=>?_) (fun h hb=>?_)))))
   ·
    refine Jr fun hK15=>(Yy (BL false) O (G7 (hK15 (Gr (fin1 BL h)))))
   ·
    refine Gp (hK12 (Jr fun hK16=>(Yy (G0 0) O (G7 (hK16 (Gs ?_))))))
    obtain⟨hx34,h⟩:=J2 h
    obtain⟨b34,kx34,hb34,hkx34,h⟩:=G8d h
    refine Hc (fun i34 (s34:Unit)=>upto b34 kx34 ((i8:Int).toNat - i34) i34 s34=some r) (fun i34 s34=>[(1,Ea s),(3,Eg i8),(4,Eg i34)]) (fun i34 s34=>[]) (fun i34=>(i8:Int).toNat - i34) 0 () h ⟨⟨.same O,.same O,.same O,G⟩,G,O⟩ ?_
    clear h
    intro i34 s34 hi34 K34 e34
    refine Js fun hK35=>Jr fun hK36=>(Yy (Eg i34) O (Yy (Eg i8) O (JLh (BL (decide ((i34:Int) < (i8:Int)))) (J4 O O O) O (G7 (hK36 (Gk O (fun hb=>?_) (fun hb=>?_)))))))
    ·
     have hk34:=G48 hb
     obtain⟨nx34,hn34,h⟩:=G45 hi34 hk34
     replace h:=J15 hb34 h
     refine Gp (hK35 (Js fun hK37=>Gs (Js fun hK38=>?_)))
     obtain⟨m40,y39,hm40,hy39,h⟩:=Qx h
     obtain⟨y41,hy41,h⟩:=Ge h
     obtain⟨y42,hy42,h⟩:=Ge h
     refine JC_d0 J8 (by kernel_rfl) (Dq (Ea s) (Ga Hd O O O) O (Dq (E4 s.Columns) (Gg Hm O O O) O (Dq (Eg i34) (G5 O O) O (Dq (Ec y39) (Gv (f:=G4.av) (xs:=s.Columns) (y:=y39) O O O H5 hy39 hm40) O (Dq (Ec y39) (Ga Zu O O O) O (Dq (G0 y39.Bay) (Gg Gd O O O) O (Dq (Ea s) (Ga Hd O O O) O (Dq (E4 s.Columns) (Gg Hm O O O) O (Dq (Eg i8) (G5 O O) O (Dq (Ec y8) (Gv (f:=G4.av) (xs:=s.Columns) (y:=y8) O O O H5 hy8 O) O (Dq (Ec y8) (Ga Zu O O O) O (Dq (G0 y8.Bay) (Gg Gd O O O) O (Dq (BL (decide (y39.Bay=y8.Bay))) (Jt O O O) O ?_)))))))))))))
     refine Dq (BL (decide (y39.Bay=y8.Bay))) (G5 O O) O (Do (Ea s) [] O .sct G (fun hc=>Ga Hd O O O) O (Do (E4 s.Columns) [53] O .sct ⟨Ua,G⟩ (fun hc=>Gg Hm O O O) O (Do (Eg i34) [] O .sct G (fun hc=>G5 O O) O (Do (Ec y41) [54,55] O .sct ⟨Ua,Ua,G⟩ (fun hc=>(match Q3 (Gx hc hy41) with | ⟨_,hm_,hy_⟩=>Gv (f:=G4.av) (xs:=s.Columns) (y:=y41) O O O H5 hy_ hm_)) O (Do (.dptr ((G4.cs y41).drop 1)) [56] O .sct ⟨Ua,G⟩ (fun hc=>Ga Zt O O O) O (Do (G0 y41.Row) [57] O .sct ⟨Ua,G⟩ (fun hc=>Gg Gd O O O) O (Do (Ea s) [] O .sct G (fun hc=>Ga Hd O O O) O (Do (E4 s.Columns) [59] O .sct ⟨Ua,G⟩ (fun hc=>Gg Hm O O O) O (Do (Eg i8) [] O .sct G (fun hc=>G5 O O) O (Do (Ec y8) [60,61] O .sct ⟨Ua,Ua,G⟩ (fun hc=>Gv (f:=G4.av) (xs:=s.Columns) (y:=y8) O O O H5 hy8 O) O (Do (.dptr ((G4.cs y8).drop 1)) [62] O .sct ⟨Ua,G⟩ (fun hc=>Ga Zt O O O) O (Do (G0 y8.Row) [63] O .sct ⟨Ua,G⟩ (fun hc=>Gg Gd O O O) O (Do (BL (decide (y41.Row=y8.Row))) [58,64] O .sct ⟨Ua,Ua,G⟩ (fun hc=>Jt O O O) O ?_)))))))))))))
     refine Dq (BL ((decide (y39.Bay=y8.Bay))&&(decide (y41.Row=y8.Row)))) (Hx O O O O) O (Dq (BL ((decide (y39.Bay=y8.Bay))&&(decide (y41.Row=y8.Row)))) (G5 O O) O (Do (Ea s) [] O .sct G (fun hc=>Ga Hd O O O) O (Do (E4 s.Columns) [68] O .sct ⟨Ua,G⟩ (fun hc=>Gg Hm O O O) O (Do (Eg i34) [] O .sct G (fun hc=>G5 O O) O (Do (Ec y42) [69,70] O .sct ⟨Ua,Ua,G⟩ (fun hc=>(match Q3 (Gx hc hy42) with | ⟨_,hm_,hy_⟩=>Gv (f:=G4.av) (xs:=s.Columns) (y:=y42) O O O H5 hy_ hm_)) O (Do (.dptr ((G4.cs y42).drop 2)) [71] O .sct ⟨Ua,G⟩ (fun hc=>Ga Z3 O O O) O (Do (BL y42.Deck) [72] O .sct ⟨Ua,G⟩ (fun hc=>Gg Ra O O O) O (Do (Ea s) [] O .sct G (fun hc=>Ga Hd O O O) O (Do (E4 s.Columns) [74] O .sct ⟨Ua,G⟩ (fun hc=>Gg Hm O O O) O (Do (Eg i8) [] O .sct G (fun hc=>G5 O O) O (Do (Ec y8) [75,76] O .sct ⟨Ua,Ua,G⟩ (fun hc=>Gv (f:=G4.av) (xs:=s.Columns) (y:=y8) O O O H5 hy8 O) O (Do (.dptr ((G4.cs y8).drop 2)) [77] O .sct ⟨Ua,G⟩ (fun hc=>Ga Z3 O O O) O (Do (BL y8.Deck) [78] O .sct ⟨Ua,G⟩ (fun hc=>Gg Ra O O O) O ?_)))))))))))))
     refine Do (BL (y42.Deck==y8.Deck)) [73,79] O .sct ⟨Ua,Ua,G⟩ (fun hc=>J1e Gfa O O O) O (Dq (BL (((decide (y39.Bay=y8.Bay))&&(decide (y41.Row=y8.Row)))&&(y42.Deck==y8.Deck))) (Hx O O O O) O (Dnil (hK38 (JCc O h (fun h hb=>?_) (fun h hb=>?_)))))
     ·
      refine Jr fun hK43=>(Yy (BL false) O (G7 (hK43 (Gr (fin1 BL h)))))
     ·
      refine Gp (hK37 (G3 (Yy (Eg i34) O (JLh (G0 ((i34+1:Nat):Int)) (Hs (He hk34 (G23 hx34)) O O O) O (Yy (G0 ((i34+1:Nat):Int)) O (G7 (e34 _ _ (i34+1) () (app1 hn34 h) (by omega) ⟨⟨.same rfl,.same rfl,.same rfl,G⟩,G,rfl⟩)))))))
    ·
     have h:=app1 hkx34 (G46 hi34 (Yf hb))
     refine Hi (hK11 (G3 (Yy (Eg i8) O (JLh (G0 ((i8+1:Nat):Int)) (Hs (He hk8 hm23) O O O) O (Yy (G0 ((i8+1:Nat):Int)) O (G7 (e8 _ _ (i8+1) () (app1 hn8 h) (by omega) ⟨⟨.same rfl,.same rfl,G⟩,G,rfl⟩)))))))
  ·
   have h:=app1 hkx8 (Hr hi8 (Ha hb))
   refine Hi (hK6 (Js fun hK44=>Jr fun hK45=>(Yy (G0 0) O (G7 (hK45 (Gs ?_))))))
   obtain⟨b46,kx46,hb46,hkx46,h⟩:=J5 h
   refine Hc (fun i46 (s46:Unit)=>each b46 kx46 (List.drop i46 s.Covers) i46 s46=some r) (fun i46 s46=>[(1,Ea s),(5,Eg i46)]) (fun i46 s46=>[]) (fun i46=>s.Covers.length - i46) 0 () h ⟨⟨.same O,.same O,G⟩,G,O⟩ ?_
   clear h
   intro i46 s46 hi46 K46 e46
   refine Js fun hK47=>Jr fun hK48=>(Yy (Eg i46) O (JLh (.dptr [E3 s.Covers,G0 s.Light.Kilos,G0 s.Light.X,G0 s.Light.Y,G0 s.Light.Z,E6 s.Rows,E5 s.Frames,E7 s.Tanks,G0 s.G2.Tolerance,G0 s.G2.Trim,G0 s.G2.List_,G0 s.G2.Stability]) (Ga Je O O O) O (JLh (E3 s.Covers) (Gg Jv O O O) O (JLl Hh O O O fun hm85=>(JLh (BL (decide ((i46:Int) < (s.Covers.length:Int)))) (J4 O O O) O (G7 (hK48 (Gk O (fun hb=>?_) (fun hb=>?_)))))))))
   ·
    have hk46:=Jj hb
    obtain⟨y46,nx46,hy46,hn46,h⟩:=Hq hi46 hk46
    replace h:=Z1 hb46 h
    refine Gp (hK47 (Js fun hK49=>Gs (Jr fun hK50=>(JLh (.dptr [E3 s.Covers,G0 s.Light.Kilos,G0 s.Light.X,G0 s.Light.Y,G0 s.Light.Z,E6 s.Rows,E5 s.Frames,E7 s.Tanks,G0 s.G2.Tolerance,G0 s.G2.Trim,G0 s.G2.List_,G0 s.G2.Stability]) (Ga Je O O O) O (JLh (E3 s.Covers) (Gg Jv O O O) O (Yy (Eg i46) O (JLh (.dptr [G0 y46.Bay,E0 y46.Rows]) (Gv (f:=Gc.av) (xs:=s.Covers) (y:=y46) O O O Hh hy46 O) O (JLh (.agg [G0 y46.Bay,E0 y46.Rows]) (Gi Rs O O O) O (JLh (.ptr 1075 0) (Qf 1075 2 G3c O O) O (Jk (u:=.junk) (Jb (u:=.agg [G0 y46.Bay,E0 y46.Rows]) (ds:=[G0 y46.Bay,E0 y46.Rows]) G91 O O O O O O O O) (G7 (hK50 ?_))))))))))))
    refine Gz [(1,Ea s),(5,Eg i46),(6,.dptr [G0 y46.Bay,E0 y46.Rows])] [] 1075 rfl rfl rfl G rfl (by exact⟨.conv (.same rfl),.conv (.same rfl),.ptr,G⟩) (Js fun hK51=>Jr fun hK52=>(JLh (.dptr [G0 y46.Bay,E0 y46.Rows]) (Ga Z2 O O O) O (JLh (G0 y46.Bay) (Gg Gd O O O) O ?_)))
    obtain⟨r53,hr53,h⟩:=Ge h
    refine JLh (BL r53) (Gn O (J0 y46.Bay 0 39 r53 hr53) Yn ⟨O,O,O,O,O,O,G⟩) O (JLh (BL (!r53)) (R5 (b:=r53) O O) O (Yy (BL (!r53)) O (JLo (.dptr [E0 y46.Rows]) [] O .scf G (fun hc=>Ga Jy O O O) O (JLo (E0 y46.Rows) [99] O .scf ⟨Ua,G⟩ (fun hc=>Gg Ho O O O) O (JLo (Eg y46.Rows.length) [100] O .scf ⟨Ua,G⟩ (fun hc=>Qi (f:=G0) (xs:=y46.Rows) Gu O O) O (JLo (BL (decide ((y46.Rows.length:Int)=0))) [101] O .scf ⟨Ua,G⟩ (fun hc=>Jt O O O) O (JLh (BL ((!r53)||(decide ((y46.Rows.length:Int)=0)))) (Yi O O O O) O (G7 (hK52 (JCc O h (fun h hb=>?_) (fun h hb=>?_)))))))))))
    ·
     refine Jr fun hK54=>(Yy (BL false) O (G7 (hK54 (Gr (fin1 BL h)))))
    ·
     refine Gp (hK51 (Jr fun hK55=>(Yy (G0 0) O (G7 (hK55 (Gs ?_))))))
     obtain⟨b56,kx56,hb56,hkx56,h⟩:=J5 h
     refine Hc (fun i56 (s56:Unit)=>each b56 kx56 (List.drop i56 y46.Rows) i56 s56=some r) (fun i56 s56=>[(1,Ea s),(5,Eg i46),(6,.dptr [G0 y46.Bay,E0 y46.Rows]),(7,Eg i56)]) (fun i56 s56=>[]) (fun i56=>y46.Rows.length - i56) 0 () h ⟨(by repeat' constructor),G,rfl⟩ ?_
     clear h
     intro i56 s56 hi56 K56 e56
     refine Js fun hK57=>Jr fun hK58=>(Yy (Eg i56) O (JLh (.dptr [E0 y46.Rows]) (Ga Jy O O O) O (JLh (E0 y46.Rows) (Gg Ho O O O) O (JLl Gu O O O fun hm107=>(JLh (BL (decide ((i56:Int) < (y46.Rows.length:Int)))) (J4 O O O) O (G7 (hK58 (Gk O (fun hb=>?_) (fun hb=>?_)))))))))
     ·
      have hk56:=Jj hb
      obtain⟨y56,nx56,hy56,hn56,h⟩:=Hq hi56 hk56
      replace h:=Z1 hb56 h
      refine Gp (hK57 (Js fun hK59=>Gs (Js fun hK60=>Js fun hK61=>?_)))
      obtain⟨r62,hr62,h⟩:=Ge h
      obtain⟨v63,hv63,h⟩:=Ge h
      obtain⟨y64,hy64,h⟩:=Ge h
      refine JC_d0 J8 (by kernel_rfl) (Dq (.dptr [E0 y46.Rows]) (Ga Jy O O O) O (Dq (E0 y46.Rows) (Gg Ho O O O) O (Dq (Eg i56) (G5 O O) O (Dq (.dptr [G0 y56]) (Gv (f:=G0) (xs:=y46.Rows) (y:=y56) O O O Gu hy56 O) O (Dq (G0 y56) (Gg Gd O O O) O (Dq (BL r62) (Gn (args:=[G0 y56,G0 0,G0 30]) O (J0 y56 0 30 r62 hr62) Yn ⟨O,O,O,O,O,O,G⟩) O (Dq (BL (!r62)) (R5 (b:=r62) O O) O (Dq (BL (!r62)) (G5 O O) O (Do (Eg i56) [] O .scf G (fun hc=>G5 O O) O (Do (BL (decide (0 < (i56:Int)))) [119] O .scf ⟨Ua,G⟩ (fun hc=>G2c O O O) O (Do (BL (decide (0 < (i56:Int)))) [120] O .scf ⟨Ua,G⟩ (fun hc=>G5 O O) O (Do (.dptr [E0 y46.Rows]) [] O .optt G (fun hc=>Ga Jy O O O) O (Do (E0 y46.Rows) [122] O .optt ⟨Ua,G⟩ (fun hc=>Gg Ho O O O) O ?_)))))))))))))
      refine Do (Eg i56) [] O .optt G (fun hc=>G5 O O) O (Do (G0 v63) [124] O .optt ⟨Ua,G⟩ (fun hc=>Gaf (Z7 (Gx hc hv63)) O O O) O (Do (.dptr [G0 y64]) [123,125] O .optt ⟨Ua,Ua,G⟩ (fun hc=>(match Q3 (Gx hc hy64) with | ⟨_,hm_,hy_⟩=>Gv (f:=G0) (xs:=y46.Rows) (y:=y64) O O O Gu hy_ hm_)) O (Do (G0 y64) [126] O .optt ⟨Ua,G⟩ (fun hc=>Gg Gd O O O) O (Do (.dptr [E0 y46.Rows]) [] O .optt G (fun hc=>Ga Jy O O O) O (Do (E0 y46.Rows) [128] O .optt ⟨Ua,G⟩ (fun hc=>Gg Ho O O O) O (Do (Eg i56) [] O .optt G (fun hc=>G5 O O) O (Do (.dptr [G0 y56]) [129,130] O .optt ⟨Ua,Ua,G⟩ (fun hc=>Gv (f:=G0) (xs:=y46.Rows) (y:=y56) O O O Gu hy56 O) O (Do (G0 y56) [131] O .optt ⟨Ua,G⟩ (fun hc=>Gg Gd O O O) O (Do (BL (decide (y56≤y64))) [127,132] O .optt ⟨Ua,Ua,G⟩ (fun hc=>G17 O O O) O (Dg (.opt (!(!r62)) (BL ((decide (0 < (i56:Int)))&&(decide (y56≤y64))))) (Gf [(121,BL (decide (0 < (i56:Int)))),(133,_)] O O O .scf ⟨.all id,.part,G⟩ (fun hc=>Hx O O O O) O) O (Dq (BL ((!r62)||((decide (0 < (i56:Int)))&&(decide (y56≤y64))))) (Yi O O O O) O (Dnil ?_))))))))))))
      refine hK61 (JCc O h (fun h hb=>?_) (fun h hb=>?_))
      ·
       refine Jr fun hK65=>(Yy (BL false) O (G7 (hK65 (Gr (fin1 BL h)))))
      ·
       refine Gp (hK60 (Jr fun hK66=>(Yy (G0 0) O (G7 (hK66 (Gs ?_))))))
       obtain⟨hx84,h⟩:=J2 h
       obtain⟨b84,kx84,hb84,hkx84,h⟩:=G8d h
       refine Hc (fun i84 (s84:Unit)=>upto b84 kx84 ((i46:Int).toNat - i84) i84 s84=some r) (fun i84 s84=>[(1,Ea s),(5,Eg i46),(6,.dptr [G0 y46.Bay,E0 y46.Rows]),(7,Eg i56),(8,Eg i84)]) (fun i84 s84=>[]) (fun i84=>(i46:Int).toNat - i84) 0 () h ⟨(by repeat' constructor),G,rfl⟩ ?_
       clear h
       intro i84 s84 hi84 K84 e84
       refine Js fun hK85=>Jr fun hK86=>(Yy (Eg i84) O (Yy (Eg i46) O (JLh (BL (decide ((i84:Int) < (i46:Int)))) (J4 O O O) O (G7 (hK86 (Gk O (fun hb=>?_) (fun hb=>?_)))))))
       ·
        have hk84:=G48 hb
        obtain⟨nx84,hn84,h⟩:=G45 hi84 hk84
        replace h:=J15 hb84 h
        refine Gp (hK85 (Js fun hK87=>Gs (Js fun hK88=>?_)))
        obtain⟨m90,y89,hm90,hy89,h⟩:=Qx h
        obtain⟨y91,hy91,h⟩:=Ge h
        obtain⟨r92,hr92,h⟩:=Ge h
        refine JC_d0 J8 (by kernel_rfl) (Dq (.dptr [E3 s.Covers,G0 s.Light.Kilos,G0 s.Light.X,G0 s.Light.Y,G0 s.Light.Z,E6 s.Rows,E5 s.Frames,E7 s.Tanks,G0 s.G2.Tolerance,G0 s.G2.Trim,G0 s.G2.List_,G0 s.G2.Stability]) (Ga Je O O O) O (Dq (E3 s.Covers) (Gg Jv O O O) O (Dq (Eg i84) (G5 O O) O (Dq (.dptr [G0 y89.Bay,E0 y89.Rows]) (Gv (f:=Gc.av) (xs:=s.Covers) (y:=y89) O O O Hh hy89 hm90) O (Dq (.dptr [G0 y89.Bay,E0 y89.Rows]) (Ga Z2 O O O) O (Dq (G0 y89.Bay) (Gg Gd O O O) O (Dq (.dptr [G0 y46.Bay,E0 y46.Rows]) (Ga Z2 O O O) O (Dq (G0 y46.Bay) (Gg Gd O O O) O (Dq (BL (decide (y89.Bay=y46.Bay))) (Jt O O O) O (Dq (BL (decide (y89.Bay=y46.Bay))) (G5 O O) O (Do (.dptr [E3 s.Covers,G0 s.Light.Kilos,G0 s.Light.X,G0 s.Light.Y,G0 s.Light.Z,E6 s.Rows,E5 s.Frames,E7 s.Tanks,G0 s.G2.Tolerance,G0 s.G2.Trim,G0 s.G2.List_,G0 s.G2.Stability]) [] O .sct G (fun hc=>Ga Je O O O) O (Do (E3 s.Covers) [151] O .sct ⟨Ua,G⟩ (fun hc=>Gg Jv O O O) O (Do (Eg i84) [] O .sct G (fun hc=>G5 O O) O ?_)))))))))))))
        refine Do (.dptr [G0 y91.Bay,E0 y91.Rows]) [152,153] O .sct ⟨Ua,Ua,G⟩ (fun hc=>(match Q3 (Gx hc hy91) with | ⟨_,hm_,hy_⟩=>Gv (f:=Gc.av) (xs:=s.Covers) (y:=y91) O O O Hh hy_ hm_)) O (Do (.dptr [E0 y91.Rows]) [154] O .sct ⟨Ua,G⟩ (fun hc=>Ga Jy O O O) O (Do (E0 y91.Rows) [155] O .sct ⟨Ua,G⟩ (fun hc=>Gg Ho O O O) O (Do (.dptr [E0 y46.Rows]) [] O .sct G (fun hc=>Ga Jy O O O) O (Do (E0 y46.Rows) [157] O .sct ⟨Ua,G⟩ (fun hc=>Gg Ho O O O) O (Do (Eg i56) [] O .sct G (fun hc=>G5 O O) O (Do (.dptr [G0 y56]) [158,159] O .sct ⟨Ua,Ua,G⟩ (fun hc=>Gv (f:=G0) (xs:=y46.Rows) (y:=y56) O O O Gu hy56 O) O (Do (G0 y56) [160] O .sct ⟨Ua,G⟩ (fun hc=>Gg Gd O O O) O (Do (BL r92) [156,161] O .sct ⟨Ua,Ua,G⟩ (fun hc=>Gn (args:=[E0 y91.Rows,G0 y56]) O (G76 y91.Rows y56 r92 (Gx hc hr92)) J47 ⟨O,O,O,O,G⟩) O (Dq (BL ((decide (y89.Bay=y46.Bay))&&r92)) (Hx O O O O) O (Dnil ?_))))))))))
        refine hK88 (JCc O h (fun h hb=>?_) (fun h hb=>?_))
        ·
         refine Jr fun hK93=>(Yy (BL false) O (G7 (hK93 (Gr (fin1 BL h)))))
        ·
         refine Gp (hK87 (G3 (Yy (Eg i84) O (JLh (G0 ((i84+1:Nat):Int)) (Hs (He hk84 (G23 hx84)) O O O) O (Yy (G0 ((i84+1:Nat):Int)) O (G7 (e84 _ _ (i84+1) () (app1 hn84 h) (by omega) ⟨(by repeat' constructor),G,rfl⟩)))))))
       ·
        have h:=app1 hkx84 (G46 hi84 (Yf hb))
        refine Hi (hK59 (G3 (Yy (Eg i56) O (JLh (G0 ((i56+1:Nat):Int)) (Hs (He hk56 hm107) O O O) O (Yy (G0 ((i56+1:Nat):Int)) O (G7 (e56 _ _ (i56+1) () (app1 hn56 h) (by omega) ⟨(by repeat' constructor),G,rfl⟩)))))))
     ·
      have h:=app1 hkx56 (Hr hi56 (Ha hb))
      refine Hi (hK49 (G3 (Yy (Eg i46) O (JLh (G0 ((i46+1:Nat):Int)) (Hs (He hk46 hm85) O O O) O (Yy (G0 ((i46+1:Nat):Int)) O (G7 (e46 _ _ (i46+1) () (app1 hn46 h) (by omega) ⟨⟨.same rfl,.same rfl,G⟩,G,rfl⟩)))))))
   ·
    have h:=app1 hkx46 (Hr hi46 (Ha hb))
    refine Hi (hK44 (Jr fun hK94=>(Yy (BL true) O (G7 (hK94 (Gr (fin1 BL h)))))))

def Zc (s:H4) (x:Slot) (size:Int):Option Bool:=
 bnd (bif (!(((decide (x.G4 < 0))||(decide ((s.Columns.length:Int)≤x.G4)))||(decide (x.Tier < 0)))) then Qm s.Columns x.G4 some else some default) fun y4=>
 bif ((((decide (x.G4 < 0))||(decide ((s.Columns.length:Int)≤x.G4)))||(decide (x.Tier < 0)))||(decide (y4.Tiers≤x.Tier))) then
 (some false)
 else
 (some (((decide (size=40))&&(decide (x.Half=0)))||((decide (size=20))&&((decide (x.Half=1))||(decide (x.Half=2))))))
theorem H43 (s:H4) (x:Slot) (size:Int) (r:Bool) (h:Zc s x size=some r):Pure Eh 58 [.agg (H4.cs s),.agg [G0 x.G4,G0 x.Tier,U8 x.Half],G0 size] (·=BL r):=by
 unfold Zc at h
 refine Gy [.tmp 6] Tryz.func58 O O (Jr fun hK1=>(JLh (.ptr 1076 0) (Ji (cs:=(H4.cs s)) 1076 O O O O O) O (JLh (.ptr 1077 0) (Ji (cs:=[G0 x.G4,G0 x.Tier,U8 x.Half]) 1077 O O O O O) O (Yy (BL false) O (G7 (hK1 ?_))))))
 refine Gz [(2,G0 size),(3,Ea s),(4,.ptr 1077 0)] [(1077,.box 61 [G0 x.G4,G0 x.Tier,U8 x.Half])] 1076 rfl rfl rfl ⟨⟨_,rfl,.boxEq rfl rfl⟩,G⟩ rfl (by exact⟨.conv (.same rfl),.ptr,.conv (.same rfl),G⟩) ?_
 refine Gz [(2,G0 size),(3,Ea s),(4,.dptr [G0 x.G4,G0 x.Tier,U8 x.Half])] [] 1077 rfl rfl rfl G rfl (by exact⟨.conv (.same rfl),.conv (.same rfl),.ptr,G⟩) (Js fun hK2=>Js fun hK3=>?_)
 obtain⟨y4,hy4,h⟩:=Ge h
 refine JC_d0 J8 (by kernel_rfl) (Dq (.dptr [G0 x.G4,G0 x.Tier,U8 x.Half]) (Ga J6 O O O) O (Dq (G0 x.G4) (Gg Gd O O O) O (Dq (BL (decide (x.G4 < 0))) (J4 O O O) O (Dq (BL (decide (x.G4 < 0))) (G5 O O) O (Do (.dptr [G0 x.G4,G0 x.Tier,U8 x.Half]) [] O .scf G (fun hc=>Ga J6 O O O) O (Do (G0 x.G4) [11] O .scf ⟨Ua,G⟩ (fun hc=>Gg Gd O O O) O (Do (Ea s) [] O .scf G (fun hc=>Ga Hd O O O) O (Do (E4 s.Columns) [13] O .scf ⟨Ua,G⟩ (fun hc=>Gg Hm O O O) O (Do (Eg s.Columns.length) [14] O .scf ⟨Ua,G⟩ (fun hc=>Qi (f:=G4.av) (xs:=s.Columns) H5 O O) O (Do (BL (decide ((s.Columns.length:Int)≤x.G4))) [12,15] O .scf ⟨Ua,Ua,G⟩ (fun hc=>G17 O O O) O (Dq (BL ((decide (x.G4 < 0))||(decide ((s.Columns.length:Int)≤x.G4)))) (Yi O O O O) O (Dq (BL ((decide (x.G4 < 0))||(decide ((s.Columns.length:Int)≤x.G4)))) (G5 O O) O (Do (.dptr [G0 x.Tier,U8 x.Half]) [] O .scf G (fun hc=>Ga Qa O O O) O ?_)))))))))))))
 refine Do (G0 x.Tier) [19] O .scf ⟨Ua,G⟩ (fun hc=>Gg Gd O O O) O (Do (BL (decide (x.Tier < 0))) [20] O .scf ⟨Ua,G⟩ (fun hc=>J4 O O O) O (Dq (BL (((decide (x.G4 < 0))||(decide ((s.Columns.length:Int)≤x.G4)))||(decide (x.Tier < 0)))) (Yi O O O O) O (Dq (BL (((decide (x.G4 < 0))||(decide ((s.Columns.length:Int)≤x.G4)))||(decide (x.Tier < 0)))) (G5 O O) O (Do (.dptr [G0 x.Tier,U8 x.Half]) [] O .scf G (fun hc=>Ga Qa O O O) O (Do (G0 x.Tier) [24] O .scf ⟨Ua,G⟩ (fun hc=>Gg Gd O O O) O (Do (Ea s) [] O .scf G (fun hc=>Ga Hd O O O) O (Do (E4 s.Columns) [26] O .scf ⟨Ua,G⟩ (fun hc=>Gg Hm O O O) O (Do (.dptr [G0 x.G4,G0 x.Tier,U8 x.Half]) [] O .scf G (fun hc=>Ga J6 O O O) O (Do (G0 x.G4) [28] O .scf ⟨Ua,G⟩ (fun hc=>Gg Gd O O O) O (Do (Ec y4) [27,29] O .scf ⟨Ua,Ua,G⟩ (fun hc=>(match Q3 (Gx hc hy4) with | ⟨_,hm_,hy_⟩=>Gv (f:=G4.av) (xs:=s.Columns) (y:=y4) O O O H5 hy_ hm_)) O (Do (.dptr ((G4.cs y4).drop 3)) [30] O .scf ⟨Ua,G⟩ (fun hc=>Ga Zs O O O) O (Do (G0 y4.Tiers) [31] O .scf ⟨Ua,G⟩ (fun hc=>Gg Gd O O O) O (Do (BL (decide (y4.Tiers≤x.Tier))) [25,32] O .scf ⟨Ua,Ua,G⟩ (fun hc=>G17 O O O) O ?_)))))))))))))
 refine Dq (BL ((((decide (x.G4 < 0))||(decide ((s.Columns.length:Int)≤x.G4)))||(decide (x.Tier < 0)))||(decide (y4.Tiers≤x.Tier)))) (Yi O O O O) O (Dnil (hK3 (JCc O h (fun h hb=>?_) (fun h hb=>?_))))
 ·
  refine Jr fun hK5=>(Yy (BL false) O (G7 (hK5 (Gr (fin1 BL h)))))
 ·
  refine Gp (hK2 (Jr fun hK6=>(Yy (G0 size) O (JLh (BL (decide (size=40))) (Jt O O O) O (Yy (BL (decide (size=40))) O (JLo (.dptr [U8 x.Half]) [] O .sct G (fun hc=>Ga Jo O O O) O (JLo (U8 x.Half) [38] O .sct ⟨Ua,G⟩ (fun hc=>Gg Jh O O O) O (JLo (BL (decide (x.Half=0))) [39] O .sct ⟨Ua,G⟩ (fun hc=>Jt O O O) O (JLh (BL ((decide (size=40))&&(decide (x.Half=0)))) (Hx O O O O) O (Yy (BL ((decide (size=40))&&(decide (x.Half=0)))) O (JLo (G0 size) [] O .scf G (fun hc=>G5 O O) O (JLo (BL (decide (size=20))) [43] O .scf ⟨Ua,G⟩ (fun hc=>Jt O O O) O (JLo (BL (decide (size=20))) [44] O .scf ⟨Ua,G⟩ (fun hc=>G5 O O) O (JLo (.dptr [U8 x.Half]) [] O .optt G (fun hc=>Ga Jo O O O) O (JLo (U8 x.Half) [46] O .optt ⟨Ua,G⟩ (fun hc=>Gg Jh O O O) O ?_)))))))))))))))
  refine JLo (BL (decide (x.Half=1))) [47] O .optt ⟨Ua,G⟩ (fun hc=>Jt O O O) O (JLo (BL (decide (x.Half=1))) [48] O .optt ⟨Ua,G⟩ (fun hc=>G5 O O) O (JLo (.dptr [U8 x.Half]) [] O .optf G (fun hc=>Ga Jo O O O) O (JLo (U8 x.Half) [50] O .optf ⟨Ua,G⟩ (fun hc=>Gg Jh O O O) O (JLo (BL (decide (x.Half=2))) [51] O .optf ⟨Ua,G⟩ (fun hc=>Jt O O O) O (G9 (u:=BL ((decide (x.Half=1))||(decide (x.Half=2)))) [(49,BL (decide (x.Half=1))),(52,_)] O O O .optt ⟨.all id,.part,G⟩ (fun hc=>Yi O O O O) ?_)))))
  refine G9 (u:=BL ((decide (size=20))&&((decide (x.Half=1))||(decide (x.Half=2))))) [(45,BL (decide (size=20))),(53,_)] O O O .scf ⟨.all id,.part,G⟩ (fun hc=>Hx O O O O) ?_
  refine JLh (BL (((decide (size=40))&&(decide (x.Half=0)))||((decide (size=20))&&((decide (x.Half=1))||(decide (x.Half=2)))))) (Yi O O O O) O (Yy (BL (((decide (size=40))&&(decide (x.Half=0)))||((decide (size=20))&&((decide (x.Half=1))||(decide (x.Half=2)))))) O (G7 (hK6 (Gr (fin1 BL h)))))

def Z8 (l:List Stowed):Option (List Slot):=
 each (fun y16 i16 (s16:(List Slot)) nx16=>
  need (decide ((s16.length+[y16.Slot].length)*24≤140737488355328∧s16.length+[y16.Slot].length≤maxLen)) <|
  nx16 (s16++[y16.Slot]))
 (fun(s16:(List Slot))=>
  some s16) l 0 []
theorem H3f (l:List Stowed) (r:(List Slot)) (h:Z8 l=some r):Pure Eh 60 [E1 l] (·=E8 r):=by
 unfold Z8 at h
 refine Gy [.tmp 2] Tryz.func60 O O (Jr fun hK1=>(JLh (E8 ([]:List Slot)) (Hy 3 O O) O (G7 (hK1 (Jr fun hK2=>(JLh (OW 1079 3 Slot.av ([]:List Slot)) (Gb0 1079 61 3 O O O) O (G7 (hK2 (Js fun hK3=>Jr fun hK4=>(Yy (G0 0) O (G7 (hK4 (Gs ?_)))))))))))))
 obtain⟨b16,kx16,hb16,hkx16,h⟩:=J5 h
 refine Hc (fun i16 (s16:(List Slot))=>each b16 kx16 (List.drop i16 l) i16 s16=some r) (fun i16 s16=>[(0,E1 l),(3,OW 1079 3 Slot.av s16),(4,Eg i16)]) (fun i16 s16=>[(1079,.spare 61 3 s16.length s16.length)]) (fun i16=>l.length - i16) 0 [] h ⟨⟨.same O,.same O,.same O,G⟩,⟨⟨_,O,.same⟩,G⟩,O⟩ ?_
 clear h
 intro i16 s16 hi16 K16 e16
 refine Js fun hK17=>Jr fun hK18=>(Yy (Eg i16) O (Yy (E1 l) O (JLl H0 O O O fun hm7=>(JLh (BL (decide ((i16:Int) < (l.length:Int)))) (J4 O O O) O (G7 (hK18 (Gk O (fun hb=>?_) (fun hb=>?_))))))))
 ·
  have hk16:=Jj hb
  obtain⟨y16,nx16,hy16,hn16,h⟩:=Hq hi16 hk16
  replace h:=Z1 hb16 h
  refine Gp (hK17 (Js fun hK19=>Gs (G3 (Yy (OW 1079 3 Slot.av s16) O (Yy (E1 l) O (Yy (Eg i16) O (JLh (Eb y16) (Gv (f:=Stowed.av) (xs:=l) (y:=y16) O O O H0 hy16 O) O (JLh (.dptr ((Stowed.cs y16).drop 1)) (Ga Ht O O O) O (JLh (.agg ((Stowed.cs y16).drop 1)) (Gi Q9 O O O) O (JLh (E8 [y16.Slot]) (Hn (xs:=[.agg ((Stowed.cs y16).drop 1)]) O ⟨O,O,G⟩ Ym H82 O O O O) O ?_))))))))))
  obtain⟨ha20,h⟩:=J2 h
  refine JLh (OW 1079 3 Slot.av (s16++[y16.Slot])) (Rj (f:=Slot.av) (xs:=s16) (ys:=[y16.Slot]) O O O O Ym J88 ha20 (fun _=>O) (.inl O) O) O (Yy (OW 1079 3 Slot.av (s16++[y16.Slot])) O (G7 (hK19 (G3 (Yy (Eg i16) O (JLh (G0 ((i16+1:Nat):Int)) (Hs (He hk16 hm7) O O O) O (Yy (G0 ((i16+1:Nat):Int)) O (G7 (e16 _ _ (i16+1) (s16++[y16.Slot]) (app1 hn16 h) (by omega) ⟨⟨.same rfl,.same rfl,.same rfl,G⟩,⟨⟨_,rfl,.same⟩,G⟩,rfl⟩)))))))))
 ·
  have h:=app1 hkx16 (Hr hi16 (Ha hb))
  refine Hi (hK3 (Jr fun hK21=>(Yy (OW 1079 3 Slot.av s16) O (Yy (OW 1079 3 Slot.av s16) O (G7 (hK21 (Gr (fin1l (fun r:(List Slot)=>(E8 r:AV)) h))))))))

def Qy (l:List Slot) (x:Slot) (half:Int):Option Bool:=
 each (fun y23 i23 (s23:Unit) nx23=>
  bnd (bif decide (y23.G4=x.G4) then G1f (x.Tier - 1) some else some 0) fun v28=>
  bif (((decide (y23.G4=x.G4))&&(decide (y23.Tier=v28)))&&(decide (y23.Half=half))) then
  (some true)
  else
  (nx23 ()))
 (fun(s23:Unit)=>
  some false) l 0 ()
theorem G10 (l:List Slot) (x:Slot) (half:Int) (r:Bool) (h:Qy l x half=some r):Pure Eh 112 [E8 l,.agg [G0 x.G4,G0 x.Tier,U8 x.Half],U8 half] (·=BL r):=by
 unfold Qy at h
 refine Gy [.tmp 6] Tryz.func112 O O (Jr fun hK1=>(JLh (.ptr 1120 0) (Ji (cs:=[G0 x.G4,G0 x.Tier,U8 x.Half]) 1120 O O O O O) O (Yy (BL false) O (G7 (hK1 (Gz [(0,E8 l),(2,U8 half),(4,.dptr [G0 x.G4,G0 x.Tier,U8 x.Half])] [] 1120 rfl rfl rfl G rfl (by exact⟨.conv (.same rfl),.conv (.same rfl),.ptr,G⟩) (Js fun hK2=>Jr fun hK3=>(Yy (G0 0) O (G7 (hK3 (Gs ?_)))))))))))
 obtain⟨b23,kx23,hb23,hkx23,h⟩:=J5 h
 refine Hc (fun i23 (s23:Unit)=>each b23 kx23 (List.drop i23 l) i23 s23=some r) (fun i23 s23=>[(0,E8 l),(2,U8 half),(4,.dptr [G0 x.G4,G0 x.Tier,U8 x.Half]),(7,Eg i23)]) (fun i23 s23=>[]) (fun i23=>l.length - i23) 0 () h ⟨(by repeat' constructor),G,rfl⟩ ?_
 clear h
 intro i23 s23 hi23 K23 e23
 refine Js fun hK24=>Jr fun hK25=>(Yy (Eg i23) O (Yy (E8 l) O (JLl Ym O O O fun hm10=>(JLh (BL (decide ((i23:Int) < (l.length:Int)))) (J4 O O O) O (G7 (hK25 (Gk O (fun hb=>?_) (fun hb=>?_))))))))
 ·
  have hk23:=Jj hb
  obtain⟨y23,nx23,hy23,hn23,h⟩:=Hq hi23 hk23
  replace h:=Z1 hb23 h
  refine Gp (hK24 (Js fun hK26=>Gs (Js fun hK27=>?_)))
  obtain⟨v28,hv28,h⟩:=Ge h
  refine JC_d0 J8 (by kernel_rfl) (Dq (E8 l) (G5 O O) O (Dq (Eg i23) (G5 O O) O (Dq (.dptr (Slot.cs y23)) (Gv (f:=Slot.av) (xs:=l) (y:=y23) O O O Ym hy23 O) O (Dq (.dptr (Slot.cs y23)) (Ga J6 O O O) O (Dq (G0 y23.G4) (Gg Gd O O O) O (Dq (.dptr [G0 x.G4,G0 x.Tier,U8 x.Half]) (Ga J6 O O O) O (Dq (G0 x.G4) (Gg Gd O O O) O (Dq (BL (decide (y23.G4=x.G4))) (Jt O O O) O (Dq (BL (decide (y23.G4=x.G4))) (G5 O O) O (Do (E8 l) [] O .sct G (fun hc=>G5 O O) O (Do (Eg i23) [] O .sct G (fun hc=>G5 O O) O (Do (.dptr (Slot.cs y23)) [23,24] O .sct ⟨Ua,Ua,G⟩ (fun hc=>Gv (f:=Slot.av) (xs:=l) (y:=y23) O O O Ym hy23 O) O (Do (.dptr [G0 y23.Tier,U8 y23.Half]) [25] O .sct ⟨Ua,G⟩ (fun hc=>Ga Qa O O O) O ?_)))))))))))))
  refine Do (G0 y23.Tier) [26] O .sct ⟨Ua,G⟩ (fun hc=>Gg Gd O O O) O (Do (.dptr [G0 x.Tier,U8 x.Half]) [] O .sct G (fun hc=>Ga Qa O O O) O (Do (G0 x.Tier) [28] O .sct ⟨Ua,G⟩ (fun hc=>Gg Gd O O O) O (Do (G0 v28) [29] O .sct ⟨Ua,G⟩ (fun hc=>Gaf (Z7 (Gx hc hv28)) O O O) O (Do (BL (decide (y23.Tier=v28))) [27,30] O .sct ⟨Ua,Ua,G⟩ (fun hc=>Jt O O O) O (Dq (BL ((decide (y23.G4=x.G4))&&(decide (y23.Tier=v28)))) (Hx O O O O) O (Dq (BL ((decide (y23.G4=x.G4))&&(decide (y23.Tier=v28)))) (G5 O O) O (Do (E8 l) [] O .sct G (fun hc=>G5 O O) O (Do (Eg i23) [] O .sct G (fun hc=>G5 O O) O (Do (.dptr (Slot.cs y23)) [34,35] O .sct ⟨Ua,Ua,G⟩ (fun hc=>Gv (f:=Slot.av) (xs:=l) (y:=y23) O O O Ym hy23 O) O (Do (.dptr [U8 y23.Half]) [36] O .sct ⟨Ua,G⟩ (fun hc=>Ga Jo O O O) O (Do (U8 y23.Half) [37] O .sct ⟨Ua,G⟩ (fun hc=>Gg Jh O O O) O (Do (U8 half) [] O .sct G (fun hc=>G5 O O) O (Do (BL (decide (y23.Half=half))) [38,39] O .sct ⟨Ua,Ua,G⟩ (fun hc=>Jt O O O) O ?_)))))))))))))
  refine Dq (BL (((decide (y23.G4=x.G4))&&(decide (y23.Tier=v28)))&&(decide (y23.Half=half)))) (Hx O O O O) O (Dnil (hK27 (JCc O h (fun h hb=>?_) (fun h hb=>?_))))
  ·
   refine Jr fun hK29=>(Yy (BL true) O (G7 (hK29 (Gr (fin1 BL h)))))
  ·
   refine Gp (hK26 (G3 (Yy (Eg i23) O (JLh (G0 ((i23+1:Nat):Int)) (Hs (He hk23 hm10) O O O) O (Yy (G0 ((i23+1:Nat):Int)) O (G7 (e23 _ _ (i23+1) () (app1 hn23 h) (by omega) ⟨(by repeat' constructor),G,rfl⟩)))))))
 ·
  have h:=app1 hkx23 (Hr hi23 (Ha hb))
  refine Hi (hK2 (Jr fun hK30=>(Yy (BL false) O (G7 (hK30 (Gr (fin1 BL h)))))))

def Zo (x:Slot) (l:List Slot):Option Bool:=
 bif decide (x.Tier≤0) then
 (some true)
 else
 (bif decide (x.Half=0) then
  (bnd (Qy l x 0) fun r8=>
   bnd (bif (!r8) then Qy l x 1 else some default) fun r9=>
   bnd (bif ((!r8)&&r9) then Qy l x 2 else some default) fun r10=>
   some (r8||(r9&&r10)))
  else
  (bnd (Qy l x x.Half) fun r12=>
   some r12))
theorem H55 (x:Slot) (l:List Slot) (r:Bool) (h:Zo x l=some r):Pure Eh 59 [.agg [G0 x.G4,G0 x.Tier,U8 x.Half],E8 l] (·=BL r):=by
 unfold Zo at h
 refine Gy [.tmp 4] Tryz.func59 O O (Jr fun hK1=>(JLh (.ptr 1078 0) (Ji (cs:=[G0 x.G4,G0 x.Tier,U8 x.Half]) 1078 O O O O O) O (Yy (BL false) O (G7 (hK1 (Gz [(1,E8 l),(2,.dptr [G0 x.G4,G0 x.Tier,U8 x.Half])] [] 1078 rfl rfl rfl G rfl (by exact⟨.conv (.same rfl),.ptr,G⟩) (Js fun hK2=>Jr fun hK3=>(JLh (.dptr [G0 x.Tier,U8 x.Half]) (Ga Qa O O O) O (JLh (G0 x.Tier) (Gg Gd O O O) O (JLh (BL (decide (x.Tier≤0))) (Hd4 O O O) O (G7 (hK3 (JCc O h (fun h hb=>?_) (fun h hb=>?_))))))))))))))
 ·
  refine Jr fun hK4=>(Yy (BL true) O (G7 (hK4 (Gr (fin1 BL h)))))
 ·
  refine Gp (hK2 (Js fun hK5=>Jr fun hK6=>(JLh (.dptr [U8 x.Half]) (Ga Jo O O O) O (JLh (U8 x.Half) (Gg Jh O O O) O (JLh (BL (decide (x.Half=0))) (Jt O O O) O (G7 (hK6 (JCc O h (fun h hb=>?_) (fun h hb=>?_)))))))))
  ·
   refine Jr fun hK7=>(Yy (E8 l) O (JLh (.agg [G0 x.G4,G0 x.Tier,U8 x.Half]) (Gi Q9 O O O) O ?_))
   obtain⟨r8,hr8,h⟩:=Ge h
   refine JLh (BL r8) (Gn O (G10 l x 0 r8 hr8) H2b ⟨O,O,O,O,O,O,G⟩) O (Yy (BL r8) O (JLo (E8 l) [] O .scf G (fun hc=>G5 O O) O (JLo (.agg [G0 x.G4,G0 x.Tier,U8 x.Half]) [] O .scf G (fun hc=>Gi Q9 O O O) O ?_)))
   obtain⟨r9,hr9,h⟩:=Ge h
   refine JLo (BL r9) [15,16] O .scf ⟨Ua,Ua,G⟩ (fun hc=>Gn (args:=[E8 l,.agg [G0 x.G4,G0 x.Tier,U8 x.Half],U8 1]) O (G10 l x 1 r9 (Gx hc hr9)) H2b ⟨O,O,O,O,O,O,G⟩) O (JLo (BL r9) [17] O .scf ⟨Ua,G⟩ (fun hc=>G5 O O) O (JLo (E8 l) [] O .optt G (fun hc=>G5 O O) O (JLo (.agg [G0 x.G4,G0 x.Tier,U8 x.Half]) [] O .optt G (fun hc=>Gi Q9 O O O) O ?_)))
   obtain⟨r10,hr10,h⟩:=Ge h
   refine JLo (BL r10) [19,20] O .optt ⟨Ua,Ua,G⟩ (fun hc=>Gn (args:=[E8 l,.agg [G0 x.G4,G0 x.Tier,U8 x.Half],U8 2]) O (G10 l x 2 r10 (Gx hc hr10)) H2b ⟨O,O,O,O,O,O,G⟩) O (G9 (u:=BL (r9&&r10)) [(18,BL r9),(21,_)] O O O .scf ⟨.all id,.part,G⟩ (fun hc=>Hx O O O O) ?_)
   refine JLh (BL (r8||(r9&&r10))) (Yi O O O O) O (Yy (BL (r8||(r9&&r10))) O (G7 (hK7 (Gr (fin1 BL h)))))
  ·
   refine Gp (hK5 (Jr fun hK11=>(Yy (E8 l) O (JLh (.agg [G0 x.G4,G0 x.Tier,U8 x.Half]) (Gi Q9 O O O) O (JLh (.dptr [U8 x.Half]) (Ga Jo O O O) O (JLh (U8 x.Half) (Gg Jh O O O) O ?_))))))
   obtain⟨r12,hr12,h⟩:=Ge h
   refine JLh (BL r12) (Gn O (G10 l x x.Half r12 hr12) H2b ⟨O,O,O,O,O,O,G⟩) O (Yy (BL r12) O (G7 (hK11 (Gr (fin1 BL h)))))

def Qt (a:Int) (b:Int):Option Bool:=
 some (((decide (a=b))||(decide (a=0)))||(decide (b=0)))
theorem G75 (a:Int) (b:Int) (r:Bool) (h:Qt a b=some r):Pure Eh 113 [U8 a,U8 b] (·=BL r):=by
 unfold Qt at h
 refine Gy [.tmp 4] Tryz.func113 O O (Jr fun hK1=>(Yy (BL false) O (G7 (hK1 (Jr fun hK2=>(Yy (U8 a) O (Yy (U8 b) O (JLh (BL (decide (a=b))) (Jt O O O) O (Yy (BL (decide (a=b))) O (JLo (U8 a) [] O .scf G (fun hc=>G5 O O) O (JLo (BL (decide (a=0))) [9] O .scf ⟨Ua,G⟩ (fun hc=>Jt O O O) O (JLh (BL ((decide (a=b))||(decide (a=0)))) (Yi O O O O) O (Yy (BL ((decide (a=b))||(decide (a=0)))) O (JLo (U8 b) [] O .scf G (fun hc=>G5 O O) O (JLo (BL (decide (b=0))) [13] O .scf ⟨Ua,G⟩ (fun hc=>Jt O O O) O (JLh (BL (((decide (a=b))||(decide (a=0)))||(decide (b=0)))) (Yi O O O O) O (Yy (BL (((decide (a=b))||(decide (a=0)))||(decide (b=0)))) O (G7 (hK2 (Gr (fin1 BL h)))))))))))))))))))))

def Zn (a:Slot) (b:Slot):Option Bool:=
 bnd (bif ((decide (a.G4=b.G4))&&(decide (a.Tier=b.Tier))) then Qt a.Half b.Half else some default) fun r3=>
 some (((decide (a.G4=b.G4))&&(decide (a.Tier=b.Tier)))&&r3)
theorem H54 (a:Slot) (b:Slot) (r:Bool) (h:Zn a b=some r):Pure Eh 61 [.agg [G0 a.G4,G0 a.Tier,U8 a.Half],.agg [G0 b.G4,G0 b.Tier,U8 b.Half]] (·=BL r):=by
 unfold Zn at h
 refine Gy [.tmp 4] Tryz.func61 O O (Jr fun hK1=>(JLh (.ptr 1080 0) (Ji (cs:=[G0 a.G4,G0 a.Tier,U8 a.Half]) 1080 O O O O O) O (JLh (.ptr 1081 0) (Ji (cs:=[G0 b.G4,G0 b.Tier,U8 b.Half]) 1081 O O O O O) O (Yy (BL false) O (G7 (hK1 (Gz [(2,.dptr [G0 a.G4,G0 a.Tier,U8 a.Half]),(3,.ptr 1081 0)] [(1081,.box 61 [G0 b.G4,G0 b.Tier,U8 b.Half])] 1080 rfl rfl rfl ⟨⟨_,rfl,.boxEq rfl rfl⟩,G⟩ rfl (by exact⟨.ptr,.conv (.same rfl),G⟩) (Gz [(2,.dptr [G0 a.G4,G0 a.Tier,U8 a.Half]),(3,.dptr [G0 b.G4,G0 b.Tier,U8 b.Half])] [] 1081 rfl rfl rfl G rfl (by exact⟨.conv (.same rfl),.ptr,G⟩) ?_))))))))
 refine Jr fun hK2=>(JLh (.dptr [G0 a.G4,G0 a.Tier,U8 a.Half]) (Ga J6 O O O) O (JLh (G0 a.G4) (Gg Gd O O O) O (JLh (.dptr [G0 b.G4,G0 b.Tier,U8 b.Half]) (Ga J6 O O O) O (JLh (G0 b.G4) (Gg Gd O O O) O (JLh (BL (decide (a.G4=b.G4))) (Jt O O O) O (Yy (BL (decide (a.G4=b.G4))) O (JLo (.dptr [G0 a.Tier,U8 a.Half]) [] O .sct G (fun hc=>Ga Qa O O O) O (JLo (G0 a.Tier) [11] O .sct ⟨Ua,G⟩ (fun hc=>Gg Gd O O O) O (JLo (.dptr [G0 b.Tier,U8 b.Half]) [] O .sct G (fun hc=>Ga Qa O O O) O (JLo (G0 b.Tier) [13] O .sct ⟨Ua,G⟩ (fun hc=>Gg Gd O O O) O (JLo (BL (decide (a.Tier=b.Tier))) [12,14] O .sct ⟨Ua,Ua,G⟩ (fun hc=>Jt O O O) O (JLh (BL ((decide (a.G4=b.G4))&&(decide (a.Tier=b.Tier)))) (Hx O O O O) O (Yy (BL ((decide (a.G4=b.G4))&&(decide (a.Tier=b.Tier)))) O ?_)))))))))))))
 refine JLo (.dptr [U8 a.Half]) [] O .sct G (fun hc=>Ga Jo O O O) O (JLo (U8 a.Half) [18] O .sct ⟨Ua,G⟩ (fun hc=>Gg Jh O O O) O (JLo (.dptr [U8 b.Half]) [] O .sct G (fun hc=>Ga Jo O O O) O (JLo (U8 b.Half) [20] O .sct ⟨Ua,G⟩ (fun hc=>Gg Jh O O O) O ?_)))
 obtain⟨r3,hr3,h⟩:=Ge h
 refine JLo (BL r3) [19,21] O .sct ⟨Ua,Ua,G⟩ (fun hc=>Gn (args:=[U8 a.Half,U8 b.Half]) O (G75 a.Half b.Half r3 (Gx hc hr3)) J46 ⟨O,O,O,O,G⟩) O (JLh (BL (((decide (a.G4=b.G4))&&(decide (a.Tier=b.Tier)))&&r3)) (Hx O O O O) O (Yy (BL (((decide (a.G4=b.G4))&&(decide (a.Tier=b.Tier)))&&r3)) O (G7 (hK2 (Gr (fin1 BL h))))))

def Qd (boxes:List Gh) (l:List Stowed) (column:Int) (half:Int):Option Int:=
 each (fun y42 i42 (s42:Int) nx42=>
  jp (fun kj45=>
   bnd (Qr boxes y42.Gh) fun r47=>
   bif (((!r47.2)||(decide (y42.Slot.G4≠column)))||((decide (y42.Slot.Half≠half))&&(decide (y42.Slot.Half≠0)))) then
   (kj45 s42)
   else
   (bif r47.1.High then
    (G1f (s42+2896) fun v51=>
     kj45 v51)
    else
    (G1f (s42+2591) fun v52=>
     kj45 v52))) fun(j45:Int)=>
  nx42 j45)
 (fun(s42:Int)=>
  some s42) l 0 0
theorem G20 (boxes:List Gh) (l:List Stowed) (column:Int) (half:Int) (r:Int) (h:Qd boxes l column half=some r):Pure Eh 16 [E2 boxes,E1 l,G0 column,U8 half] (·=G0 r):=by
 unfold Qd at h
 refine Gy [.tmp 8] Tryz.func16 O O (Jr fun hK1=>(Yy (G0 0) O (G7 (hK1 (Jr fun hK2=>(Yy (G0 0) O (G7 (hK2 (Js fun hK3=>Jr fun hK4=>(Yy (G0 0) O (G7 (hK4 (Gs ?_)))))))))))))
 obtain⟨b42,kx42,hb42,hkx42,h⟩:=J5 h
 refine Hc (fun i42 (s42:Int)=>each b42 kx42 (List.drop i42 l) i42 s42=some r) (fun i42 s42=>[(0,E2 boxes),(1,E1 l),(2,G0 column),(3,U8 half),(9,G0 s42),(10,Eg i42)]) (fun i42 s42=>[]) (fun i42=>l.length - i42) 0 0 h ⟨(by repeat' constructor),G,rfl⟩ ?_
 clear h
 intro i42 s42 hi42 K42 e42
 refine Js fun hK43=>Jr fun hK44=>(Yy (Eg i42) O (Yy (E1 l) O (JLl H0 O O O fun hm15=>(JLh (BL (decide ((i42:Int) < (l.length:Int)))) (J4 O O O) O (G7 (hK44 (Gk O (fun hb=>?_) (fun hb=>?_))))))))
 ·
  have hk42:=Jj hb
  obtain⟨y42,nx42,hy42,hn42,h⟩:=Hq hi42 hk42
  replace h:=Z1 hb42 h
  refine Gp (hK43 ?_)
  obtain⟨kj45,hkj45,h⟩:=Gbf h
  refine G73 (fun j45:Int=>kj45 j45=some r) (fun j45=>[(0,E2 boxes),(1,E1 l),(2,G0 column),(3,U8 half),(9,G0 j45),(10,Eg i42)]) (fun j45=>[]) (fun Kj45 ej45=>?_) ?_
  ·
   refine Gs (Jr fun hK46=>(Yy (E2 boxes) O (Yy (E1 l) O (Yy (Eg i42) O (JLh (Eb y42) (Gv (f:=Stowed.av) (xs:=l) (y:=y42) O O O H0 hy42 O) O (JLh (Eb y42) (Ga Q5 O O O) O (JLh (G0 y42.Gh) (Gg Gd O O O) O ?_)))))))
   obtain⟨r47,hr47,h⟩:=Ge h
   refine JLh (.tup [.agg (Gh.cs r47.1),BL r47.2]) (Gn O (G37 boxes y42.Gh r47 hr47) He6 ⟨O,O,O,O,G⟩) O (Yy (.tup [.agg (Gh.cs r47.1),BL r47.2]) O (JLh (.agg (Gh.cs r47.1)) (Hv O O O) O (JLh (BL r47.2) (Hv O O O) O (JLh (.ptr 1025 0) (Qf 1025 9 G24 O O) O (Jk (u:=.junk) (Jb (u:=.agg (Gh.cs r47.1)) (ds:=(Gh.cs r47.1)) G08 O O O O O O O O) (Yy (BL r47.2) O (G7 (hK46 (Gz [(0,E2 boxes),(1,E1 l),(2,G0 column),(3,U8 half),(9,G0 s42),(10,Eg i42),(11,Ed r47.1),(12,BL r47.2)] [] 1025 rfl rfl rfl G rfl (by repeat' (first | exact .ptr | constructor)) (Js fun hK48=>?_))))))))))
   refine Jr fun hK49=>(Yy (BL r47.2) O (JLh (BL (!r47.2)) (R5 (b:=r47.2) O O) O (Yy (BL (!r47.2)) O (JLo (E1 l) [] O .scf G (fun hc=>G5 O O) O (JLo (Eg i42) [] O .scf G (fun hc=>G5 O O) O (JLo (Eb y42) [32,33] O .scf ⟨Ua,Ua,G⟩ (fun hc=>Gv (f:=Stowed.av) (xs:=l) (y:=y42) O O O H0 hy42 O) O (JLo (.dptr ((Stowed.cs y42).drop 1)) [34] O .scf ⟨Ua,G⟩ (fun hc=>Ga Ht O O O) O (JLo (.dptr ((Stowed.cs y42).drop 1)) [35] O .scf ⟨Ua,G⟩ (fun hc=>Ga J6 O O O) O (JLo (G0 y42.Slot.G4) [36] O .scf ⟨Ua,G⟩ (fun hc=>Gg Gd O O O) O (JLo (G0 column) [] O .scf G (fun hc=>G5 O O) O (JLo (BL (decide (y42.Slot.G4≠column))) [37,38] O .scf ⟨Ua,Ua,G⟩ (fun hc=>G3d O O O) O (JLh (BL ((!r47.2)||(decide (y42.Slot.G4≠column)))) (Yi O O O O) O (Yy (BL ((!r47.2)||(decide (y42.Slot.G4≠column)))) O ?_)))))))))))))
   refine JLo (E1 l) [] O .scf G (fun hc=>G5 O O) O (JLo (Eg i42) [] O .scf G (fun hc=>G5 O O) O (JLo (Eb y42) [42,43] O .scf ⟨Ua,Ua,G⟩ (fun hc=>Gv (f:=Stowed.av) (xs:=l) (y:=y42) O O O H0 hy42 O) O (JLo (.dptr ((Stowed.cs y42).drop 1)) [44] O .scf ⟨Ua,G⟩ (fun hc=>Ga Ht O O O) O (JLo (.dptr [U8 y42.Slot.Half]) [45] O .scf ⟨Ua,G⟩ (fun hc=>Ga Jo O O O) O (JLo (U8 y42.Slot.Half) [46] O .scf ⟨Ua,G⟩ (fun hc=>Gg Jh O O O) O (JLo (U8 half) [] O .scf G (fun hc=>G5 O O) O (JLo (BL (decide (y42.Slot.Half≠half))) [47,48] O .scf ⟨Ua,Ua,G⟩ (fun hc=>G3d O O O) O (JLo (BL (decide (y42.Slot.Half≠half))) [49] O .scf ⟨Ua,G⟩ (fun hc=>G5 O O) O (JLo (E1 l) [] O .optt G (fun hc=>G5 O O) O (JLo (Eg i42) [] O .optt G (fun hc=>G5 O O) O (JLo (Eb y42) [51,52] O .optt ⟨Ua,Ua,G⟩ (fun hc=>Gv (f:=Stowed.av) (xs:=l) (y:=y42) O O O H0 hy42 O) O (JLo (.dptr ((Stowed.cs y42).drop 1)) [53] O .optt ⟨Ua,G⟩ (fun hc=>Ga Ht O O O) O (JLo (.dptr [U8 y42.Slot.Half]) [54] O .optt ⟨Ua,G⟩ (fun hc=>Ga Jo O O O) O ?_)))))))))))))
   refine JLo (U8 y42.Slot.Half) [55] O .optt ⟨Ua,G⟩ (fun hc=>Gg Jh O O O) O (JLo (BL (decide (y42.Slot.Half≠0))) [56] O .optt ⟨Ua,G⟩ (fun hc=>G3d O O O) O (G9 (u:=BL ((decide (y42.Slot.Half≠half))&&(decide (y42.Slot.Half≠0)))) [(50,BL (decide (y42.Slot.Half≠half))),(57,_)] O O O .scf ⟨.all id,.part,G⟩ (fun hc=>Hx O O O O) ?_))
   refine JLh (BL (((!r47.2)||(decide (y42.Slot.G4≠column)))||((decide (y42.Slot.Half≠half))&&(decide (y42.Slot.Half≠0))))) (Yi O O O O) O (G7 (hK49 (JCc O h (fun h hb=>?_) (fun h hb=>?_))))
   ·
    refine Hi (ej45 _ _ s42 h ⟨(by repeat' constructor),G,rfl⟩)
   ·
    refine Gp (hK48 (Jr fun hK50=>(JLh (.dptr ((Gh.cs r47.1).drop 3)) (Ga Hc9 O O O) O (JLh (BL r47.1.High) (Gg Ra O O O) O (G7 (hK50 (JCc O h (fun h hb=>?_) (fun h hb=>?_))))))))
    ·
     refine G3 (Yy (G0 s42) O ?_)
     obtain⟨v51,hv51,h⟩:=Qq h
     refine JLh (G0 v51) (Hs hv51 O O O) O (Yy (G0 v51) O (G7 (ej45 _ _ v51 h ⟨(by repeat' constructor),G,rfl⟩)))
    ·
     refine G3 (Yy (G0 s42) O ?_)
     obtain⟨v52,hv52,h⟩:=Qq h
     refine JLh (G0 v52) (Hs hv52 O O O) O (Yy (G0 v52) O (G7 (ej45 _ _ v52 h ⟨(by repeat' constructor),G,rfl⟩)))
  ·intro j45 h
   replace h:=app1 hkj45 h
   refine G3 (Yy (Eg i42) O (JLh (G0 ((i42+1:Nat):Int)) (Hs (He hk42 hm15) O O O) O (Yy (G0 ((i42+1:Nat):Int)) O (G7 (e42 _ _ (i42+1) j45 (app1 hn42 h) (by omega) ⟨(by repeat' constructor),G,rfl⟩)))))
 ·
  have h:=app1 hkx42 (Hr hi42 (Ha hb))
  refine Hi (hK3 (Jr fun hK53=>(Yy (G0 s42) O (Yy (G0 s42) O (G7 (hK53 (Gr (fin1 G0 h))))))))

def Zm (s:H4) (boxes:List Gh) (l:List Stowed) (c:Int):Option Bool:=
 Qm s.Columns c fun y4=>
 bif decide (y4.Height=0) then
 (some false)
 else
 (bnd (Qd boxes l c 1) fun r8=>
  Qm s.Columns c fun y9=>
  bnd (bif (!(decide (y9.Height < r8))) then Qd boxes l c 2 else some default) fun r11=>
  bnd (bif (!(decide (y9.Height < r8))) then Qm s.Columns c some else some default) fun y12=>
  some ((decide (y9.Height < r8))||(decide (y12.Height < r11))))
theorem H53 (s:H4) (boxes:List Gh) (l:List Stowed) (c:Int) (r:Bool) (h:Zm s boxes l c=some r):Pure Eh 62 [.agg (H4.cs s),E2 boxes,E1 l,G0 c] (·=BL r):=by
 unfold Zm at h
 refine Gy [.tmp 8] Tryz.func62 O O (Jr fun hK1=>(JLh (.ptr 1082 0) (Ji (cs:=(H4.cs s)) 1082 O O O O O) O (Yy (BL false) O (G7 (hK1 (Gz [(1,E2 boxes),(2,E1 l),(3,G0 c),(4,Ea s)] [] 1082 rfl rfl rfl G rfl (by repeat' (first | exact .ptr | constructor)) (Js fun hK2=>?_)))))))
 refine Jr fun hK3=>(JLh (Ea s) (Ga Hd O O O) O (JLh (E4 s.Columns) (Gg Hm O O O) O (Yy (G0 c) O ?_)))
 obtain⟨m5,y4,hm5,hy4,h⟩:=Qx h
 refine JLh (Ec y4) (Gv (f:=G4.av) (xs:=s.Columns) (y:=y4) O O O H5 hy4 hm5) O (JLh (.dptr ((G4.cs y4).drop 4)) (Ga G13 O O O) O (JLh (G0 y4.Height) (Gg Gd O O O) O (JLh (BL (decide (y4.Height=0))) (Jt O O O) O (G7 (hK3 (JCc O h (fun h hb=>?_) (fun h hb=>?_)))))))
 ·
  refine Jr fun hK6=>(Yy (BL false) O (G7 (hK6 (Gr (fin1 BL h)))))
 ·
  refine Gp (hK2 (Js fun hK7=>?_))
  obtain⟨r8,hr8,h⟩:=Ge h
  obtain⟨m10,y9,hm10,hy9,h⟩:=Qx h
  obtain⟨r11,hr11,h⟩:=Ge h
  obtain⟨y12,hy12,h⟩:=Ge h
  refine JC_d0 J8 (by kernel_rfl) (Dq (E2 boxes) (G5 O O) O (Dq (E1 l) (G5 O O) O (Dq (G0 c) (G5 O O) O (Dq (G0 r8) (Gn (args:=[E2 boxes,E1 l,G0 c,U8 1]) O (G20 boxes l c 1 r8 hr8) He3 ⟨O,O,O,O,O,O,O,O,G⟩) O (Dq (Ea s) (Ga Hd O O O) O (Dq (E4 s.Columns) (Gg Hm O O O) O (Dq (G0 c) (G5 O O) O (Dq (Ec y9) (Gv (f:=G4.av) (xs:=s.Columns) (y:=y9) O O O H5 hy9 hm10) O (Dq (.dptr ((G4.cs y9).drop 4)) (Ga G13 O O O) O (Dq (G0 y9.Height) (Gg Gd O O O) O (Dq (BL (decide (y9.Height < r8))) (G2c O O O) O (Dq (BL (decide (y9.Height < r8))) (G5 O O) O (Do (E2 boxes) [] O .scf G (fun hc=>G5 O O) O ?_)))))))))))))
  refine Do (E1 l) [] O .scf G (fun hc=>G5 O O) O (Do (G0 c) [] O .scf G (fun hc=>G5 O O) O (Do (G0 r11) [28,29,30] O .scf ⟨Ua,Ua,Ua,G⟩ (fun hc=>Gn (args:=[E2 boxes,E1 l,G0 c,U8 2]) O (G20 boxes l c 2 r11 (Gx hc hr11)) He3 ⟨O,O,O,O,O,O,O,O,G⟩) O (Do (Ea s) [] O .scf G (fun hc=>Ga Hd O O O) O (Do (E4 s.Columns) [32] O .scf ⟨Ua,G⟩ (fun hc=>Gg Hm O O O) O (Do (G0 c) [] O .scf G (fun hc=>G5 O O) O (Do (Ec y12) [33,34] O .scf ⟨Ua,Ua,G⟩ (fun hc=>(match Q3 (Gx hc hy12) with | ⟨_,hm_,hy_⟩=>Gv (f:=G4.av) (xs:=s.Columns) (y:=y12) O O O H5 hy_ hm_)) O (Do (.dptr ((G4.cs y12).drop 4)) [35] O .scf ⟨Ua,G⟩ (fun hc=>Ga G13 O O O) O (Do (G0 y12.Height) [36] O .scf ⟨Ua,G⟩ (fun hc=>Gg Gd O O O) O (Do (BL (decide (y12.Height < r11))) [31,37] O .scf ⟨Ua,Ua,G⟩ (fun hc=>G2c O O O) O (Dq (BL ((decide (y9.Height < r8))||(decide (y12.Height < r11)))) (Yi O O O O) O (Dq (BL ((decide (y9.Height < r8))||(decide (y12.Height < r11)))) (G8 O O) O (Dnil ?_))))))))))))
  refine hK7 (Gr (fin1 BL h))

def Ru (F:Nat) (s:H4) (boxes:List Gh) (l:List Stowed):Option Bool:=
 bnd (Zd F s) fun r4=>
 bif (!r4) then
 (some false)
 else
 (each (fun y8 i8 (s8:Unit) nx8=>
   bnd (Qr boxes y8.Gh) fun r13=>
   bnd (bif (!(!r13.2)) then G1f (r13.1.Size) some else some 0) fun v16=>
   bnd (bif (!(!r13.2)) then Zc s y8.Slot v16 else some default) fun r17=>
   bnd (bif (!((!r13.2)||(!r17))) then Z8 l else some default) fun r18=>
   bnd (bif (!((!r13.2)||(!r17))) then Zo y8.Slot r18 else some default) fun r19=>
   bif (((!r13.2)||(!r17))||(!r19)) then
   (some false)
   else
   (need (decide ((i8:Int)≤9223372036854775807)) <|
    upto (fun i39 (s39:Unit) nx39=>
     Qm l (i39:Int) fun y44=>
     bnd (bif (!(decide (y8.Gh≤y44.Gh))) then Qm l (i39:Int) some else some default) fun y46=>
     bnd (bif (!(decide (y8.Gh≤y44.Gh))) then Zn y46.Slot y8.Slot else some default) fun r47=>
     bif ((decide (y8.Gh≤y44.Gh))||r47) then
     (some false)
     else
     (nx39 ()))
    (fun(s39:Unit)=>
     nx8 ()) (i8:Int).toNat 0 ()))
  (fun(s8:Unit)=>
   each (fun y62 i62 (s62:Unit) nx62=>
    bnd (Zm s boxes l (i62:Int)) fun r67=>
    bif r67 then
    (some false)
    else
    (nx62 ()))
   (fun(s62:Unit)=>
    some true) s.Columns 0 ()) l 0 ())
theorem G82 (F:Nat) (s:H4) (boxes:List Gh) (l:List Stowed) (r:Bool) (h:Ru F s boxes l=some r):Pure Eh 14 [.agg (H4.cs s),E2 boxes,E1 l] (·=BL r):=by
 unfold Ru at h
 refine Gy [.tmp 6] Tryz.func14 O O (Jr fun hK1=>(JLh (.ptr 1021 0) (Ji (cs:=(H4.cs s)) 1021 O O O O O) O (Yy (BL false) O (G7 (hK1 (Gz [(1,E2 boxes),(2,E1 l),(3,Ea s)] [] 1021 rfl rfl rfl G rfl (by exact⟨.conv (.same rfl),.conv (.same rfl),.ptr,G⟩) (Js fun hK2=>?_)))))))
 refine Jr fun hK3=>(JLh (.agg (H4.cs s)) (Gi Hu O O O) O ?_)
 obtain⟨r4,hr4,h⟩:=Ge h
 refine JLh (BL r4) (Gn O (H44 F s r4 hr4) Q4b ⟨O,O,G⟩) O (JLh (BL (!r4)) (R5 (b:=r4) O O) O (G7 (hK3 (JCc O h (fun h hb=>?_) (fun h hb=>?_)))))
 ·
  refine Jr fun hK5=>(Yy (BL false) O (G7 (hK5 (Gr (fin1 BL h)))))
 ·
  refine Gp (hK2 (Js fun hK6=>Jr fun hK7=>(Yy (G0 0) O (G7 (hK7 (Gs ?_))))))
  obtain⟨b8,kx8,hb8,hkx8,h⟩:=J5 h
  refine Hc (fun i8 (s8:Unit)=>each b8 kx8 (List.drop i8 l) i8 s8=some r) (fun i8 s8=>[(1,E2 boxes),(2,E1 l),(3,Ea s),(7,Eg i8)]) (fun i8 s8=>[]) (fun i8=>l.length - i8) 0 () h ⟨(by repeat' constructor),G,rfl⟩ ?_
  clear h
  intro i8 s8 hi8 K8 e8
  refine Js fun hK9=>Jr fun hK10=>(Yy (Eg i8) O (Yy (E1 l) O (JLl H0 O O O fun hm17=>(JLh (BL (decide ((i8:Int) < (l.length:Int)))) (J4 O O O) O (G7 (hK10 (Gk O (fun hb=>?_) (fun hb=>?_))))))))
  ·
   have hk8:=Jj hb
   obtain⟨y8,nx8,hy8,hn8,h⟩:=Hq hi8 hk8
   replace h:=Z1 hb8 h
   refine Gp (hK9 (Js fun hK11=>Gs (Jr fun hK12=>(Yy (E2 boxes) O (Yy (E1 l) O (Yy (Eg i8) O (JLh (Eb y8) (Gv (f:=Stowed.av) (xs:=l) (y:=y8) O O O H0 hy8 O) O (JLh (Eb y8) (Ga Q5 O O O) O (JLh (G0 y8.Gh) (Gg Gd O O O) O ?_)))))))))
   obtain⟨r13,hr13,h⟩:=Ge h
   refine JLh (.tup [.agg (Gh.cs r13.1),BL r13.2]) (Gn O (G37 boxes y8.Gh r13 hr13) He6 ⟨O,O,O,O,G⟩) O (Yy (.tup [.agg (Gh.cs r13.1),BL r13.2]) O (JLh (.agg (Gh.cs r13.1)) (Hv O O O) O (JLh (BL r13.2) (Hv O O O) O (JLh (.ptr 1022 0) (Qf 1022 9 G24 O O) O (Jk (u:=.junk) (Jb (u:=.agg (Gh.cs r13.1)) (ds:=(Gh.cs r13.1)) G08 O O O O O O O O) (Yy (BL r13.2) O (G7 (hK12 ?_))))))))
   refine Gz [(1,E2 boxes),(2,E1 l),(3,Ea s),(7,Eg i8),(8,Ed r13.1),(9,BL r13.2)] [] 1022 rfl rfl rfl G rfl (by repeat' (first | exact .ptr | constructor)) (Js fun hK14=>Js fun hK15=>?_)
   obtain⟨v16,hv16,h⟩:=Ge h
   obtain⟨r17,hr17,h⟩:=Ge h
   obtain⟨r18,hr18,h⟩:=Ge h
   obtain⟨r19,hr19,h⟩:=Ge h
   refine JC_d0 J8 (by kernel_rfl) (Dq (BL r13.2) (G5 O O) O (Dq (BL (!r13.2)) (R5 (b:=r13.2) O O) O (Dq (BL (!r13.2)) (G5 O O) O (Do (.agg (H4.cs s)) [] O .scf G (fun hc=>Gi Hu O O O) O (Do (E1 l) [] O .scf G (fun hc=>G5 O O) O (Do (Eg i8) [] O .scf G (fun hc=>G5 O O) O (Do (Eb y8) [35,36] O .scf ⟨Ua,Ua,G⟩ (fun hc=>Gv (f:=Stowed.av) (xs:=l) (y:=y8) O O O H0 hy8 O) O (Do (.dptr ((Stowed.cs y8).drop 1)) [37] O .scf ⟨Ua,G⟩ (fun hc=>Ga Ht O O O) O (Do (.agg ((Stowed.cs y8).drop 1)) [38] O .scf ⟨Ua,G⟩ (fun hc=>Gi Q9 O O O) O (Do (.dptr ((Gh.cs r13.1).drop 2)) [] O .scf G (fun hc=>Ga G7b O O O) O (Do (U8 r13.1.Size) [40] O .scf ⟨Ua,G⟩ (fun hc=>Gg Jh O O O) O (Do (G0 v16) [41] O .scf ⟨Ua,G⟩ (fun hc=>Q66 J82 tf_int_5 (Z7 (Gx hc hv16)) O O) O (Do (BL r17) [34,39,42] O .scf ⟨Ua,Ua,Ua,G⟩ (fun hc=>Gn (args:=[.agg (H4.cs s),.agg ((Stowed.cs y8).drop 1),G0 v16]) O (H43 s y8.Slot v16 r17 (Gx hc hr17)) Q4a ⟨O,O,O,O,O,O,G⟩) O ?_)))))))))))))
   refine Do (BL (!r17)) [43] O .scf ⟨Ua,G⟩ (fun hc=>R5 (b:=r17) O O) O (Dq (BL ((!r13.2)||(!r17))) (Yi O O O O) O (Dq (BL ((!r13.2)||(!r17))) (G5 O O) O (Do (E1 l) [] O .scf G (fun hc=>G5 O O) O (Do (Eg i8) [] O .scf G (fun hc=>G5 O O) O (Do (Eb y8) [47,48] O .scf ⟨Ua,Ua,G⟩ (fun hc=>Gv (f:=Stowed.av) (xs:=l) (y:=y8) O O O H0 hy8 O) O (Do (.dptr ((Stowed.cs y8).drop 1)) [49] O .scf ⟨Ua,G⟩ (fun hc=>Ga Ht O O O) O (Do (.agg ((Stowed.cs y8).drop 1)) [50] O .scf ⟨Ua,G⟩ (fun hc=>Gi Q9 O O O) O (Do (E1 l) [] O .scf G (fun hc=>G5 O O) O (Do (E8 r18) [52] O .scf ⟨Ua,G⟩ (fun hc=>Gn (args:=[E1 l]) O (H3f l r18 (Gx hc hr18)) Q48 ⟨O,O,G⟩) O (Do (BL r19) [51,53] O .scf ⟨Ua,Ua,G⟩ (fun hc=>Gn (args:=[.agg ((Stowed.cs y8).drop 1),E8 r18]) O (H55 y8.Slot r18 r19 (Gx hc hr19)) Q49 ⟨O,O,O,O,G⟩) O (Do (BL (!r19)) [54] O .scf ⟨Ua,G⟩ (fun hc=>R5 (b:=r19) O O) O (Dq (BL (((!r13.2)||(!r17))||(!r19))) (Yi O O O O) O (Dnil ?_)))))))))))))
   refine hK15 (JCc O h (fun h hb=>?_) (fun h hb=>?_))
   ·
    refine Jr fun hK20=>(Yy (BL false) O (G7 (hK20 (Gr (fin1 BL h)))))
   ·
    refine Gp (hK14 (Jr fun hK21=>(Yy (G0 0) O (G7 (hK21 (Gs ?_))))))
    obtain⟨hx39,h⟩:=J2 h
    obtain⟨b39,kx39,hb39,hkx39,h⟩:=G8d h
    refine Hc (fun i39 (s39:Unit)=>upto b39 kx39 ((i8:Int).toNat - i39) i39 s39=some r) (fun i39 s39=>[(1,E2 boxes),(2,E1 l),(3,Ea s),(7,Eg i8),(10,Eg i39)]) (fun i39 s39=>[]) (fun i39=>(i8:Int).toNat - i39) 0 () h ⟨(by repeat' constructor),G,rfl⟩ ?_
    clear h
    intro i39 s39 hi39 K39 e39
    refine Js fun hK40=>Jr fun hK41=>(Yy (Eg i39) O (Yy (Eg i8) O (JLh (BL (decide ((i39:Int) < (i8:Int)))) (J4 O O O) O (G7 (hK41 (Gk O (fun hb=>?_) (fun hb=>?_)))))))
    ·
     have hk39:=G48 hb
     obtain⟨nx39,hn39,h⟩:=G45 hi39 hk39
     replace h:=J15 hb39 h
     refine Gp (hK40 (Js fun hK42=>Gs (Js fun hK43=>?_)))
     obtain⟨m45,y44,hm45,hy44,h⟩:=Qx h
     obtain⟨y46,hy46,h⟩:=Ge h
     obtain⟨r47,hr47,h⟩:=Ge h
     refine JC_d0 J8 (by kernel_rfl) (Dq (E1 l) (G5 O O) O (Dq (Eg i39) (G5 O O) O (Dq (Eb y44) (Gv (f:=Stowed.av) (xs:=l) (y:=y44) O O O H0 hy44 hm45) O (Dq (Eb y44) (Ga Q5 O O O) O (Dq (G0 y44.Gh) (Gg Gd O O O) O (Dq (E1 l) (G5 O O) O (Dq (Eg i8) (G5 O O) O (Dq (Eb y8) (Gv (f:=Stowed.av) (xs:=l) (y:=y8) O O O H0 hy8 O) O (Dq (Eb y8) (Ga Q5 O O O) O (Dq (G0 y8.Gh) (Gg Gd O O O) O (Dq (BL (decide (y8.Gh≤y44.Gh))) (G17 O O O) O (Dq (BL (decide (y8.Gh≤y44.Gh))) (G5 O O) O (Do (E1 l) [] O .scf G (fun hc=>G5 O O) O ?_)))))))))))))
     refine Do (Eg i39) [] O .scf G (fun hc=>G5 O O) O (Do (Eb y46) [74,75] O .scf ⟨Ua,Ua,G⟩ (fun hc=>(match Q3 (Gx hc hy46) with | ⟨_,hm_,hy_⟩=>Gv (f:=Stowed.av) (xs:=l) (y:=y46) O O O H0 hy_ hm_)) O (Do (.dptr ((Stowed.cs y46).drop 1)) [76] O .scf ⟨Ua,G⟩ (fun hc=>Ga Ht O O O) O (Do (.agg ((Stowed.cs y46).drop 1)) [77] O .scf ⟨Ua,G⟩ (fun hc=>Gi Q9 O O O) O (Do (E1 l) [] O .scf G (fun hc=>G5 O O) O (Do (Eg i8) [] O .scf G (fun hc=>G5 O O) O (Do (Eb y8) [79,80] O .scf ⟨Ua,Ua,G⟩ (fun hc=>Gv (f:=Stowed.av) (xs:=l) (y:=y8) O O O H0 hy8 O) O (Do (.dptr ((Stowed.cs y8).drop 1)) [81] O .scf ⟨Ua,G⟩ (fun hc=>Ga Ht O O O) O (Do (.agg ((Stowed.cs y8).drop 1)) [82] O .scf ⟨Ua,G⟩ (fun hc=>Gi Q9 O O O) O (Do (BL r47) [78,83] O .scf ⟨Ua,Ua,G⟩ (fun hc=>Gn (args:=[.agg ((Stowed.cs y46).drop 1),.agg ((Stowed.cs y8).drop 1)]) O (H54 y46.Slot y8.Slot r47 (Gx hc hr47)) Q47 ⟨O,O,O,O,G⟩) O (Dq (BL ((decide (y8.Gh≤y44.Gh))||r47)) (Yi O O O O) O (Dnil ?_)))))))))))
     refine hK43 (JCc O h (fun h hb=>?_) (fun h hb=>?_))
     ·
      refine Jr fun hK48=>(Yy (BL false) O (G7 (hK48 (Gr (fin1 BL h)))))
     ·
      refine Gp (hK42 (G3 (Yy (Eg i39) O (JLh (G0 ((i39+1:Nat):Int)) (Hs (He hk39 (G23 hx39)) O O O) O (Yy (G0 ((i39+1:Nat):Int)) O (G7 (e39 _ _ (i39+1) () (app1 hn39 h) (by omega) ⟨(by repeat' constructor),G,rfl⟩)))))))
    ·
     have h:=app1 hkx39 (G46 hi39 (Yf hb))
     refine Hi (hK11 (G3 (Yy (Eg i8) O (JLh (G0 ((i8+1:Nat):Int)) (Hs (He hk8 hm17) O O O) O (Yy (G0 ((i8+1:Nat):Int)) O (G7 (e8 _ _ (i8+1) () (app1 hn8 h) (by omega) ⟨(by repeat' constructor),G,rfl⟩)))))))
  ·
   have h:=app1 hkx8 (Hr hi8 (Ha hb))
   refine Hi (hK6 (Js fun hK49=>Jr fun hK50=>(Yy (G0 0) O (G7 (hK50 (Gs ?_))))))
   obtain⟨b62,kx62,hb62,hkx62,h⟩:=J5 h
   refine Hc (fun i62 (s62:Unit)=>each b62 kx62 (List.drop i62 s.Columns) i62 s62=some r) (fun i62 s62=>[(1,E2 boxes),(2,E1 l),(3,Ea s),(11,Eg i62)]) (fun i62 s62=>[]) (fun i62=>s.Columns.length - i62) 0 () h ⟨(by repeat' constructor),G,rfl⟩ ?_
   clear h
   intro i62 s62 hi62 K62 e62
   refine Js fun hK63=>Jr fun hK64=>(Yy (Eg i62) O (JLh (Ea s) (Ga Hd O O O) O (JLh (E4 s.Columns) (Gg Hm O O O) O (JLl H5 O O O fun hm89=>(JLh (BL (decide ((i62:Int) < (s.Columns.length:Int)))) (J4 O O O) O (G7 (hK64 (Gk O (fun hb=>?_) (fun hb=>?_)))))))))
   ·
    have hk62:=Jj hb
    obtain⟨y62,nx62,hy62,hn62,h⟩:=Hq hi62 hk62
    replace h:=Z1 hb62 h
    refine Gp (hK63 (Js fun hK65=>Gs (Jr fun hK66=>(JLh (.agg (H4.cs s)) (Gi Hu O O O) O (Yy (E2 boxes) O (Yy (E1 l) O (Yy (Eg i62) O ?_)))))))
    obtain⟨r67,hr67,h⟩:=Ge h
    refine JLh (BL r67) (Gn O (H53 s boxes l (i62:Int) r67 hr67) Q46 ⟨O,O,O,O,O,O,O,O,G⟩) O (G7 (hK66 (JCc O h (fun h hb=>?_) (fun h hb=>?_))))
    ·
     refine Jr fun hK68=>(Yy (BL false) O (G7 (hK68 (Gr (fin1 BL h)))))
    ·
     refine Gp (hK65 (G3 (Yy (Eg i62) O (JLh (G0 ((i62+1:Nat):Int)) (Hs (He hk62 hm89) O O O) O (Yy (G0 ((i62+1:Nat):Int)) O (G7 (e62 _ _ (i62+1) () (app1 hn62 h) (by omega) ⟨(by repeat' constructor),G,rfl⟩)))))))
   ·
    have h:=app1 hkx62 (Hr hi62 (Ha hb))
    refine Hi (hK49 (Jr fun hK69=>(Yy (BL true) O (G7 (hK69 (Gr (fin1 BL h)))))))

def Y3 (l:List Stowed) (id_:Int):Option Int:=
 each (fun y17 i17 (s17:Unit) nx17=>
  bif decide (y17.Gh=id_) then
  (some (i17:Int))
  else
  (nx17 ()))
 (fun(s17:Unit)=>
  some (-1)) l 0 ()
theorem G53 (l:List Stowed) (id_:Int) (r:Int) (h:Y3 l id_=some r):Pure Eh 66 [E1 l,G0 id_] (·=G0 r):=by
 unfold Y3 at h
 refine Gy [.tmp 4] Tryz.func66 O O (Jr fun hK1=>(Yy (G0 0) O (G7 (hK1 (Js fun hK2=>Jr fun hK3=>(Yy (G0 0) O (G7 (hK3 (Gs ?_)))))))))
 obtain⟨b17,kx17,hb17,hkx17,h⟩:=J5 h
 refine Hc (fun i17 (s17:Unit)=>each b17 kx17 (List.drop i17 l) i17 s17=some r) (fun i17 s17=>[(0,E1 l),(1,G0 id_),(5,Eg i17)]) (fun i17 s17=>[]) (fun i17=>l.length - i17) 0 () h ⟨⟨.same O,.same O,.same O,G⟩,G,O⟩ ?_
 clear h
 intro i17 s17 hi17 K17 e17
 refine Js fun hK18=>Jr fun hK19=>(Yy (Eg i17) O (Yy (E1 l) O (JLl H0 O O O fun hm8=>(JLh (BL (decide ((i17:Int) < (l.length:Int)))) (J4 O O O) O (G7 (hK19 (Gk O (fun hb=>?_) (fun hb=>?_))))))))
 ·
  have hk17:=Jj hb
  obtain⟨y17,nx17,hy17,hn17,h⟩:=Hq hi17 hk17
  replace h:=Z1 hb17 h
  refine Gp (hK18 (Js fun hK20=>Gs (Jr fun hK21=>(Yy (E1 l) O (Yy (Eg i17) O (JLh (Eb y17) (Gv (f:=Stowed.av) (xs:=l) (y:=y17) O O O H0 hy17 O) O (JLh (Eb y17) (Ga Q5 O O O) O (JLh (G0 y17.Gh) (Gg Gd O O O) O (Yy (G0 id_) O (JLh (BL (decide (y17.Gh=id_))) (Jt O O O) O (G7 (hK21 (JCc O h (fun h hb=>?_) (fun h hb=>?_))))))))))))))
  ·
   refine Jr fun hK22=>(Yy (Eg i17) O (Yy (Eg i17) O (G7 (hK22 (Gr (fin1 G0 h))))))
  ·
   refine Gp (hK20 (G3 (Yy (Eg i17) O (JLh (G0 ((i17+1:Nat):Int)) (Hs (He hk17 hm8) O O O) O (Yy (G0 ((i17+1:Nat):Int)) O (G7 (e17 _ _ (i17+1) () (app1 hn17 h) (by omega) ⟨⟨.same rfl,.same rfl,.same rfl,G⟩,G,rfl⟩)))))))
 ·
  have h:=app1 hkx17 (Hr hi17 (Ha hb))
  refine Hi (hK2 (Jr fun hK23=>(Yy (G0 (-1)) O (G7 (hK23 (Gr (fin1 G0 h)))))))

def Y6 (a:Slot) (b:Slot):Option Bool:=
 bnd (bif ((decide (a.G4=b.G4))&&(decide (b.Tier < a.Tier))) then Qt a.Half b.Half else some default) fun r3=>
 some (((decide (a.G4=b.G4))&&(decide (b.Tier < a.Tier)))&&r3)
theorem G97 (a:Slot) (b:Slot) (r:Bool) (h:Y6 a b=some r):Pure Eh 67 [.agg [G0 a.G4,G0 a.Tier,U8 a.Half],.agg [G0 b.G4,G0 b.Tier,U8 b.Half]] (·=BL r):=by
 unfold Y6 at h
 refine Gy [.tmp 4] Tryz.func67 O O (Jr fun hK1=>(JLh (.ptr 1087 0) (Ji (cs:=[G0 a.G4,G0 a.Tier,U8 a.Half]) 1087 O O O O O) O (JLh (.ptr 1088 0) (Ji (cs:=[G0 b.G4,G0 b.Tier,U8 b.Half]) 1088 O O O O O) O (Yy (BL false) O (G7 (hK1 (Gz [(2,.dptr [G0 a.G4,G0 a.Tier,U8 a.Half]),(3,.ptr 1088 0)] [(1088,.box 61 [G0 b.G4,G0 b.Tier,U8 b.Half])] 1087 rfl rfl rfl ⟨⟨_,rfl,.boxEq rfl rfl⟩,G⟩ rfl (by exact⟨.ptr,.conv (.same rfl),G⟩) (Gz [(2,.dptr [G0 a.G4,G0 a.Tier,U8 a.Half]),(3,.dptr [G0 b.G4,G0 b.Tier,U8 b.Half])] [] 1088 rfl rfl rfl G rfl (by exact⟨.conv (.same rfl),.ptr,G⟩) ?_))))))))
 refine Jr fun hK2=>(JLh (.dptr [G0 a.G4,G0 a.Tier,U8 a.Half]) (Ga J6 O O O) O (JLh (G0 a.G4) (Gg Gd O O O) O (JLh (.dptr [G0 b.G4,G0 b.Tier,U8 b.Half]) (Ga J6 O O O) O (JLh (G0 b.G4) (Gg Gd O O O) O (JLh (BL (decide (a.G4=b.G4))) (Jt O O O) O (Yy (BL (decide (a.G4=b.G4))) O (JLo (.dptr [G0 a.Tier,U8 a.Half]) [] O .sct G (fun hc=>Ga Qa O O O) O (JLo (G0 a.Tier) [11] O .sct ⟨Ua,G⟩ (fun hc=>Gg Gd O O O) O (JLo (.dptr [G0 b.Tier,U8 b.Half]) [] O .sct G (fun hc=>Ga Qa O O O) O (JLo (G0 b.Tier) [13] O .sct ⟨Ua,G⟩ (fun hc=>Gg Gd O O O) O (JLo (BL (decide (b.Tier < a.Tier))) [12,14] O .sct ⟨Ua,Ua,G⟩ (fun hc=>G2c O O O) O (JLh (BL ((decide (a.G4=b.G4))&&(decide (b.Tier < a.Tier)))) (Hx O O O O) O (Yy (BL ((decide (a.G4=b.G4))&&(decide (b.Tier < a.Tier)))) O ?_)))))))))))))
 refine JLo (.dptr [U8 a.Half]) [] O .sct G (fun hc=>Ga Jo O O O) O (JLo (U8 a.Half) [18] O .sct ⟨Ua,G⟩ (fun hc=>Gg Jh O O O) O (JLo (.dptr [U8 b.Half]) [] O .sct G (fun hc=>Ga Jo O O O) O (JLo (U8 b.Half) [20] O .sct ⟨Ua,G⟩ (fun hc=>Gg Jh O O O) O ?_)))
 obtain⟨r3,hr3,h⟩:=Ge h
 refine JLo (BL r3) [19,21] O .sct ⟨Ua,Ua,G⟩ (fun hc=>Gn (args:=[U8 a.Half,U8 b.Half]) O (G75 a.Half b.Half r3 (Gx hc hr3)) J46 ⟨O,O,O,O,G⟩) O (JLh (BL (((decide (a.G4=b.G4))&&(decide (b.Tier < a.Tier)))&&r3)) (Hx O O O O) O (Yy (BL (((decide (a.G4=b.G4))&&(decide (b.Tier < a.Tier)))&&r3)) O (G7 (hK2 (Gr (fin1 BL h))))))

def Zb (l:List Stowed) (id_:Int):Option ((List Int)×Int):=
 bnd (Y3 l id_) fun r3=>
 bif decide (r3 < 0) then
 (some ([],6))
 else
 (each (fun y33 i33 (s33:(List Int)) nx33=>
   jp (fun kj36=>
    Qm l r3 fun y38=>
    bnd (Y6 y33.Slot y38.Slot) fun r40=>
    bif r40 then
    (need (decide ((s33.length+[y33.Gh].length)*8≤140737488355328∧s33.length+[y33.Gh].length≤maxLen)) <|
     kj36 (s33++[y33.Gh]))
    else
    (kj36 s33)) fun(j36:(List Int))=>
   nx33 j36)
  (fun(s33:(List Int))=>
   some (s33,0)) l 0 [])
theorem H42 (l:List Stowed) (id_:Int) (r:(List Int)×Int) (h:Zb l id_=some r):Pure Eh 18 [E1 l,G0 id_] (·=.tup [E0 r.1,G0 r.2]):=by
 unfold Zb at h
 refine Gy [.tmp 4,.tmp 5] Tryz.func18 O O (Jr fun hK1=>(JLh (E0 ([]:List Int)) (Hy 1 O O) O (Yy (G0 0) O (G7 (hK1 (Jr fun hK2=>(Yy (E1 l) O (Yy (G0 id_) O ?_))))))))
 obtain⟨r3,hr3,h⟩:=Ge h
 refine JLh (G0 r3) (Gn O (G53 l id_ r3 hr3) He0 ⟨O,O,O,O,G⟩) O (Yy (G0 r3) O (G7 (hK2 (Js fun hK4=>Jr fun hK5=>(Yy (G0 r3) O (JLh (BL (decide (r3 < 0))) (J4 O O O) O (G7 (hK5 (JCc O h (fun h hb=>?_) (fun h hb=>?_))))))))))
 ·
  refine Jr fun hK6=>(JLh (E0 ([]:List Int)) (Hy 1 O O) O (Yy (G0 6) O (G7 (hK6 (Gr (⟨[E0 ([]:List Int),G0 6],[],G,O,⟨⟨_,O,.conv (.same O)⟩,⟨_,O,.conv (.same O)⟩,G⟩,O,congrArg (fun r:(List Int)×Int=>(.tup [E0 r.1,G0 r.2]:AV)) (Option.some.inj h)⟩))))))
 ·
  refine Gp (hK4 (Jr fun hK7=>(JLh (OW 1028 1 G0 ([]:List Int)) (Gb0 1028 3 1 O O O) O (G7 (hK7 (Js fun hK8=>Jr fun hK9=>(Yy (G0 0) O (G7 (hK9 (Gs ?_))))))))))
  obtain⟨b33,kx33,hb33,hkx33,h⟩:=J5 h
  refine Hc (fun i33 (s33:(List Int))=>each b33 kx33 (List.drop i33 l) i33 s33=some r) (fun i33 s33=>[(0,E1 l),(6,G0 r3),(7,OW 1028 1 G0 s33),(8,Eg i33)]) (fun i33 s33=>[(1028,.spare 3 1 s33.length s33.length)]) (fun i33=>l.length - i33) 0 [] h ⟨(by repeat' constructor),⟨⟨_,rfl,.same⟩,G⟩,rfl⟩ ?_
  clear h
  intro i33 s33 hi33 K33 e33
  refine Js fun hK34=>Jr fun hK35=>(Yy (Eg i33) O (Yy (E1 l) O (JLl H0 O O O fun hm16=>(JLh (BL (decide ((i33:Int) < (l.length:Int)))) (J4 O O O) O (G7 (hK35 (Gk O (fun hb=>?_) (fun hb=>?_))))))))
  ·
   have hk33:=Jj hb
   obtain⟨y33,nx33,hy33,hn33,h⟩:=Hq hi33 hk33
   replace h:=Z1 hb33 h
   refine Gp (hK34 ?_)
   obtain⟨kj36,hkj36,h⟩:=Gbf h
   refine G73 (fun j36:(List Int)=>kj36 j36=some r) (fun j36=>[(0,E1 l),(6,G0 r3),(7,OW 1028 1 G0 j36),(8,Eg i33)]) (fun j36=>[(1028,.spare 3 1 j36.length j36.length)]) (fun Kj36 ej36=>?_) ?_
   ·
    refine Gs (Js fun hK37=>G44 (l':=[(0,E1 l),(6,G0 r3),(7,OW 1028 1 G0 s33),(8,Eg i33)]) (L':=[(1028,.spare 3 1 s33.length s33.length)]) ⟨(by repeat' constructor),⟨⟨_,rfl,.same⟩,G⟩,rfl⟩ ?_)
    obtain⟨m39,y38,hm39,hy38,h⟩:=Qx h
    obtain⟨r40,hr40,h⟩:=Ge h
    refine JC_d0 J8 (by kernel_rfl) (Dq (E1 l) (G5 O O) O (Dq (Eg i33) (G5 O O) O (Dq (Eb y33) (Gv (f:=Stowed.av) (xs:=l) (y:=y33) O O O H0 hy33 O) O (Dq (.dptr ((Stowed.cs y33).drop 1)) (Ga Ht O O O) O (Dq (.agg ((Stowed.cs y33).drop 1)) (Gi Q9 O O O) O (Dq (E1 l) (G5 O O) O (Dq (G0 r3) (G5 O O) O (Dq (Eb y38) (Gv (f:=Stowed.av) (xs:=l) (y:=y38) O O O H0 hy38 hm39) O (Dq (.dptr ((Stowed.cs y38).drop 1)) (Ga Ht O O O) O (Dq (.agg ((Stowed.cs y38).drop 1)) (Gi Q9 O O O) O (Dq (BL r40) (Gn (args:=[.agg ((Stowed.cs y33).drop 1),.agg ((Stowed.cs y38).drop 1)]) O (G97 y33.Slot y38.Slot r40 hr40) J90 ⟨O,O,O,O,G⟩) O (Dnil (hK37 ?_)))))))))))))
    refine JCc O h (fun h hb=>?_) (fun h hb=>?_)
    ·
     refine G3 (Yy (OW 1028 1 G0 s33) O (Yy (E1 l) O (Yy (Eg i33) O (JLh (Eb y33) (Gv (f:=Stowed.av) (xs:=l) (y:=y33) O O O H0 hy33 O) O (JLh (Eb y33) (Ga Q5 O O O) O (JLh (G0 y33.Gh) (Gg Gd O O O) O (JLh (E0 [y33.Gh]) (Hn (xs:=[G0 y33.Gh]) O ⟨O,O,G⟩ Gu Y2 O O O O) O ?_)))))))
     obtain⟨ha41,h⟩:=J2 h
     refine JLh (OW 1028 1 G0 (s33++[y33.Gh])) (Rj (f:=G0) (xs:=s33) (ys:=[y33.Gh]) O O O O Gu G18 ha41 (fun _=>O) (.inl O) O) O (Yy (OW 1028 1 G0 (s33++[y33.Gh])) O (G7 (ej36 _ _ (s33++[y33.Gh]) h ⟨(by repeat' constructor),⟨⟨_,rfl,.same⟩,G⟩,rfl⟩)))
    ·
     refine Gp (ej36 _ _ s33 h ⟨(by repeat' constructor),⟨⟨_,rfl,.same⟩,G⟩,rfl⟩)
   ·intro j36 h
    replace h:=app1 hkj36 h
    refine G3 (Yy (Eg i33) O (JLh (G0 ((i33+1:Nat):Int)) (Hs (He hk33 hm16) O O O) O (Yy (G0 ((i33+1:Nat):Int)) O (G7 (e33 _ _ (i33+1) j36 (app1 hn33 h) (by omega) ⟨(by repeat' constructor),⟨⟨_,rfl,.same⟩,G⟩,rfl⟩)))))
  ·
   have h:=app1 hkx33 (Hr hi33 (Ha hb))
   refine Hi (hK8 (Jr fun hK42=>(Yy (OW 1028 1 G0 s33) O (Yy (OW 1028 1 G0 s33) O (Yy (G0 0) O (G7 (hK42 (Gr (⟨[E0 s33,G0 0],[],G,O,⟨⟨_,O,.conv (.list O)⟩,⟨_,O,.conv (.same O)⟩,G⟩,O,congrArg (fun r:(List Int)×Int=>(.tup [E0 r.1,G0 r.2]:AV)) (Option.some.inj h)⟩)))))))))

def R6 (s:H4) (column:Int):Option Int:=
 bif ((decide (column < 0))||(decide ((s.Columns.length:Int)≤column))) then
 (some (-1))
 else
 (each (fun y30 i30 (s30:Unit) nx30=>
   Qm s.Columns column fun y35=>
   bnd (bif decide (y30.Bay=y35.Bay) then Qm s.Columns column some else some default) fun y37=>
   bnd (bif decide (y30.Bay=y35.Bay) then Q4 y30.Rows y37.Row else some default) fun r38=>
   bif ((decide (y30.Bay=y35.Bay))&&r38) then
   (some (i30:Int))
   else
   (nx30 ()))
  (fun(s30:Unit)=>
   some (-1)) s.Covers 0 ())
theorem G5f (s:H4) (column:Int) (r:Int) (h:R6 s column=some r):Pure Eh 88 [.agg (H4.cs s),G0 column] (·=G0 r):=by
 unfold R6 at h
 refine Gy [.tmp 4] Tryz.func88 O O (Jr fun hK1=>(JLh (.ptr 1104 0) (Ji (cs:=(H4.cs s)) 1104 O O O O O) O (Yy (G0 0) O (G7 (hK1 (Gz [(1,G0 column),(2,Ea s)] [] 1104 rfl rfl rfl G rfl (by exact⟨.conv (.same rfl),.ptr,G⟩) (Js fun hK2=>?_)))))))
 refine Jr fun hK3=>(Yy (G0 column) O (JLh (BL (decide (column < 0))) (J4 O O O) O (Yy (BL (decide (column < 0))) O (JLo (G0 column) [] O .scf G (fun hc=>G5 O O) O (JLo (Ea s) [] O .scf G (fun hc=>Ga Hd O O O) O (JLo (E4 s.Columns) [10] O .scf ⟨Ua,G⟩ (fun hc=>Gg Hm O O O) O (JLo (Eg s.Columns.length) [11] O .scf ⟨Ua,G⟩ (fun hc=>Qi (f:=G4.av) (xs:=s.Columns) H5 O O) O (JLo (BL (decide ((s.Columns.length:Int)≤column))) [9,12] O .scf ⟨Ua,Ua,G⟩ (fun hc=>G17 O O O) O (JLh (BL ((decide (column < 0))||(decide ((s.Columns.length:Int)≤column)))) (Yi O O O O) O (G7 (hK3 ?_)))))))))))
 refine JCc O h (fun h hb=>?_) (fun h hb=>?_)
 ·
  refine Jr fun hK4=>(Yy (G0 (-1)) O (G7 (hK4 (Gr (fin1 G0 h)))))
 ·
  refine Gp (hK2 (Js fun hK5=>Jr fun hK6=>(Yy (G0 0) O (G7 (hK6 (Gs ?_))))))
  obtain⟨b30,kx30,hb30,hkx30,h⟩:=J5 h
  refine Hc (fun i30 (s30:Unit)=>each b30 kx30 (List.drop i30 s.Covers) i30 s30=some r) (fun i30 s30=>[(1,G0 column),(2,Ea s),(5,Eg i30)]) (fun i30 s30=>[]) (fun i30=>s.Covers.length - i30) 0 () h ⟨⟨.same O,.same O,.same O,G⟩,G,O⟩ ?_
  clear h
  intro i30 s30 hi30 K30 e30
  refine Js fun hK31=>Jr fun hK32=>(Yy (Eg i30) O (JLh (.dptr [E3 s.Covers,G0 s.Light.Kilos,G0 s.Light.X,G0 s.Light.Y,G0 s.Light.Z,E6 s.Rows,E5 s.Frames,E7 s.Tanks,G0 s.G2.Tolerance,G0 s.G2.Trim,G0 s.G2.List_,G0 s.G2.Stability]) (Ga Je O O O) O (JLh (E3 s.Covers) (Gg Jv O O O) O (JLl Hh O O O fun hm18=>(JLh (BL (decide ((i30:Int) < (s.Covers.length:Int)))) (J4 O O O) O (G7 (hK32 (Gk O (fun hb=>?_) (fun hb=>?_)))))))))
  ·
   have hk30:=Jj hb
   obtain⟨y30,nx30,hy30,hn30,h⟩:=Hq hi30 hk30
   replace h:=Z1 hb30 h
   refine Gp (hK31 (Js fun hK33=>Gs (Js fun hK34=>?_)))
   obtain⟨m36,y35,hm36,hy35,h⟩:=Qx h
   obtain⟨y37,hy37,h⟩:=Ge h
   obtain⟨r38,hr38,h⟩:=Ge h
   refine JC_d0 J8 (by kernel_rfl) (Dq (.dptr [E3 s.Covers,G0 s.Light.Kilos,G0 s.Light.X,G0 s.Light.Y,G0 s.Light.Z,E6 s.Rows,E5 s.Frames,E7 s.Tanks,G0 s.G2.Tolerance,G0 s.G2.Trim,G0 s.G2.List_,G0 s.G2.Stability]) (Ga Je O O O) O (Dq (E3 s.Covers) (Gg Jv O O O) O (Dq (Eg i30) (G5 O O) O (Dq (.dptr [G0 y30.Bay,E0 y30.Rows]) (Gv (f:=Gc.av) (xs:=s.Covers) (y:=y30) O O O Hh hy30 O) O (Dq (.dptr [G0 y30.Bay,E0 y30.Rows]) (Ga Z2 O O O) O (Dq (G0 y30.Bay) (Gg Gd O O O) O (Dq (Ea s) (Ga Hd O O O) O (Dq (E4 s.Columns) (Gg Hm O O O) O (Dq (G0 column) (G5 O O) O (Dq (Ec y35) (Gv (f:=G4.av) (xs:=s.Columns) (y:=y35) O O O H5 hy35 hm36) O (Dq (Ec y35) (Ga Zu O O O) O (Dq (G0 y35.Bay) (Gg Gd O O O) O (Dq (BL (decide (y30.Bay=y35.Bay))) (Jt O O O) O ?_)))))))))))))
   refine Dq (BL (decide (y30.Bay=y35.Bay))) (G5 O O) O (Do (.dptr [E3 s.Covers,G0 s.Light.Kilos,G0 s.Light.X,G0 s.Light.Y,G0 s.Light.Z,E6 s.Rows,E5 s.Frames,E7 s.Tanks,G0 s.G2.Tolerance,G0 s.G2.Trim,G0 s.G2.List_,G0 s.G2.Stability]) [] O .sct G (fun hc=>Ga Je O O O) O (Do (E3 s.Covers) [36] O .sct ⟨Ua,G⟩ (fun hc=>Gg Jv O O O) O (Do (Eg i30) [] O .sct G (fun hc=>G5 O O) O (Do (.dptr [G0 y30.Bay,E0 y30.Rows]) [37,38] O .sct ⟨Ua,Ua,G⟩ (fun hc=>Gv (f:=Gc.av) (xs:=s.Covers) (y:=y30) O O O Hh hy30 O) O (Do (.dptr [E0 y30.Rows]) [39] O .sct ⟨Ua,G⟩ (fun hc=>Ga Jy O O O) O (Do (E0 y30.Rows) [40] O .sct ⟨Ua,G⟩ (fun hc=>Gg Ho O O O) O (Do (Ea s) [] O .sct G (fun hc=>Ga Hd O O O) O (Do (E4 s.Columns) [42] O .sct ⟨Ua,G⟩ (fun hc=>Gg Hm O O O) O (Do (G0 column) [] O .sct G (fun hc=>G5 O O) O (Do (Ec y37) [43,44] O .sct ⟨Ua,Ua,G⟩ (fun hc=>(match Q3 (Gx hc hy37) with | ⟨_,hm_,hy_⟩=>Gv (f:=G4.av) (xs:=s.Columns) (y:=y37) O O O H5 hy_ hm_)) O (Do (.dptr ((G4.cs y37).drop 1)) [45] O .sct ⟨Ua,G⟩ (fun hc=>Ga Zt O O O) O (Do (G0 y37.Row) [46] O .sct ⟨Ua,G⟩ (fun hc=>Gg Gd O O O) O (Do (BL r38) [41,47] O .sct ⟨Ua,Ua,G⟩ (fun hc=>Gn (args:=[E0 y30.Rows,G0 y37.Row]) O (G76 y30.Rows y37.Row r38 (Gx hc hr38)) J47 ⟨O,O,O,O,G⟩) O ?_)))))))))))))
   refine Dq (BL ((decide (y30.Bay=y35.Bay))&&r38)) (Hx O O O O) O (Dnil (hK34 (JCc O h (fun h hb=>?_) (fun h hb=>?_))))
   ·
    refine Jr fun hK39=>(Yy (Eg i30) O (Yy (Eg i30) O (G7 (hK39 (Gr (fin1 G0 h))))))
   ·
    refine Gp (hK33 (G3 (Yy (Eg i30) O (JLh (G0 ((i30+1:Nat):Int)) (Hs (He hk30 hm18) O O O) O (Yy (G0 ((i30+1:Nat):Int)) O (G7 (e30 _ _ (i30+1) () (app1 hn30 h) (by omega) ⟨⟨.same rfl,.same rfl,.same rfl,G⟩,G,rfl⟩)))))))
  ·
   have h:=app1 hkx30 (Hr hi30 (Ha hb))
   refine Hi (hK5 (Jr fun hK40=>(Yy (G0 (-1)) O (G7 (hK40 (Gr (fin1 G0 h)))))))

def Z9 (s:H4) (column:Int):Option Int:=
 Qm s.Columns column fun y4=>
 bif y4.Deck then
 (some (-1))
 else
 (bnd (R6 s column) fun r8=>
  some r8)
theorem H40 (s:H4) (column:Int) (r:Int) (h:Z9 s column=some r):Pure Eh 73 [.agg (H4.cs s),G0 column] (·=G0 r):=by
 unfold Z9 at h
 refine Gy [.tmp 4] Tryz.func73 O O (Jr fun hK1=>(JLh (.ptr 1095 0) (Ji (cs:=(H4.cs s)) 1095 O O O O O) O (Yy (G0 0) O (G7 (hK1 (Gz [(1,G0 column),(2,Ea s)] [] 1095 rfl rfl rfl G rfl (by exact⟨.conv (.same rfl),.ptr,G⟩) (Js fun hK2=>?_)))))))
 refine Jr fun hK3=>(JLh (Ea s) (Ga Hd O O O) O (JLh (E4 s.Columns) (Gg Hm O O O) O (Yy (G0 column) O ?_)))
 obtain⟨m5,y4,hm5,hy4,h⟩:=Qx h
 refine JLh (Ec y4) (Gv (f:=G4.av) (xs:=s.Columns) (y:=y4) O O O H5 hy4 hm5) O (JLh (.dptr ((G4.cs y4).drop 2)) (Ga Z3 O O O) O (JLh (BL y4.Deck) (Gg Ra O O O) O (G7 (hK3 (JCc O h (fun h hb=>?_) (fun h hb=>?_))))))
 ·
  refine Jr fun hK6=>(Yy (G0 (-1)) O (G7 (hK6 (Gr (fin1 G0 h)))))
 ·
  refine Gp (hK2 (Jr fun hK7=>(JLh (.agg (H4.cs s)) (Gi Hu O O O) O (Yy (G0 column) O ?_))))
  obtain⟨r8,hr8,h⟩:=Ge h
  refine JLh (G0 r8) (Gn O (G5f s column r8 hr8) J8c ⟨O,O,O,O,G⟩) O (Yy (G0 r8) O (G7 (hK7 (Gr (fin1 G0 h)))))

def Y5 (s:H4) (column:Int) (cover:Int):Option Bool:=
 Qm s.Columns column fun y3=>
 bnd (bif y3.Deck then R6 s column else some default) fun r5=>
 some (y3.Deck&&(decide (r5=cover)))
theorem H52 (s:H4) (column:Int) (cover:Int) (r:Bool) (h:Y5 s column cover=some r):Pure Eh 74 [.agg (H4.cs s),G0 column,G0 cover] (·=BL r):=by
 unfold Y5 at h
 refine Gy [.tmp 6] Tryz.func74 O O (Jr fun hK1=>(JLh (.ptr 1096 0) (Ji (cs:=(H4.cs s)) 1096 O O O O O) O (Yy (BL false) O (G7 (hK1 (Gz [(1,G0 column),(2,G0 cover),(3,Ea s)] [] 1096 rfl rfl rfl G rfl (by exact⟨.conv (.same rfl),.conv (.same rfl),.ptr,G⟩) ?_))))))
 refine Jr fun hK2=>(JLh (Ea s) (Ga Hd O O O) O (JLh (E4 s.Columns) (Gg Hm O O O) O (Yy (G0 column) O ?_)))
 obtain⟨m4,y3,hm4,hy3,h⟩:=Qx h
 refine JLh (Ec y3) (Gv (f:=G4.av) (xs:=s.Columns) (y:=y3) O O O H5 hy3 hm4) O (JLh (.dptr ((G4.cs y3).drop 2)) (Ga Z3 O O O) O (JLh (BL y3.Deck) (Gg Ra O O O) O (Yy (BL y3.Deck) O (JLo (.agg (H4.cs s)) [] O .sct G (fun hc=>Gi Hu O O O) O (JLo (G0 column) [] O .sct G (fun hc=>G5 O O) O ?_)))))
 obtain⟨r5,hr5,h⟩:=Ge h
 refine JLo (G0 r5) [14,15] O .sct ⟨Ua,Ua,G⟩ (fun hc=>Gn (args:=[.agg (H4.cs s),G0 column]) O (G5f s column r5 (Gx hc hr5)) J8c ⟨O,O,O,O,G⟩) O (JLo (G0 cover) [] O .sct G (fun hc=>G5 O O) O (JLo (BL (decide (r5=cover))) [16,17] O .sct ⟨Ua,Ua,G⟩ (fun hc=>Jt O O O) O (JLh (BL (y3.Deck&&(decide (r5=cover)))) (Hx O O O O) O (Yy (BL (y3.Deck&&(decide (r5=cover)))) O (G7 (hK2 (Gr (fin1 BL h))))))))
end
end Go.Proofs.YtjkmmenifdklmaaGreat
