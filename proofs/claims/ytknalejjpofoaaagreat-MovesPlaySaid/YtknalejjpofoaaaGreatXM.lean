/-
 Models of functions of the program,and that they return what the models say.
-/
import Derived.Test.YtknalejjpofoaaaGreatXMa
set_option maxRecDepth 100000
set_option maxHeartbeats 1000000
set_option linter.unusedVariables false
set_option linter.unusedSimpArgs false
namespace Go.Proofs.YtknalejjpofoaaaGreat
open Go.RowKit
noncomputable section
open XAF
open XCF
open XVF
open XMF

def Gc8 (boxes:List Gd) (calls:Int):Option Bool:=
 bif (((decide (calls < 1))||(decide (20 < calls)))||(decide (2000 < (boxes.length:Int)))) then
 (some false)
 else
 (each (fun y28 i28 (s28:Int) nx28=>
   bif ((((((decide (y28.ID≤s28))||(decide (999999 < y28.ID)))||((decide (y28.Size≠40))&&((decide (y28.Size≠20))||y28.High)))||(decide (y28.Load < 0)))||(decide (y28.Discharge≤y28.Load)))||(decide (calls≤y28.Discharge))) then
   (some false)
   else
   (nx28 y28.ID))
  (fun(s28:Int)=>
   some true) boxes 0 0)
theorem Q36 (boxes:List Gd) (calls:Int) (r:Bool) (h:Gc8 boxes calls=some r):Pure Ep 30 [E3 boxes,G0 calls] (·=BL r):=by
 unfold Gc8 at h
 refine Gz [.tmp 4] Tryz.func30 O O (Jr fun hK1=>(Yb (BL false) O (G7 (hK1 (Js fun hK2=>?_)))))
 refine Jr fun hK3=>(Yb (G0 calls) O (JLh (BL (decide (calls < 1))) (J0 O O O) O (Yb (BL (decide (calls < 1))) O (JLo (G0 calls) [] O .scf ø (fun hc=>G6 O O) O (JLo (BL (decide (20 < calls))) [11] O .scf ⟨Ua,ø⟩ (fun hc=>G43 O O O) O (JLh (BL ((decide (calls < 1))||(decide (20 < calls)))) (G0b O O O O) O (Yb (BL ((decide (calls < 1))||(decide (20 < calls)))) O (JLo (E3 boxes) [] O .scf ø (fun hc=>G6 O O) O (JLo (Eo boxes.length) [15] O .scf ⟨Ua,ø⟩ (fun hc=>Yv (f:=Gd.av) (xs:=boxes) Q4 O O) O (JLo (BL (decide (2000 < (boxes.length:Int)))) [16] O .scf ⟨Ua,ø⟩ (fun hc=>G43 O O O) O (JLh (BL (((decide (calls < 1))||(decide (20 < calls)))||(decide (2000 < (boxes.length:Int))))) (G0b O O O O) O (G7 (hK3 (JCc O h (fun h hb=>?_) (fun h hb=>?_)))))))))))))))
 ·
  refine Jr fun hK4=>(Yb (BL false) O (G7 (hK4 (Gs (fin1 BL h)))))
 ·
  refine Gi (hK2 (Jr fun hK5=>(Yb (G0 0) O (G7 (hK5 (Js fun hK6=>Jr fun hK7=>(Yb (E3 boxes) O (JLl Q4 O O O fun hm20=>(Yb (G0 0) O (G7 (hK7 (Gj ?_))))))))))))
  obtain⟨b28,kx28,hb28,hkx28,h⟩:=J2 h
  refine Hb (fun i28 (s28:Int)=>each b28 kx28 (List.drop i28 boxes) i28 s28=some r) (fun i28 s28=>[(1,G0 calls),(5,G0 s28),(19,E3 boxes),(20,Eo boxes.length),(21,Eo i28)]) (fun i28 s28=>[]) (fun i28=>boxes.length - i28) 0 0 h ⟨(.sm O O),ø,rfl⟩ ?_
  clear h
  intro i28 s28 hi28 K28 e28
  refine Jr fun hK29=>(JLh (BL (decide ((i28:Int) < (boxes.length:Int)))) (J0 O O O) O (G7 (hK29 (Js fun hK30=>Gf O (fun hb=>?_) (fun hb=>?_)))))
  ·
   have hk28:=Jk hb
   obtain⟨y28,nx28,hy28,hn28,h⟩:=Hs hi28 hk28
   replace h:=Y4 hb28 h
   refine Gi (hK30 (Js fun hK31=>Gj (Jr fun hK32=>(JLh (Eh y28) (H3 (f:=Gd.av) (xs:=boxes) (y:=y28) O O O Q4 hy28 O) O (JLh (.agg (Gd.cs y28)) (Gg G08 O O O) O (JLh (.ptr 1090 0) (Hx 1090 9 Rz O O) O (Hw (u:=.junk) (Hd (u:=.agg (Gd.cs y28)) (ds:=(Gd.cs y28)) Zo O O O O O O O O) (G7 (hK32 (Gq [(1,G0 calls),(5,G0 s28),(7,Eh y28),(19,E3 boxes),(20,Eo boxes.length),(21,Eo i28)] [] 1090 rfl rfl rfl ø rfl (by repeat' (first | exact .ptr | constructor)) (Js fun hK33=>?_)))))))))))
   refine Jr fun hK34=>(JLh (Eh y28) (Ga Qf O O O) O (JLh (G0 y28.ID) (Gh Gb O O O) O (Yb (G0 s28) O (JLh (BL (decide (y28.ID≤s28))) (H4a O O O) O (Yb (BL (decide (y28.ID≤s28))) O (JLo (Eh y28) [] O .scf ø (fun hc=>Ga Qf O O O) O (JLo (G0 y28.ID) [30] O .scf ⟨Ua,ø⟩ (fun hc=>Gh Gb O O O) O (JLo (BL (decide (999999 < y28.ID))) [31] O .scf ⟨Ua,ø⟩ (fun hc=>G43 O O O) O (JLh (BL ((decide (y28.ID≤s28))||(decide (999999 < y28.ID)))) (G0b O O O O) O (Yb (BL ((decide (y28.ID≤s28))||(decide (999999 < y28.ID)))) O (JLo (.dptr ((Gd.cs y28).drop 2)) [] O .scf ø (fun hc=>Ga G03 O O O) O (JLo (U8 y28.Size) [35] O .scf ⟨Ua,ø⟩ (fun hc=>Gh Hz O O O) O (JLo (BL (decide (y28.Size≠40))) [36] O .scf ⟨Ua,ø⟩ (fun hc=>G71 O O O) O ?_)))))))))))))
   refine JLo (BL (decide (y28.Size≠40))) [37] O .scf ⟨Ua,ø⟩ (fun hc=>G6 O O) O (JLo (.dptr ((Gd.cs y28).drop 2)) [] O .optt ø (fun hc=>Ga G03 O O O) O (JLo (U8 y28.Size) [39] O .optt ⟨Ua,ø⟩ (fun hc=>Gh Hz O O O) O (JLo (BL (decide (y28.Size≠20))) [40] O .optt ⟨Ua,ø⟩ (fun hc=>G71 O O O) O (JLo (BL (decide (y28.Size≠20))) [41] O .optt ⟨Ua,ø⟩ (fun hc=>G6 O O) O (JLo (.dptr ((Gd.cs y28).drop 3)) [] O .optf ø (fun hc=>Ga H6b O O O) O (JLo (BL y28.High) [43] O .optf ⟨Ua,ø⟩ (fun hc=>Gh Qm O O O) O (Gc (u:=BL ((decide (y28.Size≠20))||y28.High)) [(42,BL (decide (y28.Size≠20))),(44,_)] O O O .optt ⟨.all id,.part,ø⟩ (fun hc=>G0b O O O O) ?_)))))))
   refine Gc (u:=BL ((decide (y28.Size≠40))&&((decide (y28.Size≠20))||y28.High))) [(38,BL (decide (y28.Size≠40))),(45,_)] O O O .scf ⟨.all id,.part,ø⟩ (fun hc=>Qr O O O O) ?_
   refine JLh (BL (((decide (y28.ID≤s28))||(decide (999999 < y28.ID)))||((decide (y28.Size≠40))&&((decide (y28.Size≠20))||y28.High)))) (G0b O O O O) O (Yb (BL (((decide (y28.ID≤s28))||(decide (999999 < y28.ID)))||((decide (y28.Size≠40))&&((decide (y28.Size≠20))||y28.High)))) O (JLo (.dptr ((Gd.cs y28).drop 5)) [] O .scf ø (fun hc=>Ga G02 O O O) O (JLo (G0 y28.Load) [49] O .scf ⟨Ua,ø⟩ (fun hc=>Gh Gb O O O) O (JLo (BL (decide (y28.Load < 0))) [50] O .scf ⟨Ua,ø⟩ (fun hc=>J0 O O O) O (JLh (BL ((((decide (y28.ID≤s28))||(decide (999999 < y28.ID)))||((decide (y28.Size≠40))&&((decide (y28.Size≠20))||y28.High)))||(decide (y28.Load < 0)))) (G0b O O O O) O (Yb (BL ((((decide (y28.ID≤s28))||(decide (999999 < y28.ID)))||((decide (y28.Size≠40))&&((decide (y28.Size≠20))||y28.High)))||(decide (y28.Load < 0)))) O (JLo (.dptr ((Gd.cs y28).drop 5)) [] O .scf ø (fun hc=>Ga G02 O O O) O (JLo (G0 y28.Load) [54] O .scf ⟨Ua,ø⟩ (fun hc=>Gh Gb O O O) O (JLo (.dptr ((Gd.cs y28).drop 6)) [] O .scf ø (fun hc=>Ga G27 O O O) O (JLo (G0 y28.Discharge) [56] O .scf ⟨Ua,ø⟩ (fun hc=>Gh Gb O O O) O (JLo (BL (decide (y28.Discharge≤y28.Load))) [55,57] O .scf ⟨Ua,Ua,ø⟩ (fun hc=>G2f O O O) O (JLh (BL (((((decide (y28.ID≤s28))||(decide (999999 < y28.ID)))||((decide (y28.Size≠40))&&((decide (y28.Size≠20))||y28.High)))||(decide (y28.Load < 0)))||(decide (y28.Discharge≤y28.Load)))) (G0b O O O O) O (Yb (BL (((((decide (y28.ID≤s28))||(decide (999999 < y28.ID)))||((decide (y28.Size≠40))&&((decide (y28.Size≠20))||y28.High)))||(decide (y28.Load < 0)))||(decide (y28.Discharge≤y28.Load)))) O ?_)))))))))))))
   refine JLo (.dptr ((Gd.cs y28).drop 6)) [] O .scf ø (fun hc=>Ga G27 O O O) O (JLo (G0 y28.Discharge) [61] O .scf ⟨Ua,ø⟩ (fun hc=>Gh Gb O O O) O (JLo (G0 calls) [] O .scf ø (fun hc=>G6 O O) O (JLo (BL (decide (calls≤y28.Discharge))) [62,63] O .scf ⟨Ua,Ua,ø⟩ (fun hc=>G2f O O O) O (JLh (BL ((((((decide (y28.ID≤s28))||(decide (999999 < y28.ID)))||((decide (y28.Size≠40))&&((decide (y28.Size≠20))||y28.High)))||(decide (y28.Load < 0)))||(decide (y28.Discharge≤y28.Load)))||(decide (calls≤y28.Discharge)))) (G0b O O O O) O (G7 (hK34 (JCc O h (fun h hb=>?_) (fun h hb=>?_))))))))
   ·
    refine Jr fun hK35=>(Yb (BL false) O (G7 (hK35 (Gs (fin1 BL h)))))
   ·
    refine Gi (hK33 (G3 (JLh (Eh y28) (Ga Qf O O O) O (JLh (G0 y28.ID) (Gh Gb O O O) O (Yb (G0 y28.ID) O (G7 (hK31 (G3 (JLh (G0 ((i28+1:Nat):Int)) (Hu (Hj hk28 hm20) O O O) O (Yb (G0 ((i28+1:Nat):Int)) O (G7 (e28 _ _ (i28+1) y28.ID (app1 hn28 h) (by omega) ⟨(.sm O O),ø,rfl⟩))))))))))))
  ·
   have h:=app1 hkx28 (Ht hi28 (Ha hb))
   refine Hm (hK6 (Jr fun hK36=>(Yb (BL true) O (G7 (hK36 (Gs (fin1 BL h)))))))

def G93 (boxes:List Gd) (call:Int):Option (List Int):=
 each (fun y19 i19 (s19:(List Int)) nx19=>
  jp (fun kj22=>
   bif ((decide (y19.Load≤call))&&(decide (call < y19.Discharge))) then
   (need (decide ((s19.length+[y19.ID].length)*8≤140737488355328∧s19.length+[y19.ID].length≤maxLen)) <|
    kj22 (s19++[y19.ID]))
   else
   (kj22 s19)) fun(j22:(List Int))=>
  nx19 j22)
 (fun(s19:(List Int))=>
  some s19) boxes 0 []
theorem Jc6 (boxes:List Gd) (call:Int) (r:(List Int)) (h:G93 boxes call=some r):Pure Ep 32 [E3 boxes,G0 call] (·=E2 r):=by
 unfold G93 at h
 refine Gz [.tmp 4] Tryz.func32 O O (Jr fun hK1=>(JLh (E2 ([]:List Int)) (Hf 1 O O) O (G7 (hK1 (Jr fun hK2=>(JLh (OW 1092 1 G0 ([]:List Int)) (G24 1092 3 1 O O O) O (G7 (hK2 (Js fun hK3=>Jr fun hK4=>(Yb (E3 boxes) O (JLl Q4 O O O fun hm9=>(Yb (G0 0) O (G7 (hK4 (Gj ?_)))))))))))))))
 obtain⟨b19,kx19,hb19,hkx19,h⟩:=J2 h
 refine Hb (fun i19 (s19:(List Int))=>each b19 kx19 (List.drop i19 boxes) i19 s19=some r) (fun i19 s19=>[(1,G0 call),(5,OW 1092 1 G0 s19),(8,E3 boxes),(9,Eo boxes.length),(10,Eo i19)]) (fun i19 s19=>[(1092,.spare 3 1 s19.length s19.length)]) (fun i19=>boxes.length - i19) 0 [] h ⟨(.sm O O),⟨⟨_,rfl,.same⟩,ø⟩,rfl⟩ ?_
 clear h
 intro i19 s19 hi19 K19 e19
 refine Jr fun hK20=>(JLh (BL (decide ((i19:Int) < (boxes.length:Int)))) (J0 O O O) O (G7 (hK20 (Js fun hK21=>Gf O (fun hb=>?_) (fun hb=>?_)))))
 ·
  have hk19:=Jk hb
  obtain⟨y19,nx19,hy19,hn19,h⟩:=Hs hi19 hk19
  replace h:=Y4 hb19 h
  refine Gi (hK21 ?_)
  obtain⟨kj22,hkj22,h⟩:=Qo h
  refine Jx (fun j22:(List Int)=>kj22 j22=some r) (fun j22=>[(1,G0 call),(5,OW 1092 1 G0 j22),(8,E3 boxes),(9,Eo boxes.length),(10,Eo i19)]) (fun j22=>[(1092,.spare 3 1 j22.length j22.length)]) (fun Kj22 ej22=>?_) ?_
  ·
   refine Gj (Jr fun hK23=>(JLh (Eh y19) (H3 (f:=Gd.av) (xs:=boxes) (y:=y19) O O O Q4 hy19 O) O (JLh (.agg (Gd.cs y19)) (Gg G08 O O O) O (JLh (.ptr 1093 0) (Hx 1093 9 Rz O O) O (Hw (u:=.junk) (Hd (u:=.agg (Gd.cs y19)) (ds:=(Gd.cs y19)) Zo O O O O O O O O) (G7 (hK23 (Gq [(1,G0 call),(5,OW 1092 1 G0 s19),(7,Eh y19),(8,E3 boxes),(9,Eo boxes.length),(10,Eo i19)] [(1092,.spare 3 1 s19.length s19.length)] 1093 rfl rfl rfl ⟨⟨_,rfl,.same⟩,ø⟩ rfl (by repeat' (first | exact .ptr | constructor)) ?_))))))))
   refine Jr fun hK24=>(JLh (.dptr ((Gd.cs y19).drop 5)) (Ga G02 O O O) O (JLh (G0 y19.Load) (Gh Gb O O O) O (Yb (G0 call) O (JLh (BL (decide (y19.Load≤call))) (H4a O O O) O (Yb (BL (decide (y19.Load≤call))) O (JLo (G0 call) [] O .sct ø (fun hc=>G6 O O) O (JLo (.dptr ((Gd.cs y19).drop 6)) [] O .sct ø (fun hc=>Ga G27 O O O) O (JLo (G0 y19.Discharge) [20] O .sct ⟨Ua,ø⟩ (fun hc=>Gh Gb O O O) O (JLo (BL (decide (call < y19.Discharge))) [19,21] O .sct ⟨Ua,Ua,ø⟩ (fun hc=>J0 O O O) O (JLh (BL ((decide (y19.Load≤call))&&(decide (call < y19.Discharge)))) (Qr O O O O) O (G7 (hK24 (JCc O h (fun h hb=>?_) (fun h hb=>?_))))))))))))))
   ·
    refine G3 (Yb (OW 1092 1 G0 s19) O (JLh (Eh y19) (Ga Qf O O O) O (JLh (G0 y19.ID) (Gh Gb O O O) O (JLh (E2 [y19.ID]) (H6 (xs:=[G0 y19.ID]) O ⟨O,O,ø⟩ Gt Qn O O O O) O ?_))))
    obtain⟨ha25,h⟩:=Jd h
    refine JLh (OW 1092 1 G0 (s19++[y19.ID])) (Qk (f:=G0) (xs:=s19) (ys:=[y19.ID]) O O O O Gt Yy ha25 (fun _=>O) (.inl O) O) O (Yb (OW 1092 1 G0 (s19++[y19.ID])) O (G7 (ej22 _ _ (s19++[y19.ID]) h ⟨(.sm O O),⟨⟨_,rfl,.same⟩,ø⟩,rfl⟩)))
   ·
    refine Gi (ej22 _ _ s19 h ⟨(.sm O O),⟨⟨_,rfl,.same⟩,ø⟩,rfl⟩)
  ·intro j22 h
   replace h:=app1 hkj22 h
   refine G3 (JLh (G0 ((i19+1:Nat):Int)) (Hu (Hj hk19 hm9) O O O) O (Yb (G0 ((i19+1:Nat):Int)) O (G7 (e19 _ _ (i19+1) j22 (app1 hn19 h) (by omega) ⟨(.sm O O),⟨⟨_,rfl,.same⟩,ø⟩,rfl⟩))))
 ·
  have h:=app1 hkx19 (Ht hi19 (Ha hb))
  refine Hm (hK3 (Jr fun hK26=>(Yb (OW 1092 1 G0 s19) O (Yb (OW 1092 1 G0 s19) O (G7 (hK26 (Gs (fin1l (fun r:(List Int)=>(E2 r:AV)) h))))))))

def Ym (s1_:List Stowed) (s2_:List Int) (eq:Stowed→Int→Option Bool):Option Bool:=
 bif decide ((s1_.length:Int)≠(s2_.length:Int)) then
 (some false)
 else
 (each (fun y29 i29 (s29:Unit) nx29=>
   Q9 s2_ (i29:Int) fun y35=>
   bnd (eq y29 y35) fun r38=>
   bif (!r38) then
   (some false)
   else
   (nx29 ()))
  (fun(s29:Unit)=>
   some true) s1_ 0 ())
theorem H75 (s1_:List Stowed) (s2_:List Int) (eq:Stowed→Int→Option Bool) (eq_f:FuncId) (eq_c:List AV) (eq_B:H5 Ep eq_f=true) (eq_d:R0 (fun _=>false) eq_c=true) (eq_w:∀ a0 a1 q,eq a0 a1=some q→Pure Ep eq_f ([.agg (Stowed.cs a0),G0 a1]++eq_c) (·=BL q)) (r:Bool) (h:Ym s1_ s2_ eq=some r):Pure Ep 31 [E1 s1_,E2 s2_,.fn eq_f eq_c] (·=BL r):=by
 unfold Ym at h
 refine Gz [.tmp 6] Tryz.func31 O O (Jr fun hK1=>(Yb (BL false) O (G7 (hK1 (Js fun hK2=>Jr fun hK3=>(Yb (E1 s1_) O (JLl Gy O O O fun hm11=>(Yb (E2 s2_) O (JLl Gt O O O fun hm13=>(JLh (BL (decide ((s1_.length:Int)≠(s2_.length:Int)))) (G71 O O O) O (G7 (hK3 (JCc O h (fun h hb=>?_) (fun h hb=>?_))))))))))))))
 ·
  refine Jr fun hK4=>(Yb (BL false) O (G7 (hK4 (Gs (fin1 BL h)))))
 ·
  refine Gi (hK2 (Js fun hK5=>Jr fun hK6=>(Yb (E1 s1_) O (JLl Gy O O O fun hm16=>(Yb (G0 0) O (G7 (hK6 (Gj ?_))))))))
  obtain⟨b29,kx29,hb29,hkx29,h⟩:=J2 h
  refine Hb (fun i29 (s29:Unit)=>each b29 kx29 (List.drop i29 s1_) i29 s29=some r) (fun i29 s29=>[(1,E2 s2_),(2,.fn eq_f eq_c),(15,E1 s1_),(16,Eo s1_.length),(17,Eo i29)]) (fun i29 s29=>[]) (fun i29=>s1_.length - i29) 0 () h ⟨⟨.same O,.same (He _ _ eq_d),.same O,.same O,.same O,ø⟩,ø,O⟩ ?_
  clear h
  intro i29 s29 hi29 K29 e29
  refine Jr fun hK30=>(JLh (BL (decide ((i29:Int) < (s1_.length:Int)))) (J0 O O O) O (G7 (hK30 (Js fun hK31=>Gf O (fun hb=>?_) (fun hb=>?_)))))
  ·
   have hk29:=Jk hb
   obtain⟨y29,nx29,hy29,hn29,h⟩:=Hs hi29 hk29
   replace h:=Y4 hb29 h
   refine Gi (hK31 (Js fun hK32=>Gj (Jr fun hK33=>(Yb (Eo i29) O (JLh (Eg y29) (H3 (f:=Stowed.av) (xs:=s1_) (y:=y29) O O O Gy hy29 O) O (JLh (.agg (Stowed.cs y29)) (Gg Jg O O O) O (JLh (.ptr 1091 0) (Hx 1091 4 Jo O O) O (Yb (Eo i29) O (Hw (u:=.junk) (Hd (u:=.agg (Stowed.cs y29)) (ds:=[G0 y29.Gd,G0 y29.Slot.G4,G0 y29.Slot.Tier,U8 y29.Slot.Half]) Qh O O O O O O O O) (G7 (hK33 ?_)))))))))))
   refine Gq [(1,E2 s2_),(2,.fn eq_f eq_c),(7,Eo i29),(8,Eg y29),(15,E1 s1_),(16,Eo s1_.length),(17,Eo i29)] [] 1091 rfl rfl rfl ø rfl (by exact⟨.conv (.same rfl),.conv (.same (He _ _ eq_d)),.conv (.same rfl),.ptr,.conv (.same rfl),.conv (.same rfl),.conv (.same rfl),ø⟩) (Jr fun hK34=>(Yb (E2 s2_) O (Yb (Eo i29) O ?_)))
   obtain⟨m36,y35,hm36,hy35,h⟩:=Y0 h
   refine JLh (.dptr [G0 y35]) (H3 (f:=G0) (xs:=s2_) (y:=y35) O O O Gt hy35 hm36) O (JLh (G0 y35) (Gh Gb O O O) O (Yb (G0 y35) O (G7 (hK34 (Jr fun hK37=>(Yb (.fn eq_f eq_c) O (JLh (.agg (Stowed.cs y29)) (Gg Jg O O O) O (Yb (G0 y35) O ?_))))))))
   obtain⟨r38,hr38,h⟩:=Ge h
   refine JLh (BL r38) (G25 (args:=[.agg (Stowed.cs y29),G0 y35]) (caps:=eq_c) O O (eq_w y29 y35 _ hr38) eq_B ⟨O,O,O,O,ø⟩ eq_d) O (JLh (BL (!r38)) (Rv (b:=r38) O O) O (G7 (hK37 (JCc O h (fun h hb=>?_) (fun h hb=>?_)))))
   ·
    refine Jr fun hK39=>(Yb (BL false) O (G7 (hK39 (Gs (fin1 BL h)))))
   ·
    refine Gi (hK32 (G3 (JLh (G0 ((i29+1:Nat):Int)) (Hu (Hj hk29 hm16) O O O) O (Yb (G0 ((i29+1:Nat):Int)) O (G7 (e29 _ _ (i29+1) () (app1 hn29 h) (by omega) ⟨⟨.same rfl,.same (He _ _ eq_d),.same rfl,.same rfl,.same rfl,ø⟩,ø,rfl⟩))))))
  ·
   have h:=app1 hkx29 (Ht hi29 (Ha hb))
   refine Hm (hK5 (Jr fun hK40=>(Yb (BL true) O (G7 (hK40 (Gs (fin1 BL h)))))))

def G11 (x:Stowed) (id_:Int):Option Bool:=
 some (decide (x.Gd=id_))
theorem J87 (x:Stowed) (id_:Int) (r:Bool) (h:G11 x id_=some r):Pure Ep 33 [.agg (Stowed.cs x),G0 id_] (·=BL r):=by
 unfold G11 at h
 refine Gz [.tmp 4] Tryz.func33 O O (Jr fun hK1=>(JLh (.ptr 1094 0) (Jm (cs:=[G0 x.Gd,G0 x.Slot.G4,G0 x.Slot.Tier,U8 x.Slot.Half]) 1094 O O O O O) O (Yb (BL false) O (G7 (hK1 (Gq [(1,G0 id_),(2,Eg x)] [] 1094 rfl rfl rfl ø rfl (by exact⟨.conv (.same rfl),.ptr,ø⟩) (Jr fun hK2=>(JLh (Eg x) (Ga J5 O O O) O (JLh (G0 x.Gd) (Gh Gb O O O) O (Yb (G0 id_) O (JLh (BL (decide (x.Gd=id_))) (Jz O O O) O (Yb (BL (decide (x.Gd=id_))) O (G7 (hK2 (Gs (fin1 BL h))))))))))))))))

def Gc7 (s:Gw) (boxes:List Gd) (calls:Int) (p:H4e):Option (Int×Int):=
 bnd (Z7 s) fun r4=>
 bif (!r4) then
 (some (0,2))
 else
 (bnd (Gc8 boxes calls) fun r7=>
  bif (!r7) then
  (some (0,230))
  else
  (bif decide ((p.States.length:Int)≠calls) then
   (some (0,231))
   else
   (each (fun y45 i45 (s45:Unit) nx45=>
     bnd (Re s boxes y45) fun r52=>
     bif (!r52) then
     (some ((i45:Int),232))
     else
     (bnd (G93 boxes (i45:Int)) fun r55=>
      bnd (Ym y45 r55 (fun z0 z1=>G11 z0 z1)) fun r56=>
      bif (!r56) then
      (some ((i45:Int),233))
      else
      (nx45 ())))
    (fun(s45:Unit)=>
     some (0,0)) p.States 0 ())))
theorem Q35 (s:Gw) (boxes:List Gd) (calls:Int) (p:H4e) (r:Int×Int) (h:Gc7 s boxes calls p=some r):Pure Ep 12 [.agg (Gw.cs s),E3 boxes,G0 calls,.agg [LS 1 (E1) p.States,LS 1 (E2) p.Water]] (·=.tup [G0 r.1,G0 r.2]):=by
 unfold Gc7 at h
 refine Gz [.tmp 8,.tmp 9] Tryz.func12 O O (Jr fun hK1=>(JLh (.ptr 1048 0) (Jm (cs:=(Gw.cs s)) 1048 O O O O O) O (JLh (.ptr 1049 0) (Jm (cs:=[LS 1 (E1) p.States,LS 1 (E2) p.Water]) 1049 O O O O O) O (Yb (G0 0) O (Yb (G0 0) O (G7 (hK1 ?_)))))))
 refine Gq [(1,E3 boxes),(2,G0 calls),(4,Ef s),(7,.ptr 1049 0)] [(1049,.box 41 [LS 1 (E1) p.States,LS 1 (E2) p.Water])] 1048 rfl rfl rfl ⟨⟨_,rfl,.boxEq rfl rfl⟩,ø⟩ rfl (by repeat' (first | exact .ptr | constructor)) ?_
 refine Gq [(1,E3 boxes),(2,G0 calls),(4,Ef s),(7,.dptr [LS 1 (E1) p.States,LS 1 (E2) p.Water])] [] 1049 rfl rfl rfl ø rfl (by repeat' (first | exact .ptr | constructor)) (Js fun hK2=>Gj (Jr fun hK3=>(JLh (.agg (Gw.cs s)) (Gg Ho O O O) O ?_)))
 obtain⟨r4,hr4,h⟩:=Ge h
 refine JLh (BL r4) (Gv O (H41.down s r4 hr4) J27 ⟨O,O,ø⟩) O (JLh (BL (!r4)) (Rv (b:=r4) O O) O (Yb (BL (!r4)) O (G7 (hK3 (JCc O h (fun h hb=>?_) (fun h hb=>?_))))))
 ·
  refine Jr fun hK5=>(Yb (G0 0) O (Yb (G0 2) O (G7 (hK5 (Gs (⟨[G0 0,G0 2],[],ø,O,⟨⟨_,O,.conv (.same O)⟩,⟨_,O,.conv (.same O)⟩,ø⟩,O,congrArg (fun r:Int×Int=>(.tup [G0 r.1,G0 r.2]:AV)) (Option.some.inj h)⟩))))))
 ·
  refine Jr fun hK6=>(Yb (E3 boxes) O (Yb (G0 calls) O ?_))
  obtain⟨r7,hr7,h⟩:=Ge h
  refine JLh (BL r7) (Gv O (Q36 boxes calls r7 hr7) Qd3 ⟨O,O,O,O,ø⟩) O (JLh (BL (!r7)) (Rv (b:=r7) O O) O (Yb (BL (!r7)) O (G7 (hK6 (JCc O h (fun h hb=>?_) (fun h hb=>?_))))))
  ·
   refine Jr fun hK8=>(Yb (G0 0) O (Yb (G0 230) O (G7 (hK8 (Gs (⟨[G0 0,G0 230],[],ø,O,⟨⟨_,O,.conv (.same O)⟩,⟨_,O,.conv (.same O)⟩,ø⟩,O,congrArg (fun r:Int×Int=>(.tup [G0 r.1,G0 r.2]:AV)) (Option.some.inj h)⟩))))))
  ·
   refine Jr fun hK9=>(JLh (.dptr [LS 1 (E1) p.States,LS 1 (E2) p.Water]) (Ga G28 O O O) O (JLh (LS 1 (E1) p.States) (Gh Zy O O O) O (JLl Qd O O O fun hm24=>(Yb (G0 calls) O (JLh (BL (decide ((p.States.length:Int)≠calls))) (G71 O O O) O (Yb (BL (decide ((p.States.length:Int)≠calls))) O (G7 (hK9 (JCc O h (fun h hb=>?_) (fun h hb=>?_))))))))))
   ·
    refine Jr fun hK10=>(Yb (G0 0) O (Yb (G0 231) O (G7 (hK10 (Gs (⟨[G0 0,G0 231],[],ø,O,⟨⟨_,O,.conv (.same O)⟩,⟨_,O,.conv (.same O)⟩,ø⟩,O,congrArg (fun r:Int×Int=>(.tup [G0 r.1,G0 r.2]:AV)) (Option.some.inj h)⟩))))))
   ·
    refine Gi (hK2 (Js fun hK11=>Jr fun hK12=>(JLh (.dptr [LS 1 (E1) p.States,LS 1 (E2) p.Water]) (Ga G28 O O O) O (JLh (LS 1 (E1) p.States) (Gh Zy O O O) O (JLl Qd O O O fun hm29=>(Yb (G0 0) O (G7 (hK12 (Gj ?_)))))))))
    obtain⟨b45,kx45,hb45,hkx45,h⟩:=J2 h
    refine Hb (fun i45 (s45:Unit)=>each b45 kx45 (List.drop i45 p.States) i45 s45=some r) (fun i45 s45=>[(1,E3 boxes),(4,Ef s),(28,LS 1 (E1) p.States),(29,Eo p.States.length),(30,Eo i45)]) (fun i45 s45=>[]) (fun i45=>p.States.length - i45) 0 () h ⟨(.sm O O),ø,rfl⟩ ?_
    clear h
    intro i45 s45 hi45 K45 e45
    refine Jr fun hK46=>(JLh (BL (decide ((i45:Int) < (p.States.length:Int)))) (J0 O O O) O (G7 (hK46 (Js fun hK47=>Gf O (fun hb=>?_) (fun hb=>?_)))))
    ·
     have hk45:=Jk hb
     obtain⟨y45,nx45,hy45,hn45,h⟩:=Hs hi45 hk45
     replace h:=Y4 hb45 h
     refine Gi (hK47 (Js fun hK48=>Gj (Jr fun hK49=>(Yb (Eo i45) O (JLh (.dptr [E1 y45]) (H3 (f:=(E1)) (xs:=p.States) (y:=y45) O O O Qd hy45 O) O (JLh (E1 y45) (Gh Rw O O O) O (Yb (Eo i45) O (Yb (E1 y45) O (G7 (hK49 (Js fun hK50=>Jr fun hK51=>(JLh (.agg (Gw.cs s)) (Gg Ho O O O) O (Yb (E3 boxes) O (Yb (E1 y45) O ?_))))))))))))))
     obtain⟨r52,hr52,h⟩:=Ge h
     refine JLh (BL r52) (Gv O (G35 s boxes y45 r52 hr52) Gd6 ⟨O,O,O,O,O,O,ø⟩) O (JLh (BL (!r52)) (Rv (b:=r52) O O) O (G7 (hK51 (JCc O h (fun h hb=>?_) (fun h hb=>?_)))))
     ·
      refine Jr fun hK53=>(Yb (Eo i45) O (Yb (Eo i45) O (Yb (G0 232) O (G7 (hK53 (Gs (⟨[Eo i45,G0 232],[],ø,O,⟨⟨_,O,.conv (.same O)⟩,⟨_,O,.conv (.same O)⟩,ø⟩,O,congrArg (fun r:Int×Int=>(.tup [G0 r.1,G0 r.2]:AV)) (Option.some.inj h)⟩)))))))
     ·
      refine Gi (hK50 (Jr fun hK54=>(Yb (E1 y45) O (Yb (E3 boxes) O (Yb (Eo i45) O ?_)))))
      obtain⟨r55,hr55,h⟩:=Ge h
      refine JLh (E2 r55) (Gv O (Jc6 boxes (i45:Int) r55 hr55) Qd1 ⟨O,O,O,O,ø⟩) O ?_
      obtain⟨r56,hr56,h⟩:=Ge h
      refine JLh (BL r56) (Gv O (H75 y45 r55 (fun z0 z1=>G11 z0 z1) 33 [] Qd0 O (fun z0 z1 q hq=>J87 z0 z1 q hq) r56 hr56) Qd2 ⟨O,O,O,O,O,O,ø⟩) O (JLh (BL (!r56)) (Rv (b:=r56) O O) O (G7 (hK54 (JCc O h (fun h hb=>?_) (fun h hb=>?_)))))
      ·
       refine Jr fun hK57=>(Yb (Eo i45) O (Yb (Eo i45) O (Yb (G0 233) O (G7 (hK57 (Gs (⟨[Eo i45,G0 233],[],ø,O,⟨⟨_,O,.conv (.same O)⟩,⟨_,O,.conv (.same O)⟩,ø⟩,O,congrArg (fun r:Int×Int=>(.tup [G0 r.1,G0 r.2]:AV)) (Option.some.inj h)⟩)))))))
      ·
       refine Gi (hK48 (G3 (JLh (G0 ((i45+1:Nat):Int)) (Hu (Hj hk45 hm29) O O O) O (Yb (G0 ((i45+1:Nat):Int)) O (G7 (e45 _ _ (i45+1) () (app1 hn45 h) (by omega) ⟨(.sm O O),ø,rfl⟩))))))
    ·
     have h:=app1 hkx45 (Ht hi45 (Ha hb))
     refine Hm (hK11 (Jr fun hK58=>(Yb (G0 0) O (Yb (G0 0) O (G7 (hK58 (Gs (⟨[G0 0,G0 0],[],ø,O,⟨⟨_,O,.conv (.same O)⟩,⟨_,O,.conv (.same O)⟩,ø⟩,O,congrArg (fun r:Int×Int=>(.tup [G0 r.1,G0 r.2]:AV)) (Option.some.inj h)⟩))))))))

def G6e (F:Nat) (s:Gw) (boxes:List Gd) (calls:Int) (p:H4e):Option ((List (List Move))×Int):=
 bnd (Gc7 s boxes calls p) fun r4=>
 bif decide (r4.2≠0) then
 (some ([],r4.2))
 else
 (each (fun y27 i27 (s27:(List (List Move))×(List Stowed)) nx27=>
   bnd (G7e F s boxes s27.2 y27) fun r33=>
   need (decide ((s27.1.length+[r33.1].length)*24≤140737488355328∧s27.1.length+[r33.1].length≤maxLen)) <|
   nx27 ((s27.1++[r33.1]),y27))
  (fun(s27:(List (List Move))×(List Stowed))=>
   some (s27.1,0)) p.States 0 ([],[]))
theorem J89 (F:Nat) (s:Gw) (boxes:List Gd) (calls:Int) (p:H4e) (r:(List (List Move))×Int) (h:G6e F s boxes calls p=some r):Pure Ep 6 [.agg (Gw.cs s),E3 boxes,G0 calls,.agg [LS 1 (E1) p.States,LS 1 (E2) p.Water]] (·=.tup [LS 1 (E6) r.1,G0 r.2]):=by
 unfold G6e at h
 refine Gz [.tmp 8,.tmp 9] Tryz.func6 O O (Jr fun hK1=>(JLh (.ptr 1022 0) (Jm (cs:=(Gw.cs s)) 1022 O O O O O) O (JLh (.ptr 1023 0) (Jm (cs:=[LS 1 (E1) p.States,LS 1 (E2) p.Water]) 1023 O O O O O) O (JLh (LS 1 (E6) ([]:List (List Move))) (Hf 1 O O) O (Yb (G0 0) O (G7 (hK1 ?_)))))))
 refine Gq [(1,E3 boxes),(2,G0 calls),(4,Ef s),(7,.ptr 1023 0)] [(1023,.box 41 [LS 1 (E1) p.States,LS 1 (E2) p.Water])] 1022 rfl rfl rfl ⟨⟨_,rfl,.boxEq rfl rfl⟩,ø⟩ rfl (by repeat' (first | exact .ptr | constructor)) ?_
 refine Gq [(1,E3 boxes),(2,G0 calls),(4,Ef s),(7,.dptr [LS 1 (E1) p.States,LS 1 (E2) p.Water])] [] 1023 rfl rfl rfl ø rfl (by repeat' (first | exact .ptr | constructor)) (Js fun hK2=>?_)
 refine Jr fun hK3=>(JLh (.agg (Gw.cs s)) (Gg Ho O O O) O (Yb (E3 boxes) O (Yb (G0 calls) O (JLh (.agg [LS 1 (E1) p.States,LS 1 (E2) p.Water]) (Gg Ga6 O O O) O ?_))))
 obtain⟨r4,hr4,h⟩:=Ge h
 refine JLh (.tup [G0 r4.1,G0 r4.2]) (Gv O (Q35 s boxes calls p r4 hr4) Qdf ⟨O,O,O,O,O,O,O,O,ø⟩) O (Yb (.tup [G0 r4.1,G0 r4.2]) O (JLh (G0 r4.1) (Hk O O O) O (JLh (G0 r4.2) (Hk O O O) O (Yb (G0 r4.1) O (Yb (G0 r4.2) O (G7 (hK3 (Jr fun hK5=>(Yb (G0 r4.2) O (JLh (BL (decide (r4.2≠0))) (G71 O O O) O (G7 (hK5 (JCc O h (fun h hb=>?_) (fun h hb=>?_))))))))))))))
 ·
  refine Jr fun hK6=>(Yb (G0 r4.2) O (JLh (LS 1 (E6) ([]:List (List Move))) (Hf 1 O O) O (Yb (G0 r4.2) O (G7 (hK6 (Gs (⟨[LS 1 (E6) ([]:List (List Move)),G0 r4.2],[],ø,O,⟨⟨_,O,.conv (.same O)⟩,⟨_,O,.conv (.same O)⟩,ø⟩,O,congrArg (fun r:(List (List Move))×Int=>(.tup [LS 1 (E6) r.1,G0 r.2]:AV)) (Option.some.inj h)⟩)))))))
 ·
  refine Gi (hK2 (Jr fun hK7=>(JLh (OW 1024 1 (E6) ([]:List (List Move))) (G24 1024 49 1 O O O) O (G7 (hK7 (Jr fun hK8=>(JLh (E1 ([]:List Stowed)) (Hf 4 O O) O (G7 (hK8 (Js fun hK9=>Jr fun hK10=>(JLh (.dptr [LS 1 (E1) p.States,LS 1 (E2) p.Water]) (Ga G28 O O O) O (JLh (LS 1 (E1) p.States) (Gh Zy O O O) O (JLl Qd O O O fun hm31=>(Yb (G0 0) O (G7 (hK10 (Gj ?_)))))))))))))))))
  obtain⟨b27,kx27,hb27,hkx27,h⟩:=J2 h
  refine Hb (fun i27 (s27:(List (List Move))×(List Stowed))=>each b27 kx27 (List.drop i27 p.States) i27 s27=some r) (fun i27 s27=>[(1,E3 boxes),(4,Ef s),(12,OW 1024 1 (E6) s27.1),(13,E1 s27.2),(30,LS 1 (E1) p.States),(31,Eo p.States.length),(32,Eo i27)]) (fun i27 s27=>[(1024,.spare 49 1 s27.1.length s27.1.length)]) (fun i27=>p.States.length - i27) 0 ([],[]) h ⟨(.sm O O),⟨⟨_,rfl,.same⟩,ø⟩,rfl⟩ ?_
  clear h
  intro i27 s27 hi27 K27 e27
  refine Jr fun hK28=>(JLh (BL (decide ((i27:Int) < (p.States.length:Int)))) (J0 O O O) O (G7 (hK28 (Js fun hK29=>Gf O (fun hb=>?_) (fun hb=>?_)))))
  ·
   have hk27:=Jk hb
   obtain⟨y27,nx27,hy27,hn27,h⟩:=Hs hi27 hk27
   replace h:=Y4 hb27 h
   refine Gi (hK29 (Js fun hK30=>Gj (Jr fun hK31=>(JLh (.dptr [E1 y27]) (H3 (f:=(E1)) (xs:=p.States) (y:=y27) O O O Qd hy27 O) O (JLh (E1 y27) (Gh Rw O O O) O (Yb (E1 y27) O (G7 (hK31 (Jr fun hK32=>(JLh (.agg (Gw.cs s)) (Gg Ho O O O) O (Yb (E3 boxes) O (Yb (E1 s27.2) O (Yb (E1 y27) O ?_)))))))))))))
   obtain⟨r33,hr33,h⟩:=Ge h
   refine JLh (.tup [E6 r33.1,G0 r33.2]) (Gv O (He4 F s boxes s27.2 y27 r33 hr33) Jff ⟨O,O,O,O,O,O,O,O,ø⟩) O (Yb (.tup [E6 r33.1,G0 r33.2]) O (JLh (E6 r33.1) (Hk O O O) O (JLh (G0 r33.2) (Hk O O O) O (Yb (E6 r33.1) O (Yb (G0 r33.2) O (G7 (hK32 (G3 (Yb (OW 1024 1 (E6) s27.1) O (Yb (E6 r33.1) O (JLh (LS 1 (E6) [r33.1]) (H6 (xs:=[E6 r33.1]) O ⟨O,O,ø⟩ Gf1 Q6a O O O O) O ?_)))))))))))
   obtain⟨ha34,h⟩:=Jd h
   refine JLh (OW 1024 1 (E6) (s27.1++[r33.1])) (Qk (f:=(E6)) (xs:=s27.1) (ys:=[r33.1]) O O O O Gf1 Qaf ha34 (fun _=>O) (.inl O) O) O (Yb (E1 y27) O (Yb (OW 1024 1 (E6) (s27.1++[r33.1])) O (Yb (E1 y27) O (G7 (hK30 (G3 (JLh (G0 ((i27+1:Nat):Int)) (Hu (Hj hk27 hm31) O O O) O (Yb (G0 ((i27+1:Nat):Int)) O (G7 (e27 _ _ (i27+1) ((s27.1++[r33.1]),y27) (app1 hn27 h) (by omega) ⟨(.sm O O),⟨⟨_,rfl,.same⟩,ø⟩,rfl⟩))))))))))
  ·
   have h:=app1 hkx27 (Ht hi27 (Ha hb))
   refine Hm (hK9 (Jr fun hK35=>(Yb (OW 1024 1 (E6) s27.1) O (Yb (OW 1024 1 (E6) s27.1) O (Yb (G0 0) O (G7 (hK35 (Gs (⟨[LS 1 (E6) s27.1,G0 0],[],ø,O,⟨⟨_,O,.conv (.list O)⟩,⟨_,O,.conv (.same O)⟩,ø⟩,O,congrArg (fun r:(List (List Move))×Int=>(.tup [LS 1 (E6) r.1,G0 r.2]:AV)) (Option.some.inj h)⟩)))))))))

def Zr (a:H8) (b:H8):Option Int:=
 bnd (Qa a.Phase b.Phase) fun r3=>
 bnd (Qa a.Bay b.Bay) fun r4=>
 bnd (G4d [r3,r4]) fun r5=>
 some r5
theorem J66 (a:H8) (b:H8) (r:Int) (h:Zr a b=some r):Pure Ep 53 [.agg (H8.cs a),.agg (H8.cs b)] (·=G0 r):=by
 unfold Zr at h
 refine Gz [.tmp 4] Tryz.func53 O O (Jr fun hK1=>(JLh (.ptr 1116 0) (Jm (cs:=[G0 a.Bay,G0 a.Phase,G0 a.Lifts,G0 a.Covers]) 1116 O O O O O) O (JLh (.ptr 1117 0) (Jm (cs:=[G0 b.Bay,G0 b.Phase,G0 b.Lifts,G0 b.Covers]) 1117 O O O O O) O (Yb (G0 0) O (G7 (hK1 (Gq [(2,En a),(3,.ptr 1117 0)] [(1117,.box 94 [G0 b.Bay,G0 b.Phase,G0 b.Lifts,G0 b.Covers])] 1116 rfl rfl rfl ⟨⟨_,rfl,.boxEq rfl rfl⟩,ø⟩ rfl (by exact⟨.ptr,.conv (.same rfl),ø⟩) (Gq [(2,En a),(3,En b)] [] 1117 rfl rfl rfl ø rfl (by exact⟨.conv (.same rfl),.ptr,ø⟩) (Js fun hK2=>?_)))))))))
 obtain⟨r3,hr3,h⟩:=Ge h
 obtain⟨r4,hr4,h⟩:=Ge h
 obtain⟨r5,hr5,h⟩:=Ge h
 refine JC_d0 Q6 (by kernel_rfl) (Dq (.dptr [G0 a.Phase,G0 a.Lifts,G0 a.Covers]) (Ga Ge3 O O O) O (Dq (G0 a.Phase) (Gh Gb O O O) O (Dq (.dptr [G0 b.Phase,G0 b.Lifts,G0 b.Covers]) (Ga Ge3 O O O) O (Dq (G0 b.Phase) (Gh Gb O O O) O (Dq (G0 r3) (Gv (args:=[G0 a.Phase,G0 b.Phase]) O (Rj a.Phase b.Phase r3 hr3) G9f ⟨O,O,O,O,ø⟩) O (Dq (En a) (Ga G86 O O O) O (Dq (G0 a.Bay) (Gh Gb O O O) O (Dq (En b) (Ga G86 O O O) O (Dq (G0 b.Bay) (Gh Gb O O O) O (Dq (G0 r4) (Gv (args:=[G0 a.Bay,G0 b.Bay]) O (Rj a.Bay b.Bay r4 hr4) G9f ⟨O,O,O,O,ø⟩) O (Dq (E2 [r3,r4]) (H6 (xs:=[G0 r3,G0 r4]) O ⟨O,O,O,O,ø⟩ Gt Qn O O O O) O (Dq (G0 r5) (Gv (args:=[E2 [r3,r4]]) O (H48 [r3,r4] r5 hr5) J25 ⟨O,O,ø⟩) O (Dq (G0 r5) (G8 O O) O (Dnil ?_))))))))))))))
 refine hK2 (Gs (fin1 G0 h))

def Qj (F:Nat) (data:List H8) (a:Int) (b:Int) (cmp:H8→H8→Option Int):Option (List H8):=
 Rc (a+1) fun v2=>
 loop (fun nx3 (s3:Int×(List H8))=>
  bif decide (s3.1 < b) then
  (loop (fun nx58 (s58:Int×(List H8))=>
    bnd (bif decide (a < s58.1) then Q9 s58.2 s58.1 some else some default) fun y61=>
    bnd (bif decide (a < s58.1) then Rc (s58.1 - 1) some else some 0) fun v62=>
    bnd (bif decide (a < s58.1) then Q9 s58.2 v62 some else some default) fun y63=>
    bnd (bif decide (a < s58.1) then cmp y61 y63 else some default) fun r64=>
    bif ((decide (a < s58.1))&&(decide (r64 < 0))) then
    (Rc (s58.1 - 1) fun v66=>
     Rc (s58.1 - 1) fun v67=>
     Q9 s58.2 v67 fun y68=>
     Q9 s58.2 s58.1 fun y69=>
     Q9 s58.2 s58.1 fun y70=>
     Q9 (s58.2.set s58.1.toNat y68) v66 fun y71=>
     Rc (s58.1 - 1) fun v72=>
     nx58 (v72,((s58.2.set s58.1.toNat y68).set v66.toNat y69)))
    else
    (Rc (s3.1+1) fun v73=>
     nx3 (v73,s58.2))) F (s3.1,s3.2))
  else
  (some s3.2)) F (v2,data)
theorem G15 (F:Nat) (data:List H8) (data_q:Nat) (a:Int) (b:Int) (cmp:H8→H8→Option Int) (cmp_f:FuncId) (cmp_c:List AV) (cmp_B:H5 Ep cmp_f=true) (cmp_d:R0 (fun _=>false) cmp_c=true) (cmp_w:∀ a0 a1 q,cmp a0 a1=some q→Pure Ep cmp_f ([.agg (H8.cs a0),.agg (H8.cs a1)]++cmp_c) (·=G0 q)) (r:(List H8)) (h:Qj F data a b cmp=some r):Jn Ep 133 [.vec 1064 data_q 4 data.length,G0 a,G0 b,.fn cmp_f cmp_c] [(1064,.vec 94 4 data_q (data.map H8.av))] (fun av L'=>av=.tup []∧L'=[(1064,.vec 94 4 data_q (r.map H8.av))]):=by
 unfold Qj at h
 refine Jq [1064] [] Tryz.func133 O O (G2e O) (Jr fun hK1=>(Yb (G0 a) O ?_))
 obtain⟨v2,hv2,h⟩:=Hv h
 refine JLh (G0 v2) (Hu hv2 O O O) O (Yb (G0 v2) O (G7 (hK1 (Gj ?_))))
 obtain⟨b3,hb3,h⟩:=G48 h
 refine Hb (fun i3 (s3:Int×(List H8))=>loop b3 i3 s3=some r) (fun i3 s3=>[(0,.vec 1064 data_q 4 data.length),(1,G0 a),(2,G0 b),(3,.fn cmp_f cmp_c),(8,G0 s3.1)]) (fun i3 s3=>[(1064,.vec 94 4 data_q (s3.2.map H8.av))]) (fun i3=>i3) F (v2,data) h ⟨⟨.same O,.same O,.same O,.same (He _ _ cmp_d),.same O,ø⟩,⟨⟨_,O,.vec⟩,ø⟩,O⟩ ?_
 clear h
 intro i3 s3 hi3 K3 e3
 obtain⟨m3,nx3,hm_3,hn3,h⟩:=G0c hi3
 replace h:=J35 hb3 h
 refine Js fun hK4=>Jr fun hK5=>(Yb (G0 s3.1) O (Yb (G0 b) O (JLh (BL (decide (s3.1 < b))) (J0 O O O) O (G7 (hK5 (JCc O h (fun h hb=>?_) (fun h hb=>?_)))))))
 ·
  refine Gi (hK4 (Js fun hK6=>Gj (Jr fun hK7=>(Yb (G0 s3.1) O (Yb (G0 s3.1) O (G7 (hK7 (Gj ?_))))))))
  obtain⟨b58,hb58,h⟩:=G48 h
  refine Hb (fun i58 (s58:Int×(List H8))=>loop b58 i58 s58=some r) (fun i58 s58=>[(0,.vec 1064 data_q 4 data.length),(1,G0 a),(2,G0 b),(3,.fn cmp_f cmp_c),(8,G0 s3.1),(9,G0 s58.1)]) (fun i58 s58=>[(1064,.vec 94 4 data_q (s58.2.map H8.av))]) (fun i58=>i58) F (s3.1,s3.2) h ⟨⟨.same O,.same O,.same O,.same (He _ _ cmp_d),.same O,.same O,ø⟩,⟨⟨_,O,.vec⟩,ø⟩,O⟩ ?_
  clear h
  intro i58 s58 hi58 K58 e58
  obtain⟨m58,nx58,hm_58,hn58,h⟩:=G0c hi58
  replace h:=J35 hb58 h
  refine Js fun hK59=>Js fun hK60=>Rm (l':=[(0,.vec 1064 data_q 4 data.length),(1,G0 a),(2,G0 b),(3,.fn cmp_f cmp_c),(8,G0 s3.1),(9,G0 s58.1)]) (L':=[(1064,.vec 94 4 data_q (s58.2.map H8.av))]) ⟨⟨.same O,.same O,.same O,.same (He _ _ cmp_d),.same O,.same O,ø⟩,⟨⟨_,O,.vec⟩,ø⟩,O⟩ ?_
  obtain⟨y61,hy61,h⟩:=Ge h
  obtain⟨v62,hv62,h⟩:=Ge h
  obtain⟨y63,hy63,h⟩:=Ge h
  obtain⟨r64,hr64,h⟩:=Ge h
  refine JC_d0 Q6 (by kernel_rfl) (Dq (G0 s58.1) (G6 O O) O (Dq (G0 a) (G6 O O) O (Dq (BL (decide (a < s58.1))) (G43 O O O) O (Dq (BL (decide (a < s58.1))) (G6 O O) O (Do (.fn cmp_f cmp_c) [] O .sct ø (fun hc=>G6 O O) O (Do (.vec 1064 data_q 4 data.length) [] O .sct ø (fun hc=>G6 O O) O (Do (G0 s58.1) [] O .sct ø (fun hc=>G6 O O) O (Do (.vptr 1064 data_q s58.1.toNat 0) [23,24] O .sct ⟨Ua,Ua,ø⟩ (fun hc=>G13 (f:=H8.av) (xs:=s58.2) (y:=y61) O O O O Yr (Zp (Gx hc hy61)) (Gdc (Gx hc hy61))) O (Do (.agg (H8.cs y61)) [25] O .sct ⟨Ua,ø⟩ (fun hc=>G42 (f:=H8.av) (xs:=s58.2) (y:=y61) Ga5 O O O (Zp (Gx hc hy61)) O O) O (Do (.vec 1064 data_q 4 data.length) [] O .sct ø (fun hc=>G6 O O) O (Do (G0 s58.1) [] O .sct ø (fun hc=>G6 O O) O (Do (G0 v62) [28] O .sct ⟨Ua,ø⟩ (fun hc=>Zn (G8d (Gx hc hv62)) O O O) O (Do (.vptr 1064 data_q v62.toNat 0) [27,29] O .sct ⟨Ua,Ua,ø⟩ (fun hc=>G13 (f:=H8.av) (xs:=s58.2) (y:=y63) O O O O Yr (Zp (Gx hc hy63)) (Gdc (Gx hc hy63))) O ?_)))))))))))))
  refine Do (.agg (H8.cs y63)) [30] O .sct ⟨Ua,ø⟩ (fun hc=>G42 (f:=H8.av) (xs:=s58.2) (y:=y63) Ga5 O O O (Zp (Gx hc hy63)) O O) O (Do (G0 r64) [22,26,31] O .sct ⟨Ua,Ua,Ua,ø⟩ (fun hc=>G25 (args:=[.agg (H8.cs y61),.agg (H8.cs y63)]) (caps:=cmp_c) O O (cmp_w y61 y63 _ (Gx hc hr64)) cmp_B ⟨O,O,O,O,ø⟩ cmp_d) O (Do (BL (decide (r64 < 0))) [32] O .sct ⟨Ua,ø⟩ (fun hc=>J0 O O O) O (Dq (BL ((decide (a < s58.1))&&(decide (r64 < 0)))) (Qr O O O O) O (Dnil (hK60 (JCc O h (fun h hb=>?_) (fun h hb=>?_)))))))
  ·
   refine Gi (hK59 (Js fun hK65=>Gj (Rm (l':=[(0,.vec 1064 data_q 4 data.length),(1,G0 a),(2,G0 b),(3,.fn cmp_f cmp_c),(8,G0 s3.1),(9,G0 s58.1)]) (L':=[(1064,.vec 94 4 data_q (s58.2.map H8.av))]) ⟨⟨.same O,.same O,.same O,.same (He _ _ cmp_d),.same O,.same O,ø⟩,⟨⟨_,O,.vec⟩,ø⟩,O⟩ ?_)))
   obtain⟨v66,hv66,h⟩:=Hv h
   obtain⟨v67,hv67,h⟩:=Hv h
   obtain⟨y68,hmy68,hy68,h⟩:=G16 h
   obtain⟨y69,hmy69,hy69,h⟩:=G16 h
   obtain⟨y70,hmy70,hy70,h⟩:=G16 h
   obtain⟨y71,hmy71,hy71,h⟩:=G16 h
   refine Jy [15,17] [0,0,0,0,0,0,0,0,0,0,0,0,0,0,0,0,1,0] [0,0,1,1,1,0,0,0,0,0,0,0,0,0,0,0,1,0] [[(1064,.vec 94 4 data_q (s58.2.map H8.av))],((1064,.vec 94 4 data_q ((s58.2.set s58.1.toNat y68).map H8.av))::[(1064,.vec 94 4 data_q (s58.2.map H8.av))]),((1064,.vec 94 4 data_q (((s58.2.set s58.1.toNat y68).set v66.toNat y69).map H8.av))::((1064,.vec 94 4 data_q ((s58.2.set s58.1.toNat y68).map H8.av))::[(1064,.vec 94 4 data_q (s58.2.map H8.av))]))] Q6 (by kernel_rfl) rfl rfl ?_
   refine Gp (u:=.vec 1064 data_q 4 data.length) O O ⟨Gr (G6 O O) O,ø⟩ (Gp (u:=G0 s58.1) O O ⟨Gr (G6 O O) O,ø⟩ (Gp (u:=.vec 1064 data_q 4 data.length) O O ⟨Gr (G6 O O) O,Gr (G6 O O) O,ø⟩ (Gp (u:=G0 s58.1) O O ⟨Gr (G6 O O) O,Gr (G6 O O) O,ø⟩ (Gp (u:=G0 v66) O O ⟨Gr (Zn hv66 O O O) O,Gr (Zn hv66 O O O) O,ø⟩ (Gp (u:=.vec 1064 data_q 4 data.length) O O ⟨Gr (G6 O O) O,ø⟩ (Gp (u:=G0 s58.1) O O ⟨Gr (G6 O O) O,ø⟩ (Gp (u:=G0 v67) O O ⟨Gr (Zn hv67 O O O) O,ø⟩ (Gp (u:=.vptr 1064 data_q v67.toNat 0) O O ⟨Gr (G13 (f:=H8.av) (xs:=s58.2) (y:=y68) O O O O Yr hy68 hmy68) O,ø⟩ (Gp (u:=.agg (H8.cs y68)) O O ⟨Gr (G42 (f:=H8.av) (xs:=s58.2) (y:=y68) Ga5 O O O hy68 O O) O,ø⟩ (Gp (u:=.vec 1064 data_q 4 data.length) O O ⟨Gr (G6 O O) O,ø⟩ (Gp (u:=G0 s58.1) O O ⟨Gr (G6 O O) O,ø⟩ (Gp (u:=.vptr 1064 data_q s58.1.toNat 0) O O ⟨Gr (G13 (f:=H8.av) (xs:=s58.2) (y:=y69) O O O O Yr hy69 hmy69) O,ø⟩ (Gp (u:=.agg (H8.cs y69)) O O ⟨Gr (G42 (f:=H8.av) (xs:=s58.2) (y:=y69) Ga5 O O O hy69 O O) O,ø⟩ ?_)))))))))))))
   refine Gp (u:=.vptr 1064 data_q s58.1.toNat 0) O O ⟨Gr (G13 (f:=H8.av) (xs:=s58.2) (y:=y70) O O O O Yr hy70 hmy70) O,ø⟩ (J08 (u:=.junk) O O O O (Gr (H21 (f:=H8.av) (xs:=s58.2) (z:=y68) H91 O O O O (List.getElem?_eq_some_iff.1 hy70).1 O O O O) O) (Gp (u:=.vptr 1064 data_q v66.toNat 0) O O ⟨Gr (G13 (f:=H8.av) (xs:=(s58.2.set s58.1.toNat y68)) (y:=y71) O O O O Yr hy71 hmy71) O,ø⟩ (J08 (u:=.junk) O O O O (Gr (H21 (f:=H8.av) (xs:=(s58.2.set s58.1.toNat y68)) (z:=y69) H91 O O O O (List.getElem?_eq_some_iff.1 hy71).1 O O O O) O) (Yd (hK65 (G3 (Yb (G0 s58.1) O ?_)))))))
   obtain⟨v72,hv72,h⟩:=Hv h
   refine JLh (G0 v72) (Zn hv72 O O O) O (Yb (G0 v72) O (G7 (e58 _ _ m58 (v72,((s58.2.set s58.1.toNat y68).set v66.toNat y69)) (app1 hn58 h) (by omega) ⟨⟨.same rfl,.same rfl,.same rfl,.same (He _ _ cmp_d),.same rfl,.same rfl,ø⟩,⟨⟨_,rfl,.vec⟩,ø⟩,rfl⟩)))
  ·
   refine Hm (hK6 (G3 (Yb (G0 s3.1) O ?_)))
   obtain⟨v73,hv73,h⟩:=Hv h
   refine JLh (G0 v73) (Hu hv73 O O O) O (Yb (G0 v73) O (G7 (e3 _ _ m3 (v73,s58.2) (app1 hn3 h) (by omega) ⟨⟨.same rfl,.same rfl,.same rfl,.same (He _ _ cmp_d),.same rfl,ø⟩,⟨⟨_,rfl,.vec⟩,ø⟩,rfl⟩)))
 ·
  refine Hm ?_
  obtain rfl:=Option.some.inj h
  exact⟨[],[(1064,.vec 94 4 data_q (s3.2.map H8.av))],⟨⟨_,O,.vec⟩,ø⟩,O,ø,O,O⟩

def Q7 (F:Nat) (data:List H8) (a:Int) (b:Int) (limit:Int) (cmp:H8→H8→Option Int):Option (List H8):=
 loop (fun nx23 (s23:Int×Int×Int×Bool×Bool)=>
  Rc (s23.2.1 - s23.1) fun v25=>
  bif decide (v25≤12) then
  (bnd (Qj F data s23.1 s23.2.1 cmp) fun r29=>
   some r29)
  else
  (bif decide (s23.2.2.1=0) then
   (none)
   else
   (bif (!s23.2.2.2.1) then
    (none)
    else
    (none)))) F (a,b,limit,true,true)
theorem G4b (F:Nat) (data:List H8) (data_q:Nat) (a:Int) (b:Int) (limit:Int) (cmp:H8→H8→Option Int) (cmp_f:FuncId) (cmp_c:List AV) (cmp_B:H5 Ep cmp_f=true) (cmp_d:R0 (fun _=>false) cmp_c=true) (cmp_w:∀ a0 a1 q,cmp a0 a1=some q→Pure Ep cmp_f ([.agg (H8.cs a0),.agg (H8.cs a1)]++cmp_c) (·=G0 q)) (r:(List H8)) (h:Q7 F data a b limit cmp=some r):Jn Ep 117 [.vec 1064 data_q 4 data.length,G0 a,G0 b,G0 limit,.fn cmp_f cmp_c] [(1064,.vec 94 4 data_q (data.map H8.av))] (fun av L'=>av=.tup []∧L'=[(1064,.vec 94 4 data_q (r.map H8.av))]):=by
 unfold Q7 at h
 refine Jq [1064] [] Tryz.func117 O O (G2e O) (Jr fun hK1=>(Yb (BL true) O (G7 (hK1 (Jr fun hK2=>(Yb (BL true) O (G7 (hK2 (Gj ?_)))))))))
 obtain⟨b23,hb23,h⟩:=G48 h
 refine Hb (fun i23 (s23:Int×Int×Int×Bool×Bool)=>loop b23 i23 s23=some r) (fun i23 s23=>[(0,.vec 1064 data_q 4 data.length),(1,G0 s23.1),(2,G0 s23.2.1),(3,G0 s23.2.2.1),(4,.fn cmp_f cmp_c),(10,BL s23.2.2.2.1),(11,BL s23.2.2.2.2)]) (fun i23 s23=>[(1064,.vec 94 4 data_q (data.map H8.av))]) (fun i23=>i23) F (a,b,limit,true,true) h ⟨⟨.same O,.same O,.same O,.same O,.same (He _ _ cmp_d),.same O,.same O,ø⟩,⟨⟨_,O,.vec⟩,ø⟩,O⟩ ?_
 clear h
 intro i23 s23 hi23 K23 e23
 obtain⟨m23,nx23,hm_23,hn23,h⟩:=G0c hi23
 replace h:=J35 hb23 h
 refine Gj (Jr fun hK24=>(Yb (G0 s23.2.1) O (Yb (G0 s23.1) O ?_)))
 obtain⟨v25,hv25,h⟩:=Hv h
 refine JLh (G0 v25) (Zn hv25 O O O) O (Yb (G0 v25) O (G7 (hK24 (Js fun hK26=>Jr fun hK27=>(Yb (G0 v25) O (JLh (BL (decide (v25≤12))) (H4a O O O) O (G7 (hK27 (JCc O h (fun h hb=>?_) (fun h hb=>?_))))))))))
 ·
  refine Jr fun hK28=>(Yb (.vec 1064 data_q 4 data.length) O (Yb (G0 s23.1) O (Yb (G0 s23.2.1) O (Yb (.fn cmp_f cmp_c) O ?_))))
  obtain⟨r29,hr29,h⟩:=Ge h
  refine JLh (.tup []) (Ry (args:=[.vec 1064 data_q 4 data.length,G0 s23.1,G0 s23.2.1,.fn cmp_f cmp_c]) (L0:=[(1064,.vec 94 4 data_q (data.map H8.av))]) (Lr:=[(1064,.vec 94 4 data_q (r29.map H8.av))]) O (G15 F data data_q s23.1 s23.2.1 cmp cmp_f cmp_c cmp_B cmp_d cmp_w r29 hr29) Q7d ⟨.inl O,O,.inl O,O,.inl O,O,.inl O,(He _ _ cmp_d),ø⟩ ⟨O,ø⟩ O O O) O (G7 (hK28 (Gs ?_)))
  obtain rfl:=Option.some.inj h
  exact⟨[],[(1064,.vec 94 4 data_q (r29.map H8.av))],⟨⟨_,O,.vec⟩,ø⟩,O,ø,O,O⟩
 ·
  refine Gi (hK26 (Js fun hK30=>Jr fun hK31=>(Yb (G0 s23.2.2.1) O (JLh (BL (decide (s23.2.2.1=0))) (Jz O O O) O (G7 (hK31 (JCc O h (fun h hb=>?_) (fun h hb=>?_))))))))
  ·
   refine Js fun hK32=>?_
   cases h
  ·
   refine Gi (hK30 (Js fun hK33=>Jr fun hK34=>(Yb (BL s23.2.2.2.1) O (JLh (BL (!s23.2.2.2.1)) (Rv (b:=s23.2.2.2.1) O O) O (G7 (hK34 (JCc O h (fun h hb=>?_) (fun h hb=>?_))))))))
   ·
    refine Js fun hK35=>?_
    cases h
   ·
    refine Gi (hK33 (Js fun hK36=>?_))
    cases h

def Rg (F:Nat) (x:List H8) (cmp:H8→H8→Option Int):Option (List H8):=
 bnd (Yt (IntKind.u64.wrap (x.length:Int))) fun r2=>
 bnd (Q7 F x 0 (x.length:Int) r2 cmp) fun r3=>
 some r3
theorem G84 (F:Nat) (x:List H8) (x_q:Nat) (cmp:H8→H8→Option Int) (cmp_f:FuncId) (cmp_c:List AV) (cmp_B:H5 Ep cmp_f=true) (cmp_d:R0 (fun _=>false) cmp_c=true) (cmp_w:∀ a0 a1 q,cmp a0 a1=some q→Pure Ep cmp_f ([.agg (H8.cs a0),.agg (H8.cs a1)]++cmp_c) (·=G0 q)) (r:(List H8)) (h:Rg F x cmp=some r):Jn Ep 89 [.vec 1064 x_q 4 x.length,.fn cmp_f cmp_c] [(1064,.vec 94 4 x_q (x.map H8.av))] (fun av L'=>av=.tup []∧L'=[(1064,.vec 94 4 x_q (r.map H8.av))]):=by
 unfold Rg at h
 refine Jq [1064] [] Tryz.func89 O O (G2e O) (Jr fun hK1=>(Yb (.vec 1064 x_q 4 x.length) O (J67 (f:=H8.av) (xs:=x) Yr O O O (fun hm6=>?_) O O O)))
 refine Yb (Eo x.length) O (G7 (hK1 (G3 (Yb (.vec 1064 x_q 4 x.length) O (Yb (Eo x.length) O (Yb (Eo x.length) O (JLh (.sc (.int .u64 (IntKind.u64.wrap (x.length:Int)))) (G4e H26 Zf O O O) O ?_)))))))
 obtain⟨r2,hr2,h⟩:=Ge h
 refine JLh (G0 r2) (Gv O (Gca (IntKind.u64.wrap (x.length:Int)) r2 hr2) Hc6 ⟨O,O,ø⟩) O (Yb (.fn cmp_f cmp_c) O ?_)
 obtain⟨r3,hr3,h⟩:=Ge h
 refine JLh (.tup []) (Ry (args:=[.vec 1064 x_q 4 x.length,G0 0,Eo x.length,G0 r2,.fn cmp_f cmp_c]) (L0:=[(1064,.vec 94 4 x_q (x.map H8.av))]) (Lr:=[(1064,.vec 94 4 x_q (r3.map H8.av))]) O (G4b F x x_q 0 (x.length:Int) r2 cmp cmp_f cmp_c cmp_B cmp_d cmp_w r3 hr3) Q88 ⟨.inl O,O,.inl O,O,.inl O,O,.inl O,O,.inl O,(He _ _ cmp_d),ø⟩ ⟨O,ø⟩ O O O) O (G7 ?_)
 obtain rfl:=Option.some.inj h
 exact⟨[],[(1064,.vec 94 4 x_q (r3.map H8.av))],⟨⟨_,O,.vec⟩,ø⟩,O,ø,O,O⟩

def Yo (F:Nat) (l:List H8) (compare:H8→H8→Option Int):Option (List H8):=
 bnd (Rg F l compare) fun r3=>
 some r3
theorem Gb6 (F:Nat) (l:List H8) (l_q:Nat) (compare:H8→H8→Option Int) (compare_f:FuncId) (compare_c:List AV) (compare_B:H5 Ep compare_f=true) (compare_d:R0 (fun _=>false) compare_c=true) (compare_w:∀ a0 a1 q,compare a0 a1=some q→Pure Ep compare_f ([.agg (H8.cs a0),.agg (H8.cs a1)]++compare_c) (·=G0 q)) (r:(List H8)) (h:Yo F l compare=some r):Jn Ep 52 [.vec 1064 l_q 4 l.length,.fn compare_f compare_c] [(1064,.vec 94 4 l_q (l.map H8.av))] (fun av L'=>∃ p:Nat,av=.vec 1064 p 4 r.length∧L'=[(1064,.vec 94 4 p (r.map H8.av))]):=by
 unfold Yo at h
 refine Jq [1064] [.tmp 4] Tryz.func52 O O (G2e O) (Jr fun hK1=>(JLh (.vec 1115 (([]:List H8).length) 4 (([]:List H8).length)) (H79 1115 94 4 O O O) O (G7 (hK1 (Jr fun hK2=>(Yb (.vec 1064 l_q 4 l.length) O (Yb (.fn compare_f compare_c) O ?_)))))))
 obtain⟨r3,hr3,h⟩:=Ge h
 refine JLh (.tup []) (Ry (args:=[.vec 1064 l_q 4 l.length,.fn compare_f compare_c]) (L0:=[(1064,.vec 94 4 l_q (l.map H8.av))]) (Lr:=[(1064,.vec 94 4 l_q (r3.map H8.av))]) O (G84 F l l_q compare compare_f compare_c compare_B compare_d compare_w r3 hr3) Qb3 ⟨.inl O,O,.inl O,(He _ _ compare_d),ø⟩ ⟨O,ø⟩ O O O) O (G7 (hK2 (Jr fun hK4=>(Yb (.vec 1064 l_q 4 l.length) O (Yb (.vec 1064 l_q 4 l.length) O (G7 (hK4 (H1a 4 O O (fun hn_=>Gs ?_)))))))))
 obtain rfl:=Option.some.inj h
 exact⟨[.vec 1064 l_q 4 l.length],[(1064,.vec 94 4 l_q (r3.map H8.av))],⟨⟨_,O,.vec⟩,ø⟩,O,⟨⟨_,O,.conv (.same O)⟩,ø⟩,l_q,congrArg (fun n_:Nat=>(.vec 1064 l_q 4 n_:AV)) (hn_.trans (List.length_map _)),O⟩

def G95 (F:Nat) (s:Gw) (l:List Move) (Rp:((List H8)×Int)→Prop):Option Prop:=
 bnd (Z7 s) fun r4=>
 bif (!r4) then
 (some (Rp ([],2)))
 else
 (each (fun y189 i189 (s189:(H0 J4 H8)) nx189=>
   jp (fun kj196=>
    bif ((decide (y189.Kind < 1))||(decide (4 < y189.Kind))) then
    (kj196 ((decide (y189.Kind < 1))||(decide (4 < y189.Kind))))
    else
    (bif (((decide (y189.Kind=1))||(decide (y189.Kind=4)))&&((decide (y189.G9 < 0))||(decide ((s.Covers.length:Int)≤y189.G9)))) then
     (kj196 (((decide (y189.Kind=1))||(decide (y189.Kind=4)))&&((decide (y189.G9 < 0))||(decide ((s.Covers.length:Int)≤y189.G9)))))
     else
     (kj196 ((!((decide (y189.Kind=1))||(decide (y189.Kind=4))))&&((decide (y189.Slot.G4 < 0))||(decide ((s.Columns.length:Int)≤y189.Slot.G4))))))) fun(j196:Bool)=>
   bif j196 then
   (some (Rp ([],2)))
   else
   (jp (fun kj201=>
     bif decide (3≤y189.Kind) then
     (kj201 2)
     else
     (kj201 1)) fun(j201:Int)=>
    jp (fun kj203=>
     bif ((decide (y189.Kind=1))||(decide (y189.Kind=4))) then
     (Q9 s.Covers y189.G9 fun y205=>
      kj203 y205.Bay)
     else
     (Q9 s.Columns y189.Slot.G4 fun y207=>
      kj203 y207.Bay)) fun(j203:Int)=>
    bnd (some (H0.get s189 (J4.mk j201 j203) (H8.mk 0 0 0 0))) fun v211=>
    bnd (some (H0.get s189 (J4.mk j201 j203) (H8.mk 0 0 0 0))) fun v212=>
    jp (fun kj213=>
     bif ((decide (y189.Kind=1))||(decide (y189.Kind=4))) then
     (Rc (v212.Covers+1) fun v215=>
      kj213 (v211.Lifts,v215))
     else
     (Rc (v211.Lifts+1) fun v216=>
      kj213 (v216,v212.Covers))) fun(j213:Int×Int)=>
    nx189 (H0.put s189 (J4.mk j201 j203) (H8.mk j203 j201 j213.1 j213.2))))
  (fun(s189:(H0 J4 H8))=>
   eachM (fun(x228:J4×H8) (s228:(List H8)) nx228=>
    need (decide ((s228.length+[x228.2].length)*32≤140737488355328∧s228.length+[x228.2].length≤maxLen)) <|
    nx228 (s228++[x228.2]))
   (fun(s228:(List H8))=>
    bnd (Yo F s228 (fun z0 z1=>Zr z0 z1)) fun r235=>
    some (Rp (r235,0))) (H0.l s189) []) l 0 (H0.empty:H0 J4 H8))
abbrev Kb (s:Gw):List AV:=[E5 s.Covers,G0 s.Light.Kilos,G0 s.Light.X,G0 s.Light.Y,G0 s.Light.Z,E7 s.Rows,E8 s.Frames,E9 s.Tanks,G0 s.G2.Tolerance,G0 s.G2.Trim,G0 s.G2.List_,G0 s.G2.Stability]
theorem Jc7 (F:Nat) (s:Gw) (l:List Move) (Rp:((List H8)×Int)→Prop) (p:Prop) (h:G95 F s l Rp=some p) (hp:p):Pure Ep 20 [.agg (Gw.cs s),E6 l] (fun av=>∃ r,Rp r∧av=.tup [Ec r.1,G0 r.2]):=by
 unfold G95 at h
 refine Gz [.tmp 4,.tmp 5] Tryz.func20 O O (Jr fun hK1=>(JLh (.ptr 1060 0) (Jm (cs:=(Gw.cs s)) 1060 O O O O O) O (JLh (Ec ([]:List H8)) (Hf 4 O O) O (Yb (G0 0) O (G7 (hK1 (Gq [(1,E6 l),(2,Ef s)] [] 1060 rfl rfl rfl ø rfl (by exact⟨.conv (.same rfl),.ptr,ø⟩) (Js fun hK2=>?_))))))))
 refine Jr fun hK3=>(JLh (.agg (Gw.cs s)) (Gg Ho O O O) O ?_)
 obtain⟨r4,hr4,h⟩:=Ge h
 refine JLh (BL r4) (Gv O (H41.down s r4 hr4) J27 ⟨O,O,ø⟩) O (JLh (BL (!r4)) (Rv (b:=r4) O O) O (G7 (hK3 (JCc O h (fun h hb=>?_) (fun h hb=>?_)))))
 ·
  refine Jr fun hK5=>(JLh (Ec ([]:List H8)) (Hf 4 O O) O (Yb (G0 2) O (G7 (hK5 (Gs (⟨[Ec ([]:List H8),G0 2],[],ø,O,⟨⟨_,O,.conv (.same O)⟩,⟨_,O,.conv (.same O)⟩,ø⟩,O,([],2),Eq.mpr (Option.some.inj h) hp,O⟩))))))
 ·
  refine Gi (hK2 (Jr fun hK6=>(JLh (.mp 1066) (Ge0 1066 J4.kv H8.av O O) O (Yb (.mp 1066) O (G7 (hK6 (Js fun hK7=>Jr fun hK8=>(Yb (E6 l) O (JLl Qz O O O fun hm20=>(Yb (G0 0) O (G7 (hK8 (Gj ?_)))))))))))))
  obtain⟨b189,kx189,hb189,hkx189,h⟩:=J2 h
  refine Hb (fun i189 (s189:(H0 J4 H8))=>each b189 kx189 (List.drop i189 l) i189 s189=some p) (fun i189 s189=>[(2,Ef s),(6,.mp 1066),(19,E6 l),(20,Eo l.length),(21,Eo i189)]) (fun i189 s189=>[(1066,MP 127 J4.kv H8.av s189)]) (fun i189=>l.length - i189) 0 (H0.empty:H0 J4 H8) h ⟨(.sm O O),⟨⟨_,rfl,.map⟩,ø⟩,rfl⟩ ?_
  clear h
  intro i189 s189 hi189 K189 e189
  refine Jr fun hK190=>(JLh (BL (decide ((i189:Int) < (l.length:Int)))) (J0 O O O) O (G7 (hK190 (Js fun hK191=>Gf O (fun hb=>?_) (fun hb=>?_)))))
  ·
   have hk189:=Jk hb
   obtain⟨y189,nx189,hy189,hn189,h⟩:=Hs hi189 hk189
   replace h:=Y4 hb189 h
   refine Gi (hK191 (Js fun hK192=>Gj (Jr fun hK193=>(JLh (Ej y189) (H3 (f:=Move.av) (xs:=l) (y:=y189) O O O Qz hy189 O) O (JLh (.agg (Move.cs y189)) (Gg H1d O O O) O (JLh (.ptr 1061 0) (Hx 1061 6 Ga4 O O) O (Hw (u:=.junk) (Hd (u:=.agg (Move.cs y189)) (ds:=[U8 y189.Kind,G0 y189.Gd,G0 y189.Slot.G4,G0 y189.Slot.Tier,U8 y189.Slot.Half,G0 y189.G9]) J20 O O O O O O O O) (G7 (hK193 ?_)))))))))
   refine Gq [(2,Ef s),(6,.mp 1066),(8,Ej y189),(19,E6 l),(20,Eo l.length),(21,Eo i189)] [(1066,MP 127 J4.kv H8.av s189)] 1061 rfl rfl rfl ⟨⟨_,rfl,.map⟩,ø⟩ rfl (by repeat' (first | exact .ptr | constructor)) ?_
   refine Jr fun hK194=>(JLh (Ej y189) (Ga G01 O O O) O (JLh (U8 y189.Kind) (Gh Hz O O O) O (JLh (BL (decide (y189.Kind=1))) (Jz O O O) O (Yb (BL (decide (y189.Kind=1))) O (JLo (Ej y189) [] O .scf ø (fun hc=>Ga G01 O O O) O (JLo (U8 y189.Kind) [29] O .scf ⟨Ua,ø⟩ (fun hc=>Gh Hz O O O) O (JLo (BL (decide (y189.Kind=4))) [30] O .scf ⟨Ua,ø⟩ (fun hc=>Jz O O O) O (JLh (BL ((decide (y189.Kind=1))||(decide (y189.Kind=4)))) (G0b O O O O) O (Yb (BL ((decide (y189.Kind=1))||(decide (y189.Kind=4)))) O (G7 (hK194 (Js fun hK195=>Gj ?_))))))))))))
   obtain⟨kj196,hkj196,h⟩:=Qo h
   refine Jx (fun j196:Bool=>kj196 j196=some p) (fun j196=>[(2,Ef s),(6,.mp 1066),(8,Ej y189),(9,BL ((decide (y189.Kind=1))||(decide (y189.Kind=4)))),(19,E6 l),(20,Eo l.length),(21,Eo i189),(33,BL j196)]) (fun j196=>[(1066,MP 127 J4.kv H8.av s189)]) (fun Kj196 ej196=>?_) ?_
   ·
    refine Jr fun hK197=>(JLh (Ej y189) (Ga G01 O O O) O (JLh (U8 y189.Kind) (Gh Hz O O O) O (JLh (BL (decide (y189.Kind < 1))) (J0 O O O) O (Yb (BL (decide (y189.Kind < 1))) O (JLo (Ej y189) [] O .scf ø (fun hc=>Ga G01 O O O) O (JLo (U8 y189.Kind) [38] O .scf ⟨Ua,ø⟩ (fun hc=>Gh Hz O O O) O (JLo (BL (decide (4 < y189.Kind))) [39] O .scf ⟨Ua,ø⟩ (fun hc=>G43 O O O) O (JLh (BL ((decide (y189.Kind < 1))||(decide (4 < y189.Kind)))) (G0b O O O O) O (Yb (BL ((decide (y189.Kind < 1))||(decide (4 < y189.Kind)))) O (G7 (hK197 (JCc O h (fun h hb=>?_) (fun h hb=>?_)))))))))))))
    ·
     refine Gi (ej196 _ _ ((decide (y189.Kind < 1))||(decide (4 < y189.Kind))) h ⟨(.sm O O),⟨⟨_,rfl,.map⟩,ø⟩,rfl⟩)
    ·
     refine Jr fun hK198=>(Yb (BL ((decide (y189.Kind=1))||(decide (y189.Kind=4)))) O (Yb (BL ((decide (y189.Kind=1))||(decide (y189.Kind=4)))) O (JLo (.dptr [G0 y189.G9]) [] O .sct ø (fun hc=>Ga G88 O O O) O (JLo (G0 y189.G9) [44] O .sct ⟨Ua,ø⟩ (fun hc=>Gh Gb O O O) O (JLo (BL (decide (y189.G9 < 0))) [45] O .sct ⟨Ua,ø⟩ (fun hc=>J0 O O O) O (JLo (BL (decide (y189.G9 < 0))) [46] O .sct ⟨Ua,ø⟩ (fun hc=>G6 O O) O (JLo (.dptr [G0 y189.G9]) [] O .optf ø (fun hc=>Ga G88 O O O) O (JLo (G0 y189.G9) [48] O .optf ⟨Ua,ø⟩ (fun hc=>Gh Gb O O O) O (JLo (.dptr (Kb s)) [] O .optf ø (fun hc=>Ga Qq O O O) O (JLo (E5 s.Covers) [50] O .optf ⟨Ua,ø⟩ (fun hc=>Gh Rx O O O) O (JLo (Eo s.Covers.length) [51] O .optf ⟨Ua,ø⟩ (fun hc=>Yv (f:=G9.av) (xs:=s.Covers) Qs O O) O (JLo (BL (decide ((s.Covers.length:Int)≤y189.G9))) [49,52] O .optf ⟨Ua,Ua,ø⟩ (fun hc=>G2f O O O) O ?_))))))))))))
     refine Gc (u:=BL ((decide (y189.G9 < 0))||(decide ((s.Covers.length:Int)≤y189.G9)))) [(47,BL (decide (y189.G9 < 0))),(53,_)] O O O .sct ⟨.all id,.part,ø⟩ (fun hc=>G0b O O O O) ?_
     refine JLh (BL (((decide (y189.Kind=1))||(decide (y189.Kind=4)))&&((decide (y189.G9 < 0))||(decide ((s.Covers.length:Int)≤y189.G9))))) (Qr O O O O) O (Yb (BL (((decide (y189.Kind=1))||(decide (y189.Kind=4)))&&((decide (y189.G9 < 0))||(decide ((s.Covers.length:Int)≤y189.G9))))) O (G7 (hK198 (JCc O h (fun h hb=>?_) (fun h hb=>?_)))))
     ·
      refine Gi (ej196 _ _ (((decide (y189.Kind=1))||(decide (y189.Kind=4)))&&((decide (y189.G9 < 0))||(decide ((s.Covers.length:Int)≤y189.G9)))) h ⟨(.sm O O),⟨⟨_,rfl,.map⟩,ø⟩,rfl⟩)
     ·
      refine G3 ?_
      refine Yb (BL ((decide (y189.Kind=1))||(decide (y189.Kind=4)))) O (JLh (BL (!((decide (y189.Kind=1))||(decide (y189.Kind=4))))) (Rv (b:=((decide (y189.Kind=1))||(decide (y189.Kind=4)))) O O) O (Yb (BL (!((decide (y189.Kind=1))||(decide (y189.Kind=4))))) O (JLo (.dptr ((Move.cs y189).drop 2)) [] O .sct ø (fun hc=>Ga G89 O O O) O (JLo (.dptr ((Move.cs y189).drop 2)) [59] O .sct ⟨Ua,ø⟩ (fun hc=>Ga J9 O O O) O (JLo (G0 y189.Slot.G4) [60] O .sct ⟨Ua,ø⟩ (fun hc=>Gh Gb O O O) O (JLo (BL (decide (y189.Slot.G4 < 0))) [61] O .sct ⟨Ua,ø⟩ (fun hc=>J0 O O O) O (JLo (BL (decide (y189.Slot.G4 < 0))) [62] O .sct ⟨Ua,ø⟩ (fun hc=>G6 O O) O (JLo (.dptr ((Move.cs y189).drop 2)) [] O .optf ø (fun hc=>Ga G89 O O O) O (JLo (.dptr ((Move.cs y189).drop 2)) [64] O .optf ⟨Ua,ø⟩ (fun hc=>Ga J9 O O O) O (JLo (G0 y189.Slot.G4) [65] O .optf ⟨Ua,ø⟩ (fun hc=>Gh Gb O O O) O (JLo (Ef s) [] O .optf ø (fun hc=>Ga J6 O O O) O (JLo (E4 s.Columns) [67] O .optf ⟨Ua,ø⟩ (fun hc=>Gh Jj O O O) O (JLo (Eo s.Columns.length) [68] O .optf ⟨Ua,ø⟩ (fun hc=>Yv (f:=G4.av) (xs:=s.Columns) Je O O) O ?_)))))))))))))
      refine JLo (BL (decide ((s.Columns.length:Int)≤y189.Slot.G4))) [66,69] O .optf ⟨Ua,Ua,ø⟩ (fun hc=>G2f O O O) O (Gc (u:=BL ((decide (y189.Slot.G4 < 0))||(decide ((s.Columns.length:Int)≤y189.Slot.G4)))) [(63,BL (decide (y189.Slot.G4 < 0))),(70,_)] O O O .sct ⟨.all id,.part,ø⟩ (fun hc=>G0b O O O O) ?_)
      refine JLh (BL ((!((decide (y189.Kind=1))||(decide (y189.Kind=4))))&&((decide (y189.Slot.G4 < 0))||(decide ((s.Columns.length:Int)≤y189.Slot.G4))))) (Qr O O O O) O (Yb (BL ((!((decide (y189.Kind=1))||(decide (y189.Kind=4))))&&((decide (y189.Slot.G4 < 0))||(decide ((s.Columns.length:Int)≤y189.Slot.G4))))) O (G7 (ej196 _ _ ((!((decide (y189.Kind=1))||(decide (y189.Kind=4))))&&((decide (y189.Slot.G4 < 0))||(decide ((s.Columns.length:Int)≤y189.Slot.G4)))) h ⟨(.sm O O),⟨⟨_,rfl,.map⟩,ø⟩,rfl⟩)))
   ·intro j196 h
    replace h:=app1 hkj196 h
    refine JCc O h ?_ ?_<;>intro h hb
    ·
     refine Jr fun hK199=>(JLh (Ec ([]:List H8)) (Hf 4 O O) O (Yb (G0 2) O (G7 (hK199 (Gs (⟨[Ec ([]:List H8),G0 2],[],ø,O,⟨⟨_,O,.conv (.same O)⟩,⟨_,O,.conv (.same O)⟩,ø⟩,O,([],2),Eq.mpr (Option.some.inj h) hp,O⟩))))))
    ·
     refine Gi (hK195 (Jr fun hK200=>(JLh (.agg [G0 0,G0 1,G0 0,G0 0]) (J3 (cs:=[G0 0,G0 1,G0 0,G0 0]) [(0,1),(1,1),(2,1),(3,1)] [G0 0,G0 0,G0 0,G0 0] [E0,E0,E0,E0] H93 J1e ⟨.inl O,.inl O,.inl O,.inl O,ø⟩ O O) O (JLh (.ptr 1062 0) (Hx 1062 4 Hc1 O O) O (Hw (u:=.junk) (Hd (u:=.agg [G0 0,G0 1,G0 0,G0 0]) (ds:=[G0 0,G0 1,G0 0,G0 0]) H91 O O O O O O O O) (G7 (hK200 ?_)))))))
     obtain⟨kj201,hkj201,h⟩:=Qo h
     refine Jx (fun j201:Int=>kj201 j201=some p) (fun j201=>[(2,Ef s),(6,.mp 1066),(8,Ej y189),(9,BL ((decide (y189.Kind=1))||(decide (y189.Kind=4)))),(10,.ptr 1062 0),(19,E6 l),(20,Eo l.length),(21,Eo i189)]) (fun j201=>[(1066,MP 127 J4.kv H8.av s189),(1062,.box 94 [G0 0,G0 j201,G0 0,G0 0])]) (fun Kj201 ej201=>?_) ?_
     ·
      refine Jr fun hK202=>(JLh (Ej y189) (Ga G01 O O O) O (JLh (U8 y189.Kind) (Gh Hz O O O) O (JLh (BL (decide (3≤y189.Kind))) (G2f O O O) O (G7 (hK202 (JCc O h (fun h hb=>?_) (fun h hb=>?_)))))))
      ·
       refine G3 (JLh (.ptr 1062 1) (Jp Ge3 O O) O (Hw (u:=.junk) (Hd (u:=G0 2) (ds:=[G0 0,G0 2,G0 0,G0 0]) Zj O O O O O O O O) (G7 (ej201 _ _ 2 h ⟨(.sm O O),⟨⟨_,rfl,.map⟩,⟨_,rfl,.boxL rfl (.sm O O)⟩,ø⟩,rfl⟩))))
      ·
       refine Gi (ej201 _ _ 1 h ⟨(.sm O O),⟨⟨_,rfl,.map⟩,⟨_,rfl,.boxL rfl (.sm O O)⟩,ø⟩,rfl⟩)
     ·intro j201 h
      replace h:=app1 hkj201 h
      obtain⟨kj203,hkj203,h⟩:=Qo h
      refine Jx (fun j203:Int=>kj203 j203=some p) (fun j203=>[(2,Ef s),(6,.mp 1066),(9,BL ((decide (y189.Kind=1))||(decide (y189.Kind=4)))),(10,.ptr 1062 0),(19,E6 l),(20,Eo l.length),(21,Eo i189)]) (fun j203=>[(1066,MP 127 J4.kv H8.av s189),(1062,.box 94 [G0 j203,G0 j201,G0 0,G0 0])]) (fun Kj203 ej203=>?_) ?_
      ·
       refine Jr fun hK204=>(Yb (BL ((decide (y189.Kind=1))||(decide (y189.Kind=4)))) O (G7 (hK204 (JCc O h (fun h hb=>?_) (fun h hb=>?_)))))
       ·
        refine G3 (JLh (.dptr (Kb s)) (Ga Qq O O O) O (JLh (E5 s.Covers) (Gh Rx O O O) O (JLh (.dptr [G0 y189.G9]) (Ga G88 O O O) O (JLh (G0 y189.G9) (Gh Gb O O O) O ?_))))
        obtain⟨m206,y205,hm206,hy205,h⟩:=Y0 h
        refine JLh (.dptr [G0 y205.Bay,E2 y205.Rows]) (H3 (f:=G9.av) (xs:=s.Covers) (y:=y205) O O O Qs hy205 hm206) O (JLh (.dptr [G0 y205.Bay,E2 y205.Rows]) (Ga G87 O O O) O (JLh (G0 y205.Bay) (Gh Gb O O O) O (JLh (.ptr 1062 0) (Jp G86 O O) O (Hw (u:=.junk) (Hd (u:=G0 y205.Bay) (ds:=[G0 y205.Bay,G0 j201,G0 0,G0 0]) Zj O O O O O O O O) (G7 (ej203 _ _ y205.Bay h ⟨(.sm O O),⟨⟨_,rfl,.map⟩,⟨_,rfl,.boxL rfl (.sm O O)⟩,ø⟩,rfl⟩))))))
       ·
        refine G3 (JLh (Ef s) (Ga J6 O O O) O (JLh (E4 s.Columns) (Gh Jj O O O) O (JLh (.dptr ((Move.cs y189).drop 2)) (Ga G89 O O O) O (JLh (.dptr ((Move.cs y189).drop 2)) (Ga J9 O O O) O (JLh (G0 y189.Slot.G4) (Gh Gb O O O) O ?_)))))
        obtain⟨m208,y207,hm208,hy207,h⟩:=Y0 h
        refine JLh (Ei y207) (H3 (f:=G4.av) (xs:=s.Columns) (y:=y207) O O O Je hy207 hm208) O (JLh (Ei y207) (Ga G00 O O O) O (JLh (G0 y207.Bay) (Gh Gb O O O) O (JLh (.ptr 1062 0) (Jp G86 O O) O (Hw (u:=.junk) (Hd (u:=G0 y207.Bay) (ds:=[G0 y207.Bay,G0 j201,G0 0,G0 0]) Zj O O O O O O O O) (G7 (ej203 _ _ y207.Bay h ⟨(.sm O O),⟨⟨_,rfl,.map⟩,⟨_,rfl,.boxL rfl (.sm O O)⟩,ø⟩,rfl⟩))))))
      ·intro j203 h
       replace h:=app1 hkj203 h
       refine Jr fun hK209=>(JLh (.ptr 1062 1) (Jp Ge3 O O) O (JLh (G0 j201) (Qu Gb O O O O) O (JLh (.ptr 1062 0) (Jp G86 O O) O (JLh (G0 j203) (Qu Gb O O O O) O (JLh (.agg [G0 j201,G0 j203]) (Haf (cs:=[G0 j201,G0 j203]) [E0,E0] Qe2 Q6d O O) O (JLh (.ptr 1063 0) (Hx 1063 2 Q5f O O) O (Hw (u:=.junk) (Hd (u:=.agg [G0 j201,G0 j203]) (ds:=[G0 j201,G0 j203]) Q76 O O O O O O O O) (G7 (hK209 ?_)))))))))
       refine Gq [(2,Ef s),(6,.mp 1066),(9,BL ((decide (y189.Kind=1))||(decide (y189.Kind=4)))),(10,.ptr 1062 0),(11,.dptr [G0 j201,G0 j203]),(19,E6 l),(20,Eo l.length),(21,Eo i189)] [(1066,MP 127 J4.kv H8.av s189),(1062,.box 94 [G0 j203,G0 j201,G0 0,G0 0])] 1063 rfl rfl rfl ⟨⟨_,rfl,.map⟩,⟨_,rfl,.boxEq rfl rfl⟩,ø⟩ rfl (by repeat' (first | exact .ptr | constructor)) (Js fun hK210=>?_)
       refine Rm (l':=[(2,Ef s),(6,.mp 1066),(9,BL ((decide (y189.Kind=1))||(decide (y189.Kind=4)))),(10,.ptr 1062 0),(11,.dptr [G0 j201,G0 j203]),(19,E6 l),(20,Eo l.length),(21,Eo i189)]) (L':=[(1066,MP 127 J4.kv H8.av s189),(1062,.box 94 [G0 j203,G0 j201,G0 0,G0 0])]) ⟨(.sm O O),⟨⟨_,rfl,.map⟩,⟨_,rfl,.boxL rfl (.sm O O)⟩,ø⟩,rfl⟩ ?_
       obtain⟨v211,hv211,h⟩:=Ge h
       obtain⟨v212,hv212,h⟩:=Ge h
       refine Jy [9,11] [0,0,0,0,0,0,0,0,0,0,1,0] [0,0,0,0,1,1,1,1,0,0,1,0] [[(1066,MP 127 J4.kv H8.av s189),(1062,.box 94 [G0 j203,G0 j201,G0 0,G0 0])],((1062,.box 94 [G0 j203,G0 j201,G0 v211.Lifts,G0 0])::[(1066,MP 127 J4.kv H8.av s189),(1062,.box 94 [G0 j203,G0 j201,G0 0,G0 0])]),((1062,.box 94 [G0 j203,G0 j201,G0 v211.Lifts,G0 v212.Covers])::((1062,.box 94 [G0 j203,G0 j201,G0 v211.Lifts,G0 0])::[(1066,MP 127 J4.kv H8.av s189),(1062,.box 94 [G0 j203,G0 j201,G0 0,G0 0])]))] Q6 (by kernel_rfl) rfl rfl ?_
       refine Gp (u:=.mp 1066) O O ⟨Gr (G6 O O) O,ø⟩ (Gp (u:=.agg [G0 j201,G0 j203]) O O ⟨Gr (Gg H9a O O O) O,ø⟩ (Gp (u:=.agg (H8.cs v211)) O O ⟨Gr (((Option.some.inj hv211) ▸ Ge1 (av:=H8.av) (m:=s189) (a:=(J4.mk j201 j203)) (H8.mk 0 0 0 0) (.agg #[E0,E0,E0,E0]) O O O O tk_128 H25 Jda O)) O,ø⟩ (Gp (u:=G0 v211.Lifts) O O ⟨Gr (Q43 Qac O O O) O,ø⟩ (Gp (u:=.mp 1066) O O ⟨Gr (G6 O O) O,Gr (G6 O O) O,ø⟩ (Gp (u:=.agg [G0 j201,G0 j203]) O O ⟨Gr (Gg H9a O O O) O,Gr (Gg H9a O O O) O,ø⟩ (Gp (u:=.agg (H8.cs v212)) O O ⟨Gr (((Option.some.inj hv212) ▸ Ge1 (av:=H8.av) (m:=s189) (a:=(J4.mk j201 j203)) (H8.mk 0 0 0 0) (.agg #[E0,E0,E0,E0]) O O O O tk_128 H25 Jda O)) O,Gr (((Option.some.inj hv212) ▸ Ge1 (av:=H8.av) (m:=s189) (a:=(J4.mk j201 j203)) (H8.mk 0 0 0 0) (.agg #[E0,E0,E0,E0]) O O O O tk_128 H25 Jda O)) O,ø⟩ (Gp (u:=G0 v212.Covers) O O ⟨Gr (Q43 Je6 O O O) O,Gr (Q43 Je6 O O O) O,ø⟩ (Gp (u:=.ptr 1062 2) O O ⟨Gr (Jp H6a O O) O,ø⟩ (J08 (u:=.junk) O O O O (Gr (Hd (u:=G0 v211.Lifts) (ds:=[G0 j203,G0 j201,G0 v211.Lifts,G0 0]) Zj O O O O O O O O) O) (Gp (u:=.ptr 1062 3) O O ⟨Gr (Jp H69 O O) O,ø⟩ (J08 (u:=.junk) O O O O (Gr (Hd (u:=G0 v212.Covers) (ds:=[G0 j203,G0 j201,G0 v211.Lifts,G0 v212.Covers]) Zj O O O O O O O O) O) (Yd ?_))))))))))))
       refine hK210 ?_
       obtain⟨kj213,hkj213,h⟩:=Qo h
       refine Jx (fun j213:Int×Int=>kj213 j213=some p) (fun j213=>[(2,Ef s),(6,.mp 1066),(10,.ptr 1062 0),(11,.dptr [G0 j201,G0 j203]),(19,E6 l),(20,Eo l.length),(21,Eo i189)]) (fun j213=>[(1066,MP 127 J4.kv H8.av s189),(1062,.box 94 [G0 j203,G0 j201,G0 j213.1,G0 j213.2])]) (fun Kj213 ej213=>?_) ?_
       ·
        refine Jr fun hK214=>(Yb (BL ((decide (y189.Kind=1))||(decide (y189.Kind=4)))) O (G7 (hK214 (JCc O h (fun h hb=>?_) (fun h hb=>?_)))))
        ·
         refine G3 (JLh (.ptr 1062 3) (Jp H69 O O) O (JLh (G0 v212.Covers) (Qu Gb O O O O) O ?_))
         obtain⟨v215,hv215,h⟩:=Hv h
         refine JLh (G0 v215) (Hu hv215 O O O) O (JLh (.ptr 1062 3) (Jp H69 O O) O (Hw (u:=.junk) (Hd (u:=G0 v215) (ds:=[G0 j203,G0 j201,G0 v211.Lifts,G0 v215]) Zj O O O O O O O O) (G7 (ej213 _ _ (v211.Lifts,v215) h ⟨(.sm O O),⟨⟨_,rfl,.map⟩,⟨_,rfl,.boxL rfl (.sm O O)⟩,ø⟩,rfl⟩))))
        ·
         refine G3 (JLh (.ptr 1062 2) (Jp H6a O O) O (JLh (G0 v211.Lifts) (Qu Gb O O O O) O ?_))
         obtain⟨v216,hv216,h⟩:=Hv h
         refine JLh (G0 v216) (Hu hv216 O O O) O (JLh (.ptr 1062 2) (Jp H6a O O) O (Hw (u:=.junk) (Hd (u:=G0 v216) (ds:=[G0 j203,G0 j201,G0 v216,G0 v212.Covers]) Zj O O O O O O O O) (G7 (ej213 _ _ (v216,v212.Covers) h ⟨(.sm O O),⟨⟨_,rfl,.map⟩,⟨_,rfl,.boxL rfl (.sm O O)⟩,ø⟩,rfl⟩))))
       ·intro j213 h
        replace h:=app1 hkj213 h
        refine G3 (Yb (.mp 1066) O (JLh (.agg [G0 j201,G0 j203]) (Gg H9a O O O) O (JLh (.agg [G0 j203,G0 j201,G0 j213.1,G0 j213.2]) (Hae Ga5 O O O O) O (Hw (u:=.junk) (H1c (m:=s189) (a:=(J4.mk j201 j203)) (v:=(H8.mk j203 j201 j213.1 j213.2)) O O O O O O tk_128 H25) (G7 (hK192 (G3 (JLh (G0 ((i189+1:Nat):Int)) (Hu (Hj hk189 hm20) O O O) O (Yb (G0 ((i189+1:Nat):Int)) O (G7 (e189 _ _ (i189+1) (H0.put s189 (J4.mk j201 j203) (H8.mk j203 j201 j213.1 j213.2)) (app1 hn189 h) (by omega) ⟨(.sm O O),⟨⟨_,rfl,.map⟩,ø⟩,rfl⟩)))))))))))
  ·
   have h:=app1 hkx189 (Ht hi189 (Ha hb))
   refine Hm (hK7 (Jr fun hK217=>(JLh (.vec 1064 (([]:List H8).length) 4 (([]:List H8).length)) (H79 1064 94 4 O O O) O (G7 (hK217 (Js fun hK218=>Jr fun hK219=>(Yb (.mp 1066) O (JLh (.it 1067) (Q9f 1067 (m:=s189) O O O O H25) O (G7 (hK219 (Gj ?_)))))))))))
   obtain⟨b228,kx228,hb228,hkx228,h⟩:=eachM_in h
   refine Q99 (H0.size s189) (fun i228 (s228:(List H8))=>MInv b228 kx228 (H0.l s189) i228 s228) (fun i228 s228=>[(12,.vec 1064 s228.length 4 s228.length),(125,.it 1067)]) (fun i228 s228=>[(1066,MP 127 J4.kv H8.av s189),(1064,.vec 94 4 s228.length (s228.map H8.av)),(1067,.iter 1066 (H0.size s189) i228)]) [] (MInv.start h hp) ⟨(.sm O O),⟨⟨_,O,.map⟩,⟨_,O,.vec⟩,⟨_,O,.iter O⟩,ø⟩,O⟩ ?_
   clear h hp
   intro i228 s228 hi228 K228 e228
   refine Jr fun hK229=>G5f O O O (A_nextM (m:=s189) O O O O) ?_
   intro u_ L_ hn_
   rcases hn_ with ⟨q228,x228,he228,hs228,rfl,rfl⟩ | ⟨ha228,rfl,rfl⟩
   ·
    obtain⟨o228,h,ho1_228,ho2_228⟩:=hi228.step he228 hs228
    replace h:=app3 hb228 h
    refine JLh (BL true) (Hk O O O) O (G7 (hK229 (Js fun hK230=>Q9a O (Gi (hK230 (Gj (Jr fun hK231=>(JLh (.tup [.agg [G0 x228.1.e0,G0 x228.1.e1],.agg (H8.cs x228.2)]) (Qa2 (kv:=J4.kv) (av:=H8.av) (m:=s189) (q:=q228) (seen:=i228) (e:=x228) O O O O he228) O (JLh (.agg (H8.cs x228.2)) (Hk O O O) O (JLh (.ptr 1065 0) (Hx 1065 4 Hc1 O O) O (Hw (u:=.junk) (Hd (u:=.agg (H8.cs x228.2)) (ds:=[G0 x228.2.Bay,G0 x228.2.Phase,G0 x228.2.Lifts,G0 x228.2.Covers]) H91 O O O O O O O O) (G7 (hK231 ?_)))))))))))))
    refine Gq [(12,.vec 1064 s228.length 4 s228.length),(14,En x228.2),(125,.it 1067)] [(1066,MP 127 J4.kv H8.av s189),(1064,.vec 94 4 s228.length (s228.map H8.av)),(1067,.iter 1066 (H0.size s189) (i228++[q228]))] 1065 rfl rfl rfl ⟨⟨_,rfl,.map⟩,⟨_,rfl,.vec⟩,⟨_,rfl,.iter rfl⟩,ø⟩ rfl (by exact⟨.conv (.same rfl),.ptr,.conv (.same rfl),ø⟩) (G3 (Yb (.vec 1064 s228.length 4 s228.length) O (JLh (.agg (H8.cs x228.2)) (Gg Ga5 O O O) O (JLh (Ec [x228.2]) (H6 (xs:=[.agg (H8.cs x228.2)]) O ⟨O,O,ø⟩ Yr Hc1 O O O O) O ?_))))
    obtain⟨ha232,h⟩:=Jd h
    refine JLh (.vec 1064 ((s228++[x228.2]).length) 4 ((s228++[x228.2]).length)) (G70 (f:=H8.av) (xs:=s228) (ys:=[x228.2]) (ver:=s228.length) (ver1:=(s228++[x228.2]).length) rfl rfl rfl rfl Yr Qad ha232 (fun _=>rfl) (.inl rfl) (by simp)) O (Yb (.vec 1064 ((s228++[x228.2]).length) 4 ((s228++[x228.2]).length)) O (G7 (e228 _ _ (i228++[q228]) (s228++[x228.2]) (ho2_228 _ (Option.some.inj h).symm) (unseen_lt (List.getElem?_eq_some_iff.1 he228).1 hs228) ⟨(.sm O O),⟨⟨_,O,.map⟩,⟨_,O,.vec⟩,⟨_,O,.iter O⟩,ø⟩,O⟩)))
   ·
    obtain⟨p_,h,hp⟩:=hi228.done ha228
    replace h:=app1 hkx228 h
    refine JLh (BL false) (Hk O O O) O (G7 (hK229 (Js fun hK233=>Q3a O (Hm (hK218 (Jr fun hK234=>(Yb (.vec 1064 s228.length 4 s228.length) O ?_)))))))
    obtain⟨r235,hr235,h⟩:=Ge h
    refine G5f O O O (H4b (args:=[.vec 1064 s228.length 4 s228.length,.fn 53 []]) (L0:=[(1064,.vec 94 4 s228.length (s228.map H8.av))]) (u:=fun p=>.vec 1064 p 4 r235.length) (Lr:=fun p=>[(1064,.vec 94 4 p (r235.map H8.av))]) O (Gb6 F s228 s228.length (fun z0 z1=>Zr z0 z1) 53 [] Qc3 O (fun z0 z1 q hq=>J66 z0 z1 q hq) r235 hr235) Qc4 ⟨.inl O,O,.inl O,O,ø⟩ ⟨O,ø⟩ O (fun _=>O)) ?_
    rintro u_ L_ ⟨v236,rfl,rfl⟩
    refine Yb (.vec 1064 v236 4 r235.length) O (Yb (G0 0) O (G7 (hK234 (J3a [(4,Ec r235),(5,G0 0)] [] 1064 rfl rfl ø rfl (by exact⟨.vec,.conv (.same rfl),ø⟩) (Gs (⟨[Ec r235,G0 0],[],ø,O,⟨⟨_,O,.conv (.same O)⟩,⟨_,O,.conv (.same O)⟩,ø⟩,O,(r235,0),Eq.mpr (Option.some.inj h) hp,O⟩))))))
theorem Jc8 (S_:Nat→(Gw)→(List Move)→Option ((List H8)×Int)) (hS_:∀ F s l r,S_ F s l=some r→∃ p:Prop,G95 F s l (fun r_=>r_=r)=some p∧p) (F:Nat) (s:Gw) (l:List Move) (r:(List H8)×Int) (h:S_ F s l=some r):Pure Ep 20 [.agg (Gw.cs s),E6 l] (·=.tup [Ec r.1,G0 r.2]):=by
 obtain⟨p,h1,h2⟩:=hS_ F s l r h
 exact(Jc7 F s l _ p h1 h2).monoP (fun av hh=>by obtain⟨r_,rfl,ha⟩:=hh; exact ha)

def H78 (l:List Move):Option Int:=
 each (fun y19 i19 (s19:Int) nx19=>
  jp (fun kj22=>
   bif ((decide (y19.Kind=2))||(decide (y19.Kind=3))) then
   (Rc (s19+1) fun v25=>
    kj22 v25)
   else
   (kj22 s19)) fun(j22:Int)=>
  nx19 j22)
 (fun(s19:Int)=>
  some s19) l 0 0
theorem Jc9 (l:List Move) (r:Int) (h:H78 l=some r):Pure Ep 22 [E6 l] (·=G0 r):=by
 unfold H78 at h
 refine Gz [.tmp 2] Tryz.func22 O O (Jr fun hK1=>(Yb (G0 0) O (G7 (hK1 (Jr fun hK2=>(Yb (G0 0) O (G7 (hK2 (Js fun hK3=>Jr fun hK4=>(Yb (E6 l) O (JLl Qz O O O fun hm7=>(Yb (G0 0) O (G7 (hK4 (Gj ?_)))))))))))))))
 obtain⟨b19,kx19,hb19,hkx19,h⟩:=J2 h
 refine Hb (fun i19 (s19:Int)=>each b19 kx19 (List.drop i19 l) i19 s19=some r) (fun i19 s19=>[(3,G0 s19),(6,E6 l),(7,Eo l.length),(8,Eo i19)]) (fun i19 s19=>[]) (fun i19=>l.length - i19) 0 0 h ⟨(.sm O O),ø,rfl⟩ ?_
 clear h
 intro i19 s19 hi19 K19 e19
 refine Jr fun hK20=>(JLh (BL (decide ((i19:Int) < (l.length:Int)))) (J0 O O O) O (G7 (hK20 (Js fun hK21=>Gf O (fun hb=>?_) (fun hb=>?_)))))
 ·
  have hk19:=Jk hb
  obtain⟨y19,nx19,hy19,hn19,h⟩:=Hs hi19 hk19
  replace h:=Y4 hb19 h
  refine Gi (hK21 ?_)
  obtain⟨kj22,hkj22,h⟩:=Qo h
  refine Jx (fun j22:Int=>kj22 j22=some r) (fun j22=>[(3,G0 j22),(6,E6 l),(7,Eo l.length),(8,Eo i19)]) (fun j22=>[]) (fun Kj22 ej22=>?_) ?_
  ·
   refine Gj (Jr fun hK23=>(JLh (Ej y19) (H3 (f:=Move.av) (xs:=l) (y:=y19) O O O Qz hy19 O) O (JLh (.agg (Move.cs y19)) (Gg H1d O O O) O (JLh (.ptr 1068 0) (Hx 1068 6 Ga4 O O) O (Hw (u:=.junk) (Hd (u:=.agg (Move.cs y19)) (ds:=[U8 y19.Kind,G0 y19.Gd,G0 y19.Slot.G4,G0 y19.Slot.Tier,U8 y19.Slot.Half,G0 y19.G9]) J20 O O O O O O O O) (G7 (hK23 (Gq [(3,G0 s19),(5,Ej y19),(6,E6 l),(7,Eo l.length),(8,Eo i19)] [] 1068 rfl rfl rfl ø rfl (by repeat' (first | exact .ptr | constructor)) ?_))))))))
   refine Jr fun hK24=>(JLh (Ej y19) (Ga G01 O O O) O (JLh (U8 y19.Kind) (Gh Hz O O O) O (JLh (BL (decide (y19.Kind=2))) (Jz O O O) O (Yb (BL (decide (y19.Kind=2))) O (JLo (Ej y19) [] O .scf ø (fun hc=>Ga G01 O O O) O (JLo (U8 y19.Kind) [16] O .scf ⟨Ua,ø⟩ (fun hc=>Gh Hz O O O) O (JLo (BL (decide (y19.Kind=3))) [17] O .scf ⟨Ua,ø⟩ (fun hc=>Jz O O O) O (JLh (BL ((decide (y19.Kind=2))||(decide (y19.Kind=3)))) (G0b O O O O) O (G7 (hK24 (JCc O h (fun h hb=>?_) (fun h hb=>?_))))))))))))
   ·
    refine G3 (Yb (G0 s19) O ?_)
    obtain⟨v25,hv25,h⟩:=Hv h
    refine JLh (G0 v25) (Hu hv25 O O O) O (Yb (G0 v25) O (G7 (ej22 _ _ v25 h ⟨(.sm O O),ø,rfl⟩)))
   ·
    refine Gi (ej22 _ _ s19 h ⟨(.sm O O),ø,rfl⟩)
  ·intro j22 h
   replace h:=app1 hkj22 h
   refine G3 (JLh (G0 ((i19+1:Nat):Int)) (Hu (Hj hk19 hm7) O O O) O (Yb (G0 ((i19+1:Nat):Int)) O (G7 (e19 _ _ (i19+1) j22 (app1 hn19 h) (by omega) ⟨(.sm O O),ø,rfl⟩))))
 ·
  have h:=app1 hkx19 (Ht hi19 (Ha hb))
  refine Hm (hK3 (Jr fun hK26=>(Yb (G0 s19) O (Yb (G0 s19) O (G7 (hK26 (Gs (fin1 G0 h))))))))
end
end Go.Proofs.YtknalejjpofoaaaGreat
