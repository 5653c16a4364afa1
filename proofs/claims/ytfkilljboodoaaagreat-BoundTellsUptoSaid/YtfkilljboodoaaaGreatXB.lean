/-
 Models of functions of the program,and that they return what the models say.
-/
import Derived.Test.YtfkilljboodoaaaGreatXL
set_option maxRecDepth 100000
set_option linter.unusedVariables false
set_option linter.unusedSimpArgs false
namespace Go.Proofs.YtfkilljboodoaaaGreat
open Go.RowKit
noncomputable section

namespace XBF
open XAF
open XLF
theorem Gca:Hn Tryz.prog 107=true:=by kernel_rfl
theorem H9a:Hn Tryz.prog 111=true:=by kernel_rfl
theorem J2e:Hn Tryz.prog 112=true:=by kernel_rfl
theorem H99:Hn Tryz.prog 113=true:=by kernel_rfl
theorem Q0e:Hn Tryz.prog 17=true:=by kernel_rfl
theorem J25:Hn Tryz.prog 218=true:=by kernel_rfl
theorem Jcf:Hn Tryz.prog 219=true:=by kernel_rfl
theorem Jce:Hn Tryz.prog 220=true:=by kernel_rfl
theorem Jcd:Hn Tryz.prog 221=true:=by kernel_rfl
theorem Jcc:Hn Tryz.prog 222=true:=by kernel_rfl
theorem Jcb:Hn Tryz.prog 223=true:=by kernel_rfl
theorem Jca:Hn Tryz.prog 224=true:=by kernel_rfl
theorem Jc7:Hn Tryz.prog 277=true:=by kernel_rfl
theorem J20:Hn Tryz.prog 278=true:=by kernel_rfl
theorem Jc6:Hn Tryz.prog 308=true:=by kernel_rfl
theorem Gfe:Hn Tryz.prog 37=true:=by kernel_rfl
theorem H61:Hn Tryz.prog 39=true:=by kernel_rfl
theorem J74:Hn Tryz.prog 71=true:=by kernel_rfl
theorem G20:Q1 Tryz.prog 117 0 0=true:=by kernel_rfl
theorem H8d:Q1 Tryz.prog 117 3 3=true:=by kernel_rfl
theorem Gbc:Hd1 Tryz.prog 286 .u64=true:=by kernel_rfl
theorem H4a:Hd1 Tryz.prog 3 .i64=true:=by kernel_rfl
theorem H5d:Gae Tryz.prog 191 72 3=true:=by kernel_rfl
theorem G3e:(Tryz.prog.info? 3).bind (fun i=>i.zero.map Value.cells)=some (List.toArray [.int .i64 0]):=by kernel_rfl
theorem Jc1:Zd Tryz.prog 51 1=true:=by kernel_rfl
end XBF
open XAF
open XLF
open XBF

def Gb4 (boxes:List H4) (calls:Int):Option Bool:=
 bif (((decide (calls < 1))||(decide (20 < calls)))||(decide (2000 < (boxes.length:Int)))) then
 (some false)
 else
 (each (fun y28 i28 (s28:Int) nx28=>
   bif ((((((decide (y28.ID≤s28))||(decide (999999 < y28.ID)))||((decide (y28.Size≠40))&&((decide (y28.Size≠20))||y28.High)))||(decide (y28.Load < 0)))||(decide (y28.Discharge≤y28.Load)))||(decide (calls≤y28.Discharge))) then
   (some false)
   else
   (nx28 y28.ID))
  (fun(s28:Int)=>
   some true) boxes 0 0)
theorem J9f (boxes:List H4) (calls:Int) (r:Bool) (h:Gb4 boxes calls=some r):Pure Tryz.prog 17 [E2 boxes,G1 calls] (·=BL r):=by
 unfold Gb4 at h
 refine H1 [.tmp 4] Tryz.func17 G G (G5 fun K1 hK1=>G3 (JLh (BL false) (G8 G G) G (G9 (hK1 _ _ (G5 (fun K2 hK2=>G5 fun K3 hK3=>G3 (JLh (G1 calls) (G4 G G) G (JLh (BL (decide (calls < 1))) (Hx G G G) G (JLh (BL (decide (calls < 1))) (G4 G G) G (Gd (u:=G1 calls) [] G G G .scf ø (fun hc=>G4 G G) ?_))))))))))
 refine Gd (u:=BL (decide (20 < calls))) [(11,G1 calls)] G G G .scf ⟨.all id,ø⟩ (fun hc=>Ya G G G) ?_
 refine JLh (BL ((decide (calls < 1))||(decide (20 < calls)))) (Z5 G G G G) G (JLh (BL ((decide (calls < 1))||(decide (20 < calls)))) (G4 G G) G (Gd (u:=E2 boxes) [] G G G .scf ø (fun hc=>G4 G G) ?_))
 refine Gd (u:=En boxes.length) [(15,E2 boxes)] G G G .scf ⟨.all id,ø⟩ (fun hc=>Jp (f:=H4.av) (xs:=boxes) Ht G G) ?_
 refine Gd (u:=BL (decide (2000 < (boxes.length:Int)))) [(16,En boxes.length)] G G G .scf ⟨.all id,ø⟩ (fun hc=>Ya G G G) ?_
 refine JLh (BL (((decide (calls < 1))||(decide (20 < calls)))||(decide (2000 < (boxes.length:Int))))) (Z5 G G G G) G (G9 (hK3 _ _ (Gp G (fun hb=>?_) (fun hb=>?_))))
 ·
  replace h:=Gy hb h
  refine G5 fun K4 hK4=>G3 (JLh (BL false) (G8 G G) G (G9 (hK4 _ _ (Gx (⟨[BL false],[],ø,G,⟨⟨_,G,.conv (.same G)⟩,ø⟩,G,congrArg (fun r:Bool=>(BL r:AV)) (Option.some.inj h)⟩)))))
 ·
  replace h:=Hp hb h
  refine Gq (hK2 _ _ (G5 fun K5 hK5=>G3 (JLh (G1 0) (G8 G G) G (G9 (hK5 _ _ (G5 (fun K6 hK6=>G5 fun K7 hK7=>G3 (JLh (E2 boxes) (G4 G G) G (H0 (f:=H4.av) (xs:=boxes) Ht G G (fun hm20=>?_) G G G)))))))))
  refine JLh (G1 0) (G4 G G) G (G9 (hK7 _ _ (Gn ?_)))
  obtain⟨b28,kx28,hb28,hkx28,h⟩:=J9 h
  refine H7 (fun i28 (s28:Int)=>each b28 kx28 (List.drop i28 boxes) i28 s28=some r) (fun i28 s28=>[(1,G1 calls),(5,G1 s28),(19,E2 boxes),(20,En boxes.length),(21,En i28)]) (fun i28 s28=>[]) (fun i28=>boxes.length - i28) 0 0 h ⟨(by repeat' constructor),ø,rfl⟩ ?_
  clear h
  intro i28 s28 hi28 K28 e28
  refine G5 fun K29 hK29=>G3 (JLh (BL (decide ((i28:Int) < (boxes.length:Int)))) (Hx G G G) G (G9 (hK29 _ _ (G5 (fun K30 hK30=>Gp G (fun hb=>?_) (fun hb=>?_))))))
  ·
   have hk28:=Jm hb
   obtain⟨y28,nx28,hy28,hn28,h⟩:=Hy hi28 hk28
   replace h:=Zn hb28 h
   refine Gq (hK30 _ _ (G5 (fun K31 hK31=>Gn (G5 fun K32 hK32=>G3 (JLh (Eg y28) (Gv (f:=H4.av) (xs:=boxes) (y:=y28) G G G Ht hy28 G) G (JLh (.agg (H4.cs y28)) (Gi G62 G G G) G (JLh (.ptr 1009 0) (Jn 1009 9 G49 G G) G (Jb (u:=.junk) (J4 (u:=.agg (H4.cs y28)) (ds:=(H4.cs y28)) Gc9 G G G G G G G G) (G9 (hK32 _ _ (Gz [(1,G1 calls),(5,G1 s28),(7,Eg y28),(19,E2 boxes),(20,En boxes.length),(21,En i28)] [] 1009 rfl rfl rfl ø rfl (by repeat' (first | exact .ptr | constructor)) (G5 (fun K33 hK33=>?_)))))))))))))
   refine G5 fun K34 hK34=>G3 (JLh (Eg y28) (Ge G20 G G G) G (JLh (G1 y28.ID) (Gk Gc G G G) G (JLh (G1 s28) (G4 G G) G (JLh (BL (decide (y28.ID≤s28))) (H81 G G G) G (JLh (BL (decide (y28.ID≤s28))) (G4 G G) G (Gd (u:=Eg y28) [] G G G .scf ø (fun hc=>Ge G20 G G G) ?_))))))
   refine Gd (u:=G1 y28.ID) [(30,Eg y28)] G G G .scf ⟨.all id,ø⟩ (fun hc=>Gk Gc G G G) ?_
   refine Gd (u:=BL (decide (999999 < y28.ID))) [(31,G1 y28.ID)] G G G .scf ⟨.all id,ø⟩ (fun hc=>Ya G G G) ?_
   refine JLh (BL ((decide (y28.ID≤s28))||(decide (999999 < y28.ID)))) (Z5 G G G G) G (JLh (BL ((decide (y28.ID≤s28))||(decide (999999 < y28.ID)))) (G4 G G) G (Gd (u:=.dptr ((H4.cs y28).drop 2)) [] G G G .scf ø (fun hc=>Ge Zz G G G) ?_))
   refine Gd (u:=U8 y28.Size) [(35,.dptr ((H4.cs y28).drop 2))] G G G .scf ⟨.all id,ø⟩ (fun hc=>Gk G47 G G G) ?_
   refine Gd (u:=BL (decide (y28.Size≠40))) [(36,U8 y28.Size)] G G G .scf ⟨.all id,ø⟩ (fun hc=>G14 G G G) ?_
   refine Gd (u:=BL (decide (y28.Size≠40))) [(37,BL (decide (y28.Size≠40)))] G G G .scf ⟨.all id,ø⟩ (fun hc=>G4 G G) ?_
   refine Gd (u:=.dptr ((H4.cs y28).drop 2)) [] G G G .optt ø (fun hc=>Ge Zz G G G) ?_
   refine Gd (u:=U8 y28.Size) [(39,.dptr ((H4.cs y28).drop 2))] G G G .optt ⟨.all id,ø⟩ (fun hc=>Gk G47 G G G) ?_
   refine Gd (u:=BL (decide (y28.Size≠20))) [(40,U8 y28.Size)] G G G .optt ⟨.all id,ø⟩ (fun hc=>G14 G G G) ?_
   refine Gd (u:=BL (decide (y28.Size≠20))) [(41,BL (decide (y28.Size≠20)))] G G G .optt ⟨.all id,ø⟩ (fun hc=>G4 G G) ?_
   refine Gd (u:=.dptr ((H4.cs y28).drop 3)) [] G G G .optf ø (fun hc=>Ge H8d G G G) ?_
   refine Gd (u:=BL y28.High) [(43,.dptr ((H4.cs y28).drop 3))] G G G .optf ⟨.all id,ø⟩ (fun hc=>Gk G60 G G G) ?_
   refine Gd (u:=BL ((decide (y28.Size≠20))||y28.High)) [(42,BL (decide (y28.Size≠20))),(44,_)] G G G .optt ⟨.all id,.part,ø⟩ (fun hc=>Z5 G G G G) ?_
   refine Gd (u:=BL ((decide (y28.Size≠40))&&((decide (y28.Size≠20))||y28.High))) [(38,BL (decide (y28.Size≠40))),(45,_)] G G G .scf ⟨.all id,.part,ø⟩ (fun hc=>J7 G G G G) ?_
   refine JLh (BL (((decide (y28.ID≤s28))||(decide (999999 < y28.ID)))||((decide (y28.Size≠40))&&((decide (y28.Size≠20))||y28.High)))) (Z5 G G G G) G (JLh (BL (((decide (y28.ID≤s28))||(decide (999999 < y28.ID)))||((decide (y28.Size≠40))&&((decide (y28.Size≠20))||y28.High)))) (G4 G G) G (Gd (u:=.dptr ((H4.cs y28).drop 5)) [] G G G .scf ø (fun hc=>Ge Zf G G G) ?_))
   refine Gd (u:=G1 y28.Load) [(49,.dptr ((H4.cs y28).drop 5))] G G G .scf ⟨.all id,ø⟩ (fun hc=>Gk Gc G G G) ?_
   refine Gd (u:=BL (decide (y28.Load < 0))) [(50,G1 y28.Load)] G G G .scf ⟨.all id,ø⟩ (fun hc=>Hx G G G) ?_
   refine JLh (BL ((((decide (y28.ID≤s28))||(decide (999999 < y28.ID)))||((decide (y28.Size≠40))&&((decide (y28.Size≠20))||y28.High)))||(decide (y28.Load < 0)))) (Z5 G G G G) G (JLh (BL ((((decide (y28.ID≤s28))||(decide (999999 < y28.ID)))||((decide (y28.Size≠40))&&((decide (y28.Size≠20))||y28.High)))||(decide (y28.Load < 0)))) (G4 G G) G (Gd (u:=.dptr ((H4.cs y28).drop 5)) [] G G G .scf ø (fun hc=>Ge Zf G G G) ?_))
   refine Gd (u:=G1 y28.Load) [(54,.dptr ((H4.cs y28).drop 5))] G G G .scf ⟨.all id,ø⟩ (fun hc=>Gk Gc G G G) ?_
   refine Gd (u:=.dptr ((H4.cs y28).drop 6)) [] G G G .scf ø (fun hc=>Ge Ze G G G) ?_
   refine Gd (u:=G1 y28.Discharge) [(56,.dptr ((H4.cs y28).drop 6))] G G G .scf ⟨.all id,ø⟩ (fun hc=>Gk Gc G G G) ?_
   refine Gd (u:=BL (decide (y28.Discharge≤y28.Load))) [(55,G1 y28.Load),(57,G1 y28.Discharge)] G G G .scf ⟨.all id,.all id,ø⟩ (fun hc=>G28 G G G) ?_
   refine JLh (BL (((((decide (y28.ID≤s28))||(decide (999999 < y28.ID)))||((decide (y28.Size≠40))&&((decide (y28.Size≠20))||y28.High)))||(decide (y28.Load < 0)))||(decide (y28.Discharge≤y28.Load)))) (Z5 G G G G) G (JLh (BL (((((decide (y28.ID≤s28))||(decide (999999 < y28.ID)))||((decide (y28.Size≠40))&&((decide (y28.Size≠20))||y28.High)))||(decide (y28.Load < 0)))||(decide (y28.Discharge≤y28.Load)))) (G4 G G) G (Gd (u:=.dptr ((H4.cs y28).drop 6)) [] G G G .scf ø (fun hc=>Ge Ze G G G) ?_))
   refine Gd (u:=G1 y28.Discharge) [(61,.dptr ((H4.cs y28).drop 6))] G G G .scf ⟨.all id,ø⟩ (fun hc=>Gk Gc G G G) ?_
   refine Gd (u:=G1 calls) [] G G G .scf ø (fun hc=>G4 G G) ?_
   refine Gd (u:=BL (decide (calls≤y28.Discharge))) [(62,G1 y28.Discharge),(63,G1 calls)] G G G .scf ⟨.all id,.all id,ø⟩ (fun hc=>G28 G G G) ?_
   refine JLh (BL ((((((decide (y28.ID≤s28))||(decide (999999 < y28.ID)))||((decide (y28.Size≠40))&&((decide (y28.Size≠20))||y28.High)))||(decide (y28.Load < 0)))||(decide (y28.Discharge≤y28.Load)))||(decide (calls≤y28.Discharge)))) (Z5 G G G G) G (G9 (hK34 _ _ (Gp G (fun hb=>?_) (fun hb=>?_))))
   ·
    replace h:=Gy hb h
    refine G5 fun K35 hK35=>G3 (JLh (BL false) (G8 G G) G (G9 (hK35 _ _ (Gx (⟨[BL false],[],ø,G,⟨⟨_,G,.conv (.same G)⟩,ø⟩,G,congrArg (fun r:Bool=>(BL r:AV)) (Option.some.inj h)⟩)))))
   ·
    replace h:=Hp hb h
    refine Gq (hK33 _ _ (G3 (JLh (Eg y28) (Ge G20 G G G) G (JLh (G1 y28.ID) (Gk Gc G G G) G (JLh (G1 y28.ID) (G8 G G) G (G9 (hK31 _ _ (G3 (JLh (G1 ((i28+1:Nat):Int)) (Hj (Hi hk28 hm20) G G G) G (JLh (G1 ((i28+1:Nat):Int)) (G4 G G) G (G9 (e28 _ _ (i28+1) y28.ID (app1 hn28 h) (by omega) ⟨(by repeat' constructor),ø,rfl⟩))))))))))))
  ·
   have h:=app1 hkx28 (Hz hi28 (Hg hb))
   refine Hc (hK6 _ _ (G5 fun K36 hK36=>G3 (JLh (BL true) (G8 G G) G (G9 (hK36 _ _ (Gx (⟨[BL true],[],ø,G,⟨⟨_,G,.conv (.same G)⟩,ø⟩,G,congrArg (fun r:Bool=>(BL r:AV)) (Option.some.inj h)⟩)))))))

def Zc (s:J0) (boxes:List H4):Option Bool:=
 bnd (G6d s) fun r3=>
 bnd (bif r3 then Gb4 boxes 20 else some default) fun r4=>
 some (r3&&r4)
theorem Gdf (s:J0) (boxes:List H4) (r:Bool) (h:Zc s boxes=some r):Pure Tryz.prog 111 [.agg (J0.cs s),E2 boxes] (·=BL r):=by
 unfold Zc at h
 refine H1 [.tmp 4] Tryz.func111 G G (G5 fun K1 hK1=>G3 (JLh (.ptr 1081 0) (Qi (u:=.agg (J0.cs s)) (cs:=(J0.cs s)) 1081 G G G G G) G (JLh (BL false) (G8 G G) G (G9 (hK1 _ _ ?_)))))
 refine Gz [(1,E2 boxes),(2,Ed s)] [] 1081 rfl rfl rfl ø rfl (by exact⟨.conv (.same rfl),.ptr,ø⟩) (G5 fun K2 hK2=>G3 (JLh (.agg (J0.cs s)) (Gi Jd G G G) G ?_))
 obtain⟨r3,hr3,h⟩:=Gf h
 refine JLh (BL r3) (Gs (args:=[.agg (J0.cs s)]) G (Haa.down s r3 hr3) J74 ⟨G,G,ø⟩) G (JLh (BL r3) (G4 G G) G (Gd (u:=E2 boxes) [] G G G .sct ø (fun hc=>G4 G G) ?_))
 obtain⟨r4,hr4,h⟩:=Gf h
 refine Gd (u:=BL r4) [(8,E2 boxes)] G G G .sct ⟨.all id,ø⟩ (fun hc=>Gs (args:=[E2 boxes,G1 20]) G (J9f boxes 20 r4 (Gy hc hr4)) Q0e ⟨G,G,G,G,ø⟩) ?_
 refine JLh (BL (r3&&r4)) (J7 G G G G) G (JLh (BL (r3&&r4)) (G8 G G) G (G9 (hK2 _ _ (Gx (⟨[BL (r3&&r4)],[],ø,G,⟨⟨_,G,.conv (.same G)⟩,ø⟩,G,congrArg (fun r:Bool=>(BL r:AV)) (Option.some.inj h)⟩)))))

def G44 (c:G2) (p1:G6):Option Bool:=
 some (decide (c.G6=p1))
theorem Hd4 (c:G2) (p1:G6) (r:Bool) (h:G44 c p1=some r):Pure Tryz.prog 219 [.agg (G2.cs c),.dptr [G1 p1.Load,G1 p1.Discharge]] (·=BL r):=by
 unfold G44 at h
 refine H1 [.tmp 3] Tryz.func219 G G (G5 fun K1 hK1=>G3 (JLh (.ptr 1129 0) (Qi (u:=.agg (G2.cs c)) (cs:=[G1 c.G6.Load,G1 c.G6.Discharge,G1 c.Whole,G1 c.Half]) 1129 G G G G G) G (JLh (BL false) (G8 G G) G (G9 (hK1 _ _ (Gz [(1,.dptr [G1 p1.Load,G1 p1.Discharge]),(2,Ee c)] [] 1129 rfl rfl rfl ø rfl (by exact⟨.conv (.same rfl),.ptr,ø⟩) ?_))))))
 refine G5 fun K2 hK2=>G3 (JLh (Ee c) (Ge Ju G G G) G (JLh (.agg [G1 c.G6.Load,G1 c.G6.Discharge]) (Gi Ho G G G) G (JLh (.agg [G1 p1.Load,G1 p1.Discharge]) (Gi Ho G G G) G (JLh (BL (decide (c.G6=p1))) (G73 (vs:=[.int .i64 c.G6.Load,.int .i64 c.G6.Discharge]) (us:=[.int .i64 p1.Load,.int .i64 p1.Discharge]) 4 G (J6b c.G6 p1) G9a Gf4 G G G) G (JLh (BL (decide (c.G6=p1))) (G8 G G) G (G9 (hK2 _ _ (Gx (⟨[BL (decide (c.G6=p1))],[],ø,G,⟨⟨_,G,.conv (.same G)⟩,ø⟩,G,congrArg (fun r:Bool=>(BL r:AV)) (Option.some.inj h)⟩)))))))))

def Ra (s:List G2) (f:G2→Option Bool):Option Int:=
 each (fun y20 i20 (s20:Unit) nx20=>
  bnd (f y20) fun r26=>
  bif r26 then
  (some (i20:Int))
  else
  (nx20 ()))
 (fun(s20:Unit)=>
  some (-1)) s 0 ()
theorem G3b (s:List G2) (f:G2→Option Bool) (f_f:FuncId) (f_c:List AV) (f_B:Hn Tryz.prog f_f=true) (f_d:G0a (fun _=>false) f_c=true) (f_w:∀ a0 q,f a0=some q→Pure Tryz.prog f_f ([.agg (G2.cs a0)]++f_c) (·=BL q)) (r:Int) (h:Ra s f=some r):Pure Tryz.prog 218 [E3 s,.fn f_f f_c] (·=G1 r):=by
 unfold Ra at h
 refine H1 [.tmp 4] Tryz.func218 G G (G5 fun K1 hK1=>G3 (JLh (G1 0) (G8 G G) G (G9 (hK1 _ _ (G5 (fun K2 hK2=>G5 fun K3 hK3=>G3 (JLh (E3 s) (G4 G G) G (H0 (f:=G2.av) (xs:=s) H8 G G (fun hm7=>?_) G G G))))))))
 refine JLh (G1 0) (G4 G G) G (G9 (hK3 _ _ (Gn ?_)))
 obtain⟨b20,kx20,hb20,hkx20,h⟩:=J9 h
 refine H7 (fun i20 (s20:Unit)=>each b20 kx20 (List.drop i20 s) i20 s20=some r) (fun i20 s20=>[(0,E3 s),(1,.fn f_f f_c),(7,En s.length),(8,En i20)]) (fun i20 s20=>[]) (fun i20=>s.length - i20) 0 () h ⟨⟨.same G,.same (Yb _ _ f_d),.same G,.same G,ø⟩,ø,G⟩ ?_
 clear h
 intro i20 s20 hi20 K20 e20
 refine G5 fun K21 hK21=>G3 (JLh (BL (decide ((i20:Int) < (s.length:Int)))) (Hx G G G) G (G9 (hK21 _ _ (G5 (fun K22 hK22=>Gp G (fun hb=>?_) (fun hb=>?_))))))
 ·
  have hk20:=Jm hb
  obtain⟨y20,nx20,hy20,hn20,h⟩:=Hy hi20 hk20
  replace h:=Zn hb20 h
  refine Gq (hK22 _ _ (G5 (fun K23 hK23=>Gn (G5 fun K24 hK24=>G3 (JLh (En i20) (G4 G G) G (JLh (En i20) (G8 G G) G (G9 (hK24 _ _ (G5 fun K25 hK25=>G3 (JLh (.fn f_f f_c) (G4 G G) G (JLh (E3 s) (G4 G G) G (JLh (En i20) (G4 G G) G (JLh (Ee y20) (Gv (f:=G2.av) (xs:=s) (y:=y20) G G G H8 hy20 G) G (JLh (.agg (G2.cs y20)) (Gi R0 G G G) G ?_))))))))))))))
  obtain⟨r26,hr26,h⟩:=Gf h
  refine JLh (BL r26) (H58 (args:=[.agg (G2.cs y20)]) (caps:=f_c) G G (f_w y20 _ hr26) f_B ⟨G,G,ø⟩ f_d) G (G9 (hK25 _ _ (Gp G (fun hb=>?_) (fun hb=>?_))))
  ·
   replace h:=Gy hb h
   refine G5 fun K27 hK27=>G3 (JLh (En i20) (G4 G G) G (JLh (En i20) (G8 G G) G (G9 (hK27 _ _ (Gx (⟨[En i20],[],ø,G,⟨⟨_,G,.conv (.same G)⟩,ø⟩,G,congrArg (fun r:Int=>(G1 r:AV)) (Option.some.inj h)⟩))))))
  ·
   replace h:=Hp hb h
   refine Gq (hK23 _ _ (G3 (JLh (G1 ((i20+1:Nat):Int)) (Hj (Hi hk20 hm7) G G G) G (JLh (G1 ((i20+1:Nat):Int)) (G4 G G) G (G9 (e20 _ _ (i20+1) () (app1 hn20 h) (by omega) ⟨⟨.same rfl,.same (Yb _ _ f_d),.same rfl,.same rfl,ø⟩,ø,rfl⟩))))))
 ·
  have h:=app1 hkx20 (Hz hi20 (Hg hb))
  refine Hc (hK2 _ _ (G5 fun K28 hK28=>G3 (JLh (G1 (-1)) (G8 G G) G (G9 (hK28 _ _ (Gx (⟨[G1 (-1)],[],ø,G,⟨⟨_,G,.conv (.same G)⟩,ø⟩,G,congrArg (fun r:Int=>(G1 r:AV)) (Option.some.inj h)⟩)))))))

def G39 (a:G6) (b:G6):Option Bool:=
 some (((decide (a.Load < b.Load))&&(decide (b.Load < a.Discharge)))&&(decide (a.Discharge < b.Discharge)))
theorem G90 (a:G6) (b:G6) (r:Bool) (h:G39 a b=some r):Pure Tryz.prog 39 [.agg [G1 a.Load,G1 a.Discharge],.agg [G1 b.Load,G1 b.Discharge]] (·=BL r):=by
 unfold G39 at h
 refine H1 [.tmp 4] Tryz.func39 G G (G5 fun K1 hK1=>G3 (JLh (.ptr 1029 0) (Qi (u:=.agg [G1 a.Load,G1 a.Discharge]) (cs:=[G1 a.Load,G1 a.Discharge]) 1029 G G G G G) G (JLh (.ptr 1030 0) (Qi (u:=.agg [G1 b.Load,G1 b.Discharge]) (cs:=[G1 b.Load,G1 b.Discharge]) 1030 G G G G G) G (JLh (BL false) (G8 G G) G (G9 (hK1 _ _ (Gz [(2,.dptr [G1 a.Load,G1 a.Discharge]),(3,.ptr 1030 0)] [(1030,.box 72 [G1 b.Load,G1 b.Discharge])] 1029 rfl rfl rfl ⟨⟨_,rfl,.boxEq rfl rfl⟩,ø⟩ rfl (by exact⟨.ptr,.conv (.same rfl),ø⟩) (Gz [(2,.dptr [G1 a.Load,G1 a.Discharge]),(3,.dptr [G1 b.Load,G1 b.Discharge])] [] 1030 rfl rfl rfl ø rfl (by exact⟨.conv (.same rfl),.ptr,ø⟩) ?_))))))))
 refine G5 fun K2 hK2=>G3 (JLh (.dptr [G1 a.Load,G1 a.Discharge]) (Ge Jv G G G) G (JLh (G1 a.Load) (Gk Gc G G G) G (JLh (.dptr [G1 b.Load,G1 b.Discharge]) (Ge Jv G G G) G (JLh (G1 b.Load) (Gk Gc G G G) G (JLh (BL (decide (a.Load < b.Load))) (Hx G G G) G (JLh (BL (decide (a.Load < b.Load))) (G4 G G) G (Gd (u:=.dptr [G1 b.Load,G1 b.Discharge]) [] G G G .sct ø (fun hc=>Ge Jv G G G) ?_)))))))
 refine Gd (u:=G1 b.Load) [(11,.dptr [G1 b.Load,G1 b.Discharge])] G G G .sct ⟨.all id,ø⟩ (fun hc=>Gk Gc G G G) ?_
 refine Gd (u:=.dptr [G1 a.Discharge]) [] G G G .sct ø (fun hc=>Ge Qb G G G) ?_
 refine Gd (u:=G1 a.Discharge) [(13,.dptr [G1 a.Discharge])] G G G .sct ⟨.all id,ø⟩ (fun hc=>Gk Gc G G G) ?_
 refine Gd (u:=BL (decide (b.Load < a.Discharge))) [(12,G1 b.Load),(14,G1 a.Discharge)] G G G .sct ⟨.all id,.all id,ø⟩ (fun hc=>Hx G G G) ?_
 refine JLh (BL ((decide (a.Load < b.Load))&&(decide (b.Load < a.Discharge)))) (J7 G G G G) G (JLh (BL ((decide (a.Load < b.Load))&&(decide (b.Load < a.Discharge)))) (G4 G G) G (Gd (u:=.dptr [G1 a.Discharge]) [] G G G .sct ø (fun hc=>Ge Qb G G G) ?_))
 refine Gd (u:=G1 a.Discharge) [(18,.dptr [G1 a.Discharge])] G G G .sct ⟨.all id,ø⟩ (fun hc=>Gk Gc G G G) ?_
 refine Gd (u:=.dptr [G1 b.Discharge]) [] G G G .sct ø (fun hc=>Ge Qb G G G) ?_
 refine Gd (u:=G1 b.Discharge) [(20,.dptr [G1 b.Discharge])] G G G .sct ⟨.all id,ø⟩ (fun hc=>Gk Gc G G G) ?_
 refine Gd (u:=BL (decide (a.Discharge < b.Discharge))) [(19,G1 a.Discharge),(21,G1 b.Discharge)] G G G .sct ⟨.all id,.all id,ø⟩ (fun hc=>Hx G G G) ?_
 refine JLh (BL (((decide (a.Load < b.Load))&&(decide (b.Load < a.Discharge)))&&(decide (a.Discharge < b.Discharge)))) (J7 G G G G) G (JLh (BL (((decide (a.Load < b.Load))&&(decide (b.Load < a.Discharge)))&&(decide (a.Discharge < b.Discharge)))) (G8 G G) G (G9 (hK2 _ _ (Gx (⟨[BL (((decide (a.Load < b.Load))&&(decide (b.Load < a.Discharge)))&&(decide (a.Discharge < b.Discharge)))],[],ø,G,⟨⟨_,G,.conv (.same G)⟩,ø⟩,G,congrArg (fun r:Bool=>(BL r:AV)) (Option.some.inj h)⟩)))))

def Zs (h_:G6) (p1:G6):Option Bool:=
 bnd (G39 p1 h_) fun r3=>
 some (!r3)
theorem Hd3 (h_:G6) (p1:G6) (r:Bool) (h:Zs h_ p1=some r):Pure Tryz.prog 221 [.agg [G1 h_.Load,G1 h_.Discharge],.dptr [G1 p1.Load,G1 p1.Discharge]] (·=BL r):=by
 unfold Zs at h
 refine H1 [.tmp 3] Tryz.func221 G G (G5 fun K1 hK1=>G3 (JLh (.ptr 1130 0) (Qi (u:=.agg [G1 h_.Load,G1 h_.Discharge]) (cs:=[G1 h_.Load,G1 h_.Discharge]) 1130 G G G G G) G (JLh (BL false) (G8 G G) G (G9 (hK1 _ _ (Gz [(1,.dptr [G1 p1.Load,G1 p1.Discharge]),(2,.dptr [G1 h_.Load,G1 h_.Discharge])] [] 1130 rfl rfl rfl ø rfl (by exact⟨.conv (.same rfl),.ptr,ø⟩) (G5 fun K2 hK2=>G3 (JLh (.agg [G1 p1.Load,G1 p1.Discharge]) (Gi Ho G G G) G (JLh (.agg [G1 h_.Load,G1 h_.Discharge]) (Gi Ho G G G) G ?_)))))))))
 obtain⟨r3,hr3,h⟩:=Gf h
 refine JLh (BL r3) (Gs (args:=[.agg [G1 p1.Load,G1 p1.Discharge],.agg [G1 h_.Load,G1 h_.Discharge]]) G (G90 p1 h_ r3 hr3) H61 ⟨G,G,G,G,ø⟩) G (JLh (BL (!r3)) (Yu (b:=r3) G G) G (JLh (BL (!r3)) (G8 G G) G (G9 (hK2 _ _ (Gx (⟨[BL (!r3)],[],ø,G,⟨⟨_,G,.conv (.same G)⟩,ø⟩,G,congrArg (fun r:Bool=>(BL r:AV)) (Option.some.inj h)⟩))))))

def Z8 (s:List G6) (f:G6→Option Bool):Option Int:=
 each (fun y20 i20 (s20:Unit) nx20=>
  bnd (f y20) fun r26=>
  bif r26 then
  (some (i20:Int))
  else
  (nx20 ()))
 (fun(s20:Unit)=>
  some (-1)) s 0 ()
theorem Gd1 (s:List G6) (f:G6→Option Bool) (f_f:FuncId) (f_c:List AV) (f_B:Hn Tryz.prog f_f=true) (f_d:G0a (fun _=>false) f_c=true) (f_w:∀ a0 q,f a0=some q→Pure Tryz.prog f_f ([.agg [G1 a0.Load,G1 a0.Discharge]]++f_c) (·=BL q)) (r:Int) (h:Z8 s f=some r):Pure Tryz.prog 277 [E1 s,.fn f_f f_c] (·=G1 r):=by
 unfold Z8 at h
 refine H1 [.tmp 4] Tryz.func277 G G (G5 fun K1 hK1=>G3 (JLh (G1 0) (G8 G G) G (G9 (hK1 _ _ (G5 (fun K2 hK2=>G5 fun K3 hK3=>G3 (JLh (E1 s) (G4 G G) G (H0 (f:=G6.av) (xs:=s) Ha G G (fun hm7=>?_) G G G))))))))
 refine JLh (G1 0) (G4 G G) G (G9 (hK3 _ _ (Gn ?_)))
 obtain⟨b20,kx20,hb20,hkx20,h⟩:=J9 h
 refine H7 (fun i20 (s20:Unit)=>each b20 kx20 (List.drop i20 s) i20 s20=some r) (fun i20 s20=>[(0,E1 s),(1,.fn f_f f_c),(7,En s.length),(8,En i20)]) (fun i20 s20=>[]) (fun i20=>s.length - i20) 0 () h ⟨⟨.same G,.same (Yb _ _ f_d),.same G,.same G,ø⟩,ø,G⟩ ?_
 clear h
 intro i20 s20 hi20 K20 e20
 refine G5 fun K21 hK21=>G3 (JLh (BL (decide ((i20:Int) < (s.length:Int)))) (Hx G G G) G (G9 (hK21 _ _ (G5 (fun K22 hK22=>Gp G (fun hb=>?_) (fun hb=>?_))))))
 ·
  have hk20:=Jm hb
  obtain⟨y20,nx20,hy20,hn20,h⟩:=Hy hi20 hk20
  replace h:=Zn hb20 h
  refine Gq (hK22 _ _ (G5 (fun K23 hK23=>Gn (G5 fun K24 hK24=>G3 (JLh (En i20) (G4 G G) G (JLh (En i20) (G8 G G) G (G9 (hK24 _ _ (G5 fun K25 hK25=>G3 (JLh (.fn f_f f_c) (G4 G G) G (JLh (E1 s) (G4 G G) G (JLh (En i20) (G4 G G) G (JLh (.dptr [G1 y20.Load,G1 y20.Discharge]) (Gv (f:=G6.av) (xs:=s) (y:=y20) G G G Ha hy20 G) G (JLh (.agg [G1 y20.Load,G1 y20.Discharge]) (Gi Ho G G G) G ?_))))))))))))))
  obtain⟨r26,hr26,h⟩:=Gf h
  refine JLh (BL r26) (H58 (args:=[.agg [G1 y20.Load,G1 y20.Discharge]]) (caps:=f_c) G G (f_w y20 _ hr26) f_B ⟨G,G,ø⟩ f_d) G (G9 (hK25 _ _ (Gp G (fun hb=>?_) (fun hb=>?_))))
  ·
   replace h:=Gy hb h
   refine G5 fun K27 hK27=>G3 (JLh (En i20) (G4 G G) G (JLh (En i20) (G8 G G) G (G9 (hK27 _ _ (Gx (⟨[En i20],[],ø,G,⟨⟨_,G,.conv (.same G)⟩,ø⟩,G,congrArg (fun r:Int=>(G1 r:AV)) (Option.some.inj h)⟩))))))
  ·
   replace h:=Hp hb h
   refine Gq (hK23 _ _ (G3 (JLh (G1 ((i20+1:Nat):Int)) (Hj (Hi hk20 hm7) G G G) G (JLh (G1 ((i20+1:Nat):Int)) (G4 G G) G (G9 (e20 _ _ (i20+1) () (app1 hn20 h) (by omega) ⟨⟨.same rfl,.same (Yb _ _ f_d),.same rfl,.same rfl,ø⟩,ø,rfl⟩))))))
 ·
  have h:=app1 hkx20 (Hz hi20 (Hg hb))
  refine Hc (hK2 _ _ (G5 fun K28 hK28=>G3 (JLh (G1 (-1)) (G8 G G) G (G9 (hK28 _ _ (Gx (⟨[G1 (-1)],[],ø,G,⟨⟨_,G,.conv (.same G)⟩,ø⟩,G,congrArg (fun r:Int=>(G1 r:AV)) (Option.some.inj h)⟩)))))))

def R8 (s:List G6) (f:G6→Option Bool):Option Bool:=
 bnd (Z8 s f) fun r3=>
 some (decide (0≤r3))
theorem Gb2 (s:List G6) (f:G6→Option Bool) (f_f:FuncId) (f_c:List AV) (f_B:Hn Tryz.prog f_f=true) (f_d:G0a (fun _=>false) f_c=true) (f_w:∀ a0 q,f a0=some q→Pure Tryz.prog f_f ([.agg [G1 a0.Load,G1 a0.Discharge]]++f_c) (·=BL q)) (r:Bool) (h:R8 s f=some r):Pure Tryz.prog 220 [E1 s,.fn f_f f_c] (·=BL r):=by
 unfold R8 at h
 refine H1 [.tmp 4] Tryz.func220 G G (G5 fun K1 hK1=>G3 (JLh (BL false) (G8 G G) G (G9 (hK1 _ _ (G5 fun K2 hK2=>G3 (JLh (E1 s) (G4 G G) G (JLh (.fn f_f f_c) (G4 G G) G ?_)))))))
 obtain⟨r3,hr3,h⟩:=Gf h
 refine JLh (G1 r3) (Gs (args:=[E1 s,.fn f_f f_c]) G (Gd1 s f f_f f_c f_B f_d f_w r3 hr3) Jc7 ⟨G,G,G,f_d,ø⟩) G (JLh (BL (decide (0≤r3))) (G28 G G G) G (JLh (BL (decide (0≤r3))) (G8 G G) G (G9 (hK2 _ _ (Gx (⟨[BL (decide (0≤r3))],[],ø,G,⟨⟨_,G,.conv (.same G)⟩,ø⟩,G,congrArg (fun r:Bool=>(BL r:AV)) (Option.some.inj h)⟩))))))

def G26 (counts:List G2) (l:List G6):Option ((List G2)×Int):=
 each (fun y47 i47 (s47:(List G2)) nx47=>
  bnd (Ra counts (fun z0=>G44 z0 y47)) fun r53=>
  bnd (bif (!(decide (r53 < 0))) then Rm ((i47:Int)+1) some else some 0) fun v56=>
  bnd (bif (!(decide (r53 < 0))) then G10 v56 l.length else some 0) fun m57=>
  bnd (bif (!(decide (r53 < 0))) then R8 (l.drop m57) (fun z0=>Zs z0 y47) else some default) fun r58=>
  bif ((decide (r53 < 0))||r58) then
  (some ([],270))
  else
  (Qe counts r53 fun y60=>
   need (decide ((s47.length+[y60].length)*32≤140737488355328∧s47.length+[y60].length≤maxLen)) <|
   nx47 (s47++[y60])))
 (fun(s47:(List G2))=>
  some (s47,0)) l 0 []
theorem H55 (counts:List G2) (l:List G6) (r:(List G2)×Int) (h:G26 counts l=some r):Pure Tryz.prog 112 [E3 counts,E1 l] (·=.tup [E3 r.1,G1 r.2]):=by
 unfold G26 at h
 refine H1 [.tmp 4,.tmp 5] Tryz.func112 G G (G5 fun K1 hK1=>G3 (JLh (E3 ([]:List G2)) (Rs 4 G G) G (JLh (G1 0) (G8 G G) G (G9 (hK1 _ _ (G5 fun K2 hK2=>G3 (JLh (OW 1082 4 G2.av ([]:List G2)) (G89 1082 81 4 G G G) G (G9 (hK2 _ _ (G5 (fun K3 hK3=>G5 fun K4 hK4=>G3 (JLh (E1 l) (G4 G G) G (H0 (f:=G6.av) (xs:=l) Ha G G (fun hm11=>?_) G G G)))))))))))))
 refine JLh (G1 0) (G4 G G) G (G9 (hK4 _ _ (Gn ?_)))
 obtain⟨b47,kx47,hb47,hkx47,h⟩:=J9 h
 refine H7 (fun i47 (s47:(List G2))=>each b47 kx47 (List.drop i47 l) i47 s47=some r) (fun i47 s47=>[(0,E3 counts),(1,E1 l),(6,OW 1082 4 G2.av s47),(10,E1 l),(11,En l.length),(12,En i47)]) (fun i47 s47=>[(1082,.spare 81 4 s47.length s47.length)]) (fun i47=>l.length - i47) 0 [] h ⟨(by repeat' constructor),⟨⟨_,rfl,.same⟩,ø⟩,rfl⟩ ?_
 clear h
 intro i47 s47 hi47 K47 e47
 refine G5 fun K48 hK48=>G3 (JLh (BL (decide ((i47:Int) < (l.length:Int)))) (Hx G G G) G (G9 (hK48 _ _ (G5 (fun K49 hK49=>Gp G (fun hb=>?_) (fun hb=>?_))))))
 ·
  have hk47:=Jm hb
  obtain⟨y47,nx47,hy47,hn47,h⟩:=Hy hi47 hk47
  replace h:=Zn hb47 h
  refine Gq (hK49 _ _ (G5 (fun K50 hK50=>Gn (G5 fun K51 hK51=>G3 (JLh (En i47) (G4 G G) G (JLh (.dptr [G1 y47.Load,G1 y47.Discharge]) (Gv (f:=G6.av) (xs:=l) (y:=y47) G G G Ha hy47 G) G (JLh (.agg [G1 y47.Load,G1 y47.Discharge]) (Gi Ho G G G) G (JLh (.ptr 1083 0) (Jn 1083 2 Zx G G) G (JLh (En i47) (G8 G G) G (Jb (u:=.junk) (J4 (u:=.agg [G1 y47.Load,G1 y47.Discharge]) (ds:=[G1 y47.Load,G1 y47.Discharge]) G5f G G G G G G G G) (G9 (hK51 _ _ ?_))))))))))))
  refine Gz [(0,E3 counts),(1,E1 l),(6,OW 1082 4 G2.av s47),(7,En i47),(8,.dptr [G1 y47.Load,G1 y47.Discharge]),(10,E1 l),(11,En l.length),(12,En i47)] [(1082,.spare 81 4 s47.length s47.length)] 1083 rfl rfl rfl ⟨⟨_,rfl,.same⟩,ø⟩ rfl (by repeat' (first | exact .ptr | constructor)) (G5 fun K52 hK52=>G3 (JLh (E3 counts) (G4 G G) G (JLh (.fn 219 [.dptr [G1 y47.Load,G1 y47.Discharge]]) (H1a (cs:=[.dptr [G1 y47.Load,G1 y47.Discharge]]) G G) G ?_)))
  obtain⟨r53,hr53,h⟩:=Gf h
  refine JLh (G1 r53) (Gs (args:=[E3 counts,.fn 219 [.dptr [G1 y47.Load,G1 y47.Discharge]]]) G (G3b counts (fun z0=>G44 z0 y47) 219 [.dptr [G1 y47.Load,G1 y47.Discharge]] Jcf G (fun z0 q hq=>Hd4 z0 y47 q hq) r53 hr53) J25 ⟨G,G,G,G,ø⟩) G (JLh (G1 r53) (G8 G G) G (G9 (hK52 _ _ (G5 (fun K54 hK54=>G5 fun K55 hK55=>G3 (JLh (G1 r53) (G4 G G) G (JLh (BL (decide (r53 < 0))) (Hx G G G) G (JLh (BL (decide (r53 < 0))) (G4 G G) G (Gd (u:=E1 l) [] G G G .scf ø (fun hc=>G4 G G) ?_)))))))))
  refine Gd (u:=En i47) [] G G G .scf ø (fun hc=>G4 G G) ?_
  obtain⟨v56,hv56,h⟩:=Gf h
  refine Gd (u:=G1 v56) [(24,En i47)] G G G .scf ⟨.all id,ø⟩ (fun hc=>Hj (G02 (Gy hc hv56)) G G G) ?_
  obtain⟨m57,hm57,h⟩:=Gf h
  refine Gd (u:=E1 (l.drop m57)) [(23,E1 l),(25,G1 v56)] G G G .scf ⟨.all id,.all id,ø⟩ (fun hc=>Q16 (f:=G6.av) (xs:=l) G G G Ha (Qn (Gy hc hm57))) ?_
  refine Gd (u:=.fn 221 [.dptr [G1 y47.Load,G1 y47.Discharge]]) [] G G G .scf ø (fun hc=>H1a (cs:=[.dptr [G1 y47.Load,G1 y47.Discharge]]) G G) ?_
  obtain⟨r58,hr58,h⟩:=Gf h
  refine Gd (u:=BL r58) [(26,E1 (l.drop m57)),(27,.fn 221 [.dptr [G1 y47.Load,G1 y47.Discharge]])] G G G .scf ⟨.all id,.all id,ø⟩ (fun hc=>Gs (args:=[E1 (l.drop m57),.fn 221 [.dptr [G1 y47.Load,G1 y47.Discharge]]]) G (Gb2 (l.drop m57) (fun z0=>Zs z0 y47) 221 [.dptr [G1 y47.Load,G1 y47.Discharge]] Jcd G (fun z0 q hq=>Hd3 z0 y47 q hq) r58 (Gy hc hr58)) Jce ⟨G,G,G,G,ø⟩) ?_
  refine JLh (BL ((decide (r53 < 0))||r58)) (Z5 G G G G) G (G9 (hK55 _ _ (Gp G (fun hb=>?_) (fun hb=>?_))))
  ·
   replace h:=Gy hb h
   refine G5 fun K59 hK59=>G3 (JLh (E3 ([]:List G2)) (Rs 4 G G) G (JLh (G1 270) (G8 G G) G (G9 (hK59 _ _ (Gx (⟨[E3 ([]:List G2),G1 270],[],ø,G,⟨⟨_,G,.conv (.same G)⟩,⟨_,G,.conv (.same G)⟩,ø⟩,G,congrArg (fun r:(List G2)×Int=>(.tup [E3 r.1,G1 r.2]:AV)) (Option.some.inj h)⟩))))))
  ·
   replace h:=Hp hb h
   refine Gq (hK54 _ _ (G3 (JLh (OW 1082 4 G2.av s47) (G4 G G) G (JLh (E3 counts) (G4 G G) G (JLh (G1 r53) (G4 G G) G ?_)))))
   obtain⟨m61,y60,hm61,hy60,h⟩:=Q6 h
   refine JLh (Ee y60) (Gv (f:=G2.av) (xs:=counts) (y:=y60) G G G H8 hy60 hm61) G (JLh (.agg (G2.cs y60)) (Gi R0 G G G) G (JLh (E3 [y60]) (Hs (xs:=[.agg (G2.cs y60)]) G ⟨G,G,ø⟩ H8 R9 G G G G) G ?_))
   obtain⟨ha62,h⟩:=Hr h
   refine JLh (OW 1082 4 G2.av (s47++[y60])) (Qx (f:=G2.av) (xs:=s47) (ys:=[y60]) G G G G H8 G94 ha62 (fun _=>G) (.inl G) G) G (JLh (OW 1082 4 G2.av (s47++[y60])) (G8 G G) G (G9 (hK50 _ _ (G3 (JLh (G1 ((i47+1:Nat):Int)) (Hj (Hi hk47 hm11) G G G) G (JLh (G1 ((i47+1:Nat):Int)) (G4 G G) G (G9 (e47 _ _ (i47+1) (s47++[y60]) (app1 hn47 h) (by omega) ⟨(by repeat' constructor),⟨⟨_,rfl,.same⟩,ø⟩,rfl⟩))))))))
 ·
  have h:=app1 hkx47 (Hz hi47 (Hg hb))
  refine Hc (hK3 _ _ (G5 fun K63 hK63=>G3 (JLh (OW 1082 4 G2.av s47) (G4 G G) G (JLh (OW 1082 4 G2.av s47) (G8 G G) G (JLh (G1 0) (G8 G G) G (G9 (hK63 _ _ (Gx (⟨[E3 s47,G1 0],[],ø,G,⟨⟨_,G,.conv (.list G)⟩,⟨_,G,.conv (.same G)⟩,ø⟩,G,congrArg (fun r:(List G2)×Int=>(.tup [E3 r.1,G1 r.2]:AV)) (Option.some.inj h)⟩)))))))))

def Yt (s:J0):Option Int:=
 each (fun y17 i17 (s17:Int) nx17=>
  jp (fun kj20=>
   bif ((decide ((i17:Int)=0))||(decide (s17 < y17.Tiers))) then
   (kj20 y17.Tiers)
   else
   (kj20 s17)) fun(j20:Int)=>
  nx17 j20)
 (fun(s17:Int)=>
  some s17) s.Columns 0 0
theorem G43 (s:J0) (r:Int) (h:Yt s=some r):Pure Tryz.prog 107 [.agg (J0.cs s)] (·=G1 r):=by
 unfold Yt at h
 refine H1 [.tmp 2] Tryz.func107 G G (G5 fun K1 hK1=>G3 (JLh (.ptr 1078 0) (Qi (u:=.agg (J0.cs s)) (cs:=(J0.cs s)) 1078 G G G G G) G (JLh (G1 0) (G8 G G) G (G9 (hK1 _ _ ?_)))))
 refine Gz [(1,Ed s)] [] 1078 rfl rfl rfl ø rfl (by exact⟨.ptr,ø⟩) (G5 fun K2 hK2=>G3 (JLh (G1 0) (G8 G G) G (G9 (hK2 _ _ (G5 (fun K3 hK3=>G5 fun K4 hK4=>G3 (JLh (Ed s) (Ge Hw G G G) G (JLh (E5 s.Columns) (Gk J8 G G G) G ?_))))))))
 refine H0 (f:=Ga.av) (xs:=s.Columns) Hb G G (fun hm8=>?_) G G G
 refine JLh (G1 0) (G4 G G) G (G9 (hK4 _ _ (Gn ?_)))
 obtain⟨b17,kx17,hb17,hkx17,h⟩:=J9 h
 refine H7 (fun i17 (s17:Int)=>each b17 kx17 (List.drop i17 s.Columns) i17 s17=some r) (fun i17 s17=>[(3,G1 s17),(7,E5 s.Columns),(8,En s.Columns.length),(9,En i17)]) (fun i17 s17=>[]) (fun i17=>s.Columns.length - i17) 0 0 h ⟨(by repeat' constructor),ø,rfl⟩ ?_
 clear h
 intro i17 s17 hi17 K17 e17
 refine G5 fun K18 hK18=>G3 (JLh (BL (decide ((i17:Int) < (s.Columns.length:Int)))) (Hx G G G) G (G9 (hK18 _ _ (G5 (fun K19 hK19=>Gp G (fun hb=>?_) (fun hb=>?_))))))
 ·
  have hk17:=Jm hb
  obtain⟨y17,nx17,hy17,hn17,h⟩:=Hy hi17 hk17
  replace h:=Zn hb17 h
  refine Gq (hK19 _ _ ?_)
  obtain⟨kj20,hkj20,h⟩:=G40 h
  refine G0b (fun j20:Int=>kj20 j20=some r) (fun j20=>[(3,G1 j20),(7,E5 s.Columns),(8,En s.Columns.length),(9,En i17)]) (fun j20=>[]) (fun Kj20 ej20=>?_) ?_
  ·
   refine Gn (G5 fun K21 hK21=>G3 (JLh (En i17) (G4 G G) G (JLh (Ef y17) (Gv (f:=Ga.av) (xs:=s.Columns) (y:=y17) G G G Hb hy17 G) G (JLh (.agg (Ga.cs y17)) (Gi Y6 G G G) G (JLh (.ptr 1079 0) (Jn 1079 12 G4a G G) G (JLh (En i17) (G8 G G) G (Jb (u:=.junk) (J4 (u:=.agg (Ga.cs y17)) (ds:=(Ga.cs y17)) G99 G G G G G G G G) (G9 (hK21 _ _ ?_)))))))))
   refine Gz [(3,G1 s17),(4,En i17),(5,Ef y17),(7,E5 s.Columns),(8,En s.Columns.length),(9,En i17)] [] 1079 rfl rfl rfl ø rfl (by repeat' (first | exact .ptr | constructor)) (G5 fun K22 hK22=>G3 (JLh (En i17) (G4 G G) G (JLh (BL (decide ((i17:Int)=0))) (Rt G G G) G (JLh (BL (decide ((i17:Int)=0))) (G4 G G) G (Gd (u:=.dptr ((Ga.cs y17).drop 3)) [] G G G .scf ø (fun hc=>Ge Yn G G G) ?_)))))
   refine Gd (u:=G1 y17.Tiers) [(17,.dptr ((Ga.cs y17).drop 3))] G G G .scf ⟨.all id,ø⟩ (fun hc=>Gk Gc G G G) ?_
   refine Gd (u:=G1 s17) [] G G G .scf ø (fun hc=>G4 G G) ?_
   refine Gd (u:=BL (decide (s17 < y17.Tiers))) [(18,G1 y17.Tiers),(19,G1 s17)] G G G .scf ⟨.all id,.all id,ø⟩ (fun hc=>Ya G G G) ?_
   refine JLh (BL ((decide ((i17:Int)=0))||(decide (s17 < y17.Tiers)))) (Z5 G G G G) G (G9 (hK22 _ _ (Gp G (fun hb=>?_) (fun hb=>?_))))
   ·
    replace h:=Gy hb h
    refine G3 (JLh (.dptr ((Ga.cs y17).drop 3)) (Ge Yn G G G) G (JLh (G1 y17.Tiers) (Gk Gc G G G) G (JLh (G1 y17.Tiers) (G8 G G) G (G9 (ej20 _ _ y17.Tiers h ⟨(by repeat' constructor),ø,rfl⟩)))))
   ·
    replace h:=Hp hb h
    refine Gq (ej20 _ _ s17 h ⟨(by repeat' constructor),ø,rfl⟩)
  ·intro j20 h
   replace h:=app1 hkj20 h
   refine G3 (JLh (G1 ((i17+1:Nat):Int)) (Hj (Hi hk17 hm8) G G G) G (JLh (G1 ((i17+1:Nat):Int)) (G4 G G) G (G9 (e17 _ _ (i17+1) j20 (app1 hn17 h) (by omega) ⟨(by repeat' constructor),ø,rfl⟩))))
 ·
  have h:=app1 hkx17 (Hz hi17 (Hg hb))
  refine Hc (hK3 _ _ (G5 fun K23 hK23=>G3 (JLh (G1 s17) (G4 G G) G (JLh (G1 s17) (G8 G G) G (G9 (hK23 _ _ (Gx (⟨[G1 s17],[],ø,G,⟨⟨_,G,.conv (.same G)⟩,ø⟩,G,congrArg (fun r:Int=>(G1 r:AV)) (Option.some.inj h)⟩))))))))

def Gb5 (x:Int) (y:Int):Option (Int×Int):=
 some (IntKind.u64.wrap ((IntKind.u64.wrap ((IntKind.u64.wrap ((Qd .u64 x 32)*(Qd .u64 y 32)))+(Qd .u64 (IntKind.u64.wrap ((IntKind.u64.wrap ((Qd .u64 x 32)*(Jw .u64 y 4294967295)))+(Qd .u64 (IntKind.u64.wrap ((Jw .u64 x 4294967295)*(Jw .u64 y 4294967295))) 32))) 32)))+(Qd .u64 (IntKind.u64.wrap ((Jw .u64 (IntKind.u64.wrap ((IntKind.u64.wrap ((Qd .u64 x 32)*(Jw .u64 y 4294967295)))+(Qd .u64 (IntKind.u64.wrap ((Jw .u64 x 4294967295)*(Jw .u64 y 4294967295))) 32))) 4294967295)+(IntKind.u64.wrap ((Jw .u64 x 4294967295)*(Qd .u64 y 32))))) 32)),IntKind.u64.wrap (x*y))
theorem Hbe (x:Int) (y:Int) (r:Int×Int) (h:Gb5 x y=some r):Pure Tryz.prog 308 [.sc (.int .u64 x),.sc (.int .u64 y)] (·=.tup [.sc (.int .u64 r.1),.sc (.int .u64 r.2)]):=by
 unfold Gb5 at h
 refine H1 [.tmp 4,.tmp 5] Tryz.func308 G G (G5 fun K1 hK1=>G3 (JLh (.sc (.int .u64 0)) (G8 G G) G (JLh (.sc (.int .u64 0)) (G8 G G) G (G9 (hK1 _ _ (G5 fun K2 hK2=>G3 (JLh (.sc (.int .u64 x)) (G4 G G) G (JLh (.sc (.int .u64 (Jw .u64 x 4294967295))) (Q19 G G G) G (JLh (.sc (.int .u64 (Jw .u64 x 4294967295))) (G8 G G) G (G9 (hK2 _ _ (G5 fun K3 hK3=>G3 (JLh (.sc (.int .u64 x)) (G4 G G) G (JLh (.sc (.int .u64 (Qd .u64 x 32))) (J1b (s:=32) G G G G) G (JLh (.sc (.int .u64 (Qd .u64 x 32))) (G8 G G) G (G9 (hK3 _ _ (G5 fun K4 hK4=>G3 (JLh (.sc (.int .u64 y)) (G4 G G) G (JLh (.sc (.int .u64 (Jw .u64 y 4294967295))) (Q19 G G G) G (JLh (.sc (.int .u64 (Jw .u64 y 4294967295))) (G8 G G) G (G9 (hK4 _ _ ?_)))))))))))))))))))))))
 refine G5 fun K5 hK5=>G3 (JLh (.sc (.int .u64 y)) (G4 G G) G (JLh (.sc (.int .u64 (Qd .u64 y 32))) (J1b (s:=32) G G G G) G (JLh (.sc (.int .u64 (Qd .u64 y 32))) (G8 G G) G (G9 (hK5 _ _ (G5 fun K6 hK6=>G3 (JLh (.sc (.int .u64 (Jw .u64 x 4294967295))) (G4 G G) G (JLh (.sc (.int .u64 (Jw .u64 y 4294967295))) (G4 G G) G (JLh (.sc (.int .u64 (IntKind.u64.wrap ((Jw .u64 x 4294967295)*(Jw .u64 y 4294967295))))) (G77 G G G G) G (JLh (.sc (.int .u64 (IntKind.u64.wrap ((Jw .u64 x 4294967295)*(Jw .u64 y 4294967295))))) (G8 G G) G (G9 (hK6 _ _ ?_))))))))))))
 refine G5 fun K7 hK7=>G3 (JLh (.sc (.int .u64 (Qd .u64 x 32))) (G4 G G) G (JLh (.sc (.int .u64 (Jw .u64 y 4294967295))) (G4 G G) G (JLh (.sc (.int .u64 (IntKind.u64.wrap ((Qd .u64 x 32)*(Jw .u64 y 4294967295))))) (G77 G G G G) G (JLh (.sc (.int .u64 (IntKind.u64.wrap ((Jw .u64 x 4294967295)*(Jw .u64 y 4294967295))))) (G4 G G) G (JLh (.sc (.int .u64 (Qd .u64 (IntKind.u64.wrap ((Jw .u64 x 4294967295)*(Jw .u64 y 4294967295))) 32))) (J1b (s:=32) G G G G) G (JLh (.sc (.int .u64 (IntKind.u64.wrap ((IntKind.u64.wrap ((Qd .u64 x 32)*(Jw .u64 y 4294967295)))+(Qd .u64 (IntKind.u64.wrap ((Jw .u64 x 4294967295)*(Jw .u64 y 4294967295))) 32))))) (Hj G G G G) G (JLh (.sc (.int .u64 (IntKind.u64.wrap ((IntKind.u64.wrap ((Qd .u64 x 32)*(Jw .u64 y 4294967295)))+(Qd .u64 (IntKind.u64.wrap ((Jw .u64 x 4294967295)*(Jw .u64 y 4294967295))) 32))))) (G8 G G) G (G9 (hK7 _ _ ?_)))))))))
 refine G5 fun K8 hK8=>G3 (JLh (.sc (.int .u64 (IntKind.u64.wrap ((IntKind.u64.wrap ((Qd .u64 x 32)*(Jw .u64 y 4294967295)))+(Qd .u64 (IntKind.u64.wrap ((Jw .u64 x 4294967295)*(Jw .u64 y 4294967295))) 32))))) (G4 G G) G (JLh (.sc (.int .u64 (Jw .u64 (IntKind.u64.wrap ((IntKind.u64.wrap ((Qd .u64 x 32)*(Jw .u64 y 4294967295)))+(Qd .u64 (IntKind.u64.wrap ((Jw .u64 x 4294967295)*(Jw .u64 y 4294967295))) 32))) 4294967295))) (Q19 G G G) G (JLh (.sc (.int .u64 (Jw .u64 (IntKind.u64.wrap ((IntKind.u64.wrap ((Qd .u64 x 32)*(Jw .u64 y 4294967295)))+(Qd .u64 (IntKind.u64.wrap ((Jw .u64 x 4294967295)*(Jw .u64 y 4294967295))) 32))) 4294967295))) (G8 G G) G (G9 (hK8 _ _ ?_)))))
 refine G5 fun K9 hK9=>G3 (JLh (.sc (.int .u64 (IntKind.u64.wrap ((IntKind.u64.wrap ((Qd .u64 x 32)*(Jw .u64 y 4294967295)))+(Qd .u64 (IntKind.u64.wrap ((Jw .u64 x 4294967295)*(Jw .u64 y 4294967295))) 32))))) (G4 G G) G (JLh (.sc (.int .u64 (Qd .u64 (IntKind.u64.wrap ((IntKind.u64.wrap ((Qd .u64 x 32)*(Jw .u64 y 4294967295)))+(Qd .u64 (IntKind.u64.wrap ((Jw .u64 x 4294967295)*(Jw .u64 y 4294967295))) 32))) 32))) (J1b (s:=32) G G G G) G (JLh (.sc (.int .u64 (Qd .u64 (IntKind.u64.wrap ((IntKind.u64.wrap ((Qd .u64 x 32)*(Jw .u64 y 4294967295)))+(Qd .u64 (IntKind.u64.wrap ((Jw .u64 x 4294967295)*(Jw .u64 y 4294967295))) 32))) 32))) (G8 G G) G (G9 (hK9 _ _ ?_)))))
 refine G5 fun K10 hK10=>G3 (JLh (.sc (.int .u64 (Jw .u64 (IntKind.u64.wrap ((IntKind.u64.wrap ((Qd .u64 x 32)*(Jw .u64 y 4294967295)))+(Qd .u64 (IntKind.u64.wrap ((Jw .u64 x 4294967295)*(Jw .u64 y 4294967295))) 32))) 4294967295))) (G4 G G) G (JLh (.sc (.int .u64 (Jw .u64 x 4294967295))) (G4 G G) G (JLh (.sc (.int .u64 (Qd .u64 y 32))) (G4 G G) G (JLh (.sc (.int .u64 (IntKind.u64.wrap ((Jw .u64 x 4294967295)*(Qd .u64 y 32))))) (G77 G G G G) G (JLh (.sc (.int .u64 (IntKind.u64.wrap ((Jw .u64 (IntKind.u64.wrap ((IntKind.u64.wrap ((Qd .u64 x 32)*(Jw .u64 y 4294967295)))+(Qd .u64 (IntKind.u64.wrap ((Jw .u64 x 4294967295)*(Jw .u64 y 4294967295))) 32))) 4294967295)+(IntKind.u64.wrap ((Jw .u64 x 4294967295)*(Qd .u64 y 32))))))) (Hj G G G G) G (JLh (.sc (.int .u64 (IntKind.u64.wrap ((Jw .u64 (IntKind.u64.wrap ((IntKind.u64.wrap ((Qd .u64 x 32)*(Jw .u64 y 4294967295)))+(Qd .u64 (IntKind.u64.wrap ((Jw .u64 x 4294967295)*(Jw .u64 y 4294967295))) 32))) 4294967295)+(IntKind.u64.wrap ((Jw .u64 x 4294967295)*(Qd .u64 y 32))))))) (G8 G G) G (G9 (hK10 _ _ ?_))))))))
 refine G5 fun K11 hK11=>G3 (JLh (.sc (.int .u64 (Qd .u64 x 32))) (G4 G G) G (JLh (.sc (.int .u64 (Qd .u64 y 32))) (G4 G G) G (JLh (.sc (.int .u64 (IntKind.u64.wrap ((Qd .u64 x 32)*(Qd .u64 y 32))))) (G77 G G G G) G (JLh (.sc (.int .u64 (Qd .u64 (IntKind.u64.wrap ((IntKind.u64.wrap ((Qd .u64 x 32)*(Jw .u64 y 4294967295)))+(Qd .u64 (IntKind.u64.wrap ((Jw .u64 x 4294967295)*(Jw .u64 y 4294967295))) 32))) 32))) (G4 G G) G (JLh (.sc (.int .u64 (IntKind.u64.wrap ((IntKind.u64.wrap ((Qd .u64 x 32)*(Qd .u64 y 32)))+(Qd .u64 (IntKind.u64.wrap ((IntKind.u64.wrap ((Qd .u64 x 32)*(Jw .u64 y 4294967295)))+(Qd .u64 (IntKind.u64.wrap ((Jw .u64 x 4294967295)*(Jw .u64 y 4294967295))) 32))) 32))))) (Hj G G G G) G (JLh (.sc (.int .u64 (IntKind.u64.wrap ((Jw .u64 (IntKind.u64.wrap ((IntKind.u64.wrap ((Qd .u64 x 32)*(Jw .u64 y 4294967295)))+(Qd .u64 (IntKind.u64.wrap ((Jw .u64 x 4294967295)*(Jw .u64 y 4294967295))) 32))) 4294967295)+(IntKind.u64.wrap ((Jw .u64 x 4294967295)*(Qd .u64 y 32))))))) (G4 G G) G (JLh (.sc (.int .u64 (Qd .u64 (IntKind.u64.wrap ((Jw .u64 (IntKind.u64.wrap ((IntKind.u64.wrap ((Qd .u64 x 32)*(Jw .u64 y 4294967295)))+(Qd .u64 (IntKind.u64.wrap ((Jw .u64 x 4294967295)*(Jw .u64 y 4294967295))) 32))) 4294967295)+(IntKind.u64.wrap ((Jw .u64 x 4294967295)*(Qd .u64 y 32))))) 32))) (J1b (s:=32) G G G G) G (JLh (.sc (.int .u64 (IntKind.u64.wrap ((IntKind.u64.wrap ((IntKind.u64.wrap ((Qd .u64 x 32)*(Qd .u64 y 32)))+(Qd .u64 (IntKind.u64.wrap ((IntKind.u64.wrap ((Qd .u64 x 32)*(Jw .u64 y 4294967295)))+(Qd .u64 (IntKind.u64.wrap ((Jw .u64 x 4294967295)*(Jw .u64 y 4294967295))) 32))) 32)))+(Qd .u64 (IntKind.u64.wrap ((Jw .u64 (IntKind.u64.wrap ((IntKind.u64.wrap ((Qd .u64 x 32)*(Jw .u64 y 4294967295)))+(Qd .u64 (IntKind.u64.wrap ((Jw .u64 x 4294967295)*(Jw .u64 y 4294967295))) 32))) 4294967295)+(IntKind.u64.wrap ((Jw .u64 x 4294967295)*(Qd .u64 y 32))))) 32))))) (Hj G G G G) G (JLh (.sc (.int .u64 (IntKind.u64.wrap ((IntKind.u64.wrap ((IntKind.u64.wrap ((Qd .u64 x 32)*(Qd .u64 y 32)))+(Qd .u64 (IntKind.u64.wrap ((IntKind.u64.wrap ((Qd .u64 x 32)*(Jw .u64 y 4294967295)))+(Qd .u64 (IntKind.u64.wrap ((Jw .u64 x 4294967295)*(Jw .u64 y 4294967295))) 32))) 32)))+(Qd .u64 (IntKind.u64.wrap ((Jw .u64 (IntKind.u64.wrap ((IntKind.u64.wrap ((Qd .u64 x 32)*(Jw .u64 y 4294967295)))+(Qd .u64 (IntKind.u64.wrap ((Jw .u64 x 4294967295)*(Jw .u64 y 4294967295))) 32))) 4294967295)+(IntKind.u64.wrap ((Jw .u64 x 4294967295)*(Qd .u64 y 32))))) 32))))) (G8 G G) G (G9 (hK11 _ _ ?_)))))))))))
 refine G5 fun K12 hK12=>G3 (JLh (.sc (.int .u64 x)) (G4 G G) G (JLh (.sc (.int .u64 y)) (G4 G G) G (JLh (.sc (.int .u64 (IntKind.u64.wrap (x*y)))) (G77 G G G G) G (JLh (.sc (.int .u64 (IntKind.u64.wrap (x*y)))) (G8 G G) G (G9 (hK12 _ _ (Gx ?_)))))))
 exact⟨[.sc (.int .u64 (IntKind.u64.wrap ((IntKind.u64.wrap ((IntKind.u64.wrap ((Qd .u64 x 32)*(Qd .u64 y 32)))+(Qd .u64 (IntKind.u64.wrap ((IntKind.u64.wrap ((Qd .u64 x 32)*(Jw .u64 y 4294967295)))+(Qd .u64 (IntKind.u64.wrap ((Jw .u64 x 4294967295)*(Jw .u64 y 4294967295))) 32))) 32)))+(Qd .u64 (IntKind.u64.wrap ((Jw .u64 (IntKind.u64.wrap ((IntKind.u64.wrap ((Qd .u64 x 32)*(Jw .u64 y 4294967295)))+(Qd .u64 (IntKind.u64.wrap ((Jw .u64 x 4294967295)*(Jw .u64 y 4294967295))) 32))) 4294967295)+(IntKind.u64.wrap ((Jw .u64 x 4294967295)*(Qd .u64 y 32))))) 32)))),.sc (.int .u64 (IntKind.u64.wrap (x*y)))],[],ø,G,⟨⟨_,G,.conv (.same G)⟩,⟨_,G,.conv (.same G)⟩,ø⟩,G,congrArg (fun r:Int×Int=>(.tup [.sc (.int .u64 r.1),.sc (.int .u64 r.2)]:AV)) (Option.some.inj h)⟩

def Gde (x:Int) (y:Int):Option (Int×Int):=
 bnd (Gb5 x y) fun r4=>
 some (r4.1,r4.2)
theorem H37 (x:Int) (y:Int) (r:Int×Int) (h:Gde x y=some r):Pure Tryz.prog 278 [.sc (.int .u64 x),.sc (.int .u64 y)] (·=.tup [.sc (.int .u64 r.1),.sc (.int .u64 r.2)]):=by
 unfold Gde at h
 refine H1 [.tmp 4,.tmp 5] Tryz.func278 G G (G5 fun K1 hK1=>G3 (JLh (.sc (.int .u64 0)) (G8 G G) G (JLh (.sc (.int .u64 0)) (G8 G G) G (G9 (hK1 _ _ (G5 (fun K2 hK2=>Hae G (Gq (hK2 _ _ (G5 fun K3 hK3=>G3 (JLh (.sc (.int .u64 x)) (G4 G G) G (JLh (.sc (.int .u64 y)) (G4 G G) G ?_))))))))))))
 obtain⟨r4,hr4,h⟩:=Gf h
 refine JLh (.tup [.sc (.int .u64 r4.1),.sc (.int .u64 r4.2)]) (Gs (args:=[.sc (.int .u64 x),.sc (.int .u64 y)]) G (Hbe x y r4 hr4) Jc6 ⟨G,G,G,G,ø⟩) G (JLh (.tup [.sc (.int .u64 r4.1),.sc (.int .u64 r4.2)]) (G4 G G) G (JLh (.sc (.int .u64 r4.1)) (Hm G G G) G (JLh (.sc (.int .u64 r4.2)) (Hm G G G) G (JLh (.sc (.int .u64 r4.1)) (G8 G G) G (JLh (.sc (.int .u64 r4.2)) (G8 G G) G (G9 (hK3 _ _ (G5 fun K5 hK5=>G3 (JLh (.sc (.int .u64 r4.1)) (G4 G G) G (JLh (.sc (.int .u64 r4.2)) (G4 G G) G (JLh (.sc (.int .u64 r4.1)) (G8 G G) G (JLh (.sc (.int .u64 r4.2)) (G8 G G) G (G9 (hK5 _ _ (Gx ?_)))))))))))))))
 exact⟨[.sc (.int .u64 r4.1),.sc (.int .u64 r4.2)],[],ø,G,⟨⟨_,G,.conv (.same G)⟩,⟨_,G,.conv (.same G)⟩,ø⟩,G,congrArg (fun r:Int×Int=>(.tup [.sc (.int .u64 r.1),.sc (.int .u64 r.2)]:AV)) (Option.some.inj h)⟩

def Qh (F:Nat) (x:List Int) (count:Int):Option (List Int):=
 bif decide (count < 0) then
 (none)
 else
 (bnd (Gde (IntKind.u64.wrap (x.length:Int)) (IntKind.u64.wrap count)) fun r5=>
  bif ((decide (0 < r5.1))||(decide (9223372036854775807 < r5.2))) then
  (none)
  else
  (Rm (r5.2) fun v9=>
   bnd (G9b v9) fun m10=>
   need (decide (8*m10≤281474976710656∧m10≤maxLen∧m10*1≤16777216)) <|
   loop (fun nx26 (s26:Int×(List Int))=>
    bif decide (s26.1 < (s26.2.length:Int)) then
    (bnd (G10 s26.1 s26.2.length) fun m29=>
     bnd (G10 s26.1 s26.2.length) fun m30=>
     Rm (s26.1+((min ((s26.2.drop 0).take m30).length (s26.2.length - m29):Nat):Int)) fun v31=>
     nx26 (v31,(overlay s26.2 m29 ((s26.2.drop 0).take m30) (s26.2.length - m29))))
    else
    (some s26.2)) F (((min x.length ((List.replicate m10 (0:Int)).length):Nat):Int),(overlay (List.replicate m10 (0:Int)) 0 x ((List.replicate m10 (0:Int)).length)))))
def G66 (F:Nat) (c:G2) (tiers:Int) (halves:Int):Option Int:=
 Rm (c.Whole+c.Half) fun v3=>
 loop (fun nx29 (s29:Int×Int)=>
  bnd (J83 halves 2) fun v32=>
  Rm (tiers*v32) fun v33=>
  bif decide (s29.2≤(min c.Whole v33)) then
  (Rm (tiers*halves) fun v36=>
   Rm (2*s29.2) fun v37=>
   Rm (v36 - v37) fun v38=>
   Rm (c.Whole - s29.2) fun v39=>
   Rm (v39+c.Half) fun v40=>
   Rm (v40 - (min c.Half v38)) fun v41=>
   Rm (s29.2+1) fun v42=>
   nx29 ((min s29.1 v41),v42))
  else
  (some s29.1)) F (v3,0)
theorem M_bound_out_w (F:Nat) (c:G2) (tiers:Int) (halves:Int) (r:Int) (h:G66 F c tiers halves=some r):Pure Tryz.prog 224 [.agg (G2.cs c),G1 tiers,G1 halves] (·=G1 r):=by
 unfold G66 at h
 refine H1 [.tmp 6] Tryz.func224 G G (G5 fun K1 hK1=>G3 (JLh (.ptr 1134 0) (Qi (u:=.agg (G2.cs c)) (cs:=[G1 c.G6.Load,G1 c.G6.Discharge,G1 c.Whole,G1 c.Half]) 1134 G G G G G) G (JLh (G1 0) (G8 G G) G (G9 (hK1 _ _ (Gz [(1,G1 tiers),(2,G1 halves),(3,Ee c)] [] 1134 rfl rfl rfl ø rfl (by exact⟨.conv (.same rfl),.conv (.same rfl),.ptr,ø⟩) (G5 fun K2 hK2=>G3 (JLh (.dptr [G1 c.Whole,G1 c.Half]) (Ge G1b G G G) G (JLh (G1 c.Whole) (Gk Gc G G G) G (JLh (.dptr [G1 c.Half]) (Ge G1a G G G) G (JLh (G1 c.Half) (Gk Gc G G G) G ?_)))))))))))
 obtain⟨v3,hv3,h⟩:=Hf h
 refine JLh (G1 v3) (Hj hv3 G G G) G (JLh (G1 v3) (G8 G G) G (G9 (hK2 _ _ (G5 (fun K4 hK4=>G5 fun K5 hK5=>G3 (JLh (G1 0) (G8 G G) G (G9 (hK5 _ _ (Gn ?_)))))))))
 obtain⟨b29,hb29,h⟩:=G16 h
 refine H7 (fun i29 (s29:Int×Int)=>loop b29 i29 s29=some r) (fun i29 s29=>[(1,G1 tiers),(2,G1 halves),(3,Ee c),(7,G1 s29.1),(8,G1 s29.2)]) (fun i29 s29=>[]) (fun i29=>i29) F (v3,0) h ⟨(by repeat' constructor),ø,rfl⟩ ?_
 clear h
 intro i29 s29 hi29 K29 e29
 obtain⟨m29,nx29,hm_29,hn29,h⟩:=Zg hi29
 replace h:=H78 hb29 h
 refine G5 (fun K30 hK30=>G5 fun K31 hK31=>G3 (JLh (G1 s29.2) (G4 G G) G (JLh (.dptr [G1 c.Whole,G1 c.Half]) (Ge G1b G G G) G (JLh (G1 c.Whole) (Gk Gc G G G) G (JLh (G1 tiers) (G4 G G) G (JLh (G1 halves) (G4 G G) G ?_))))))
 obtain⟨v32,hv32,h⟩:=Gf h
 refine JLh (G1 v32) (A_quo (Gf6 hv32).1 (Gf6 hv32).2 G G G) G ?_
 obtain⟨v33,hv33,h⟩:=Hf h
 refine JLh (G1 v33) (G77 hv33 G G G) G (JLh (G1 (min c.Whole v33)) (A_min G G G) G (JLh (BL (decide (s29.2≤(min c.Whole v33)))) (H81 G G G) G (G9 (hK31 _ _ (Gp G (fun hb=>?_) (fun hb=>?_))))))
 ·
  replace h:=Gy hb h
  refine Gq (hK30 _ _ (G5 (fun K34 hK34=>Gn (G5 fun K35 hK35=>G3 (JLh (.dptr [G1 c.Half]) (Ge G1a G G G) G (JLh (G1 c.Half) (Gk Gc G G G) G (JLh (G1 tiers) (G4 G G) G (JLh (G1 halves) (G4 G G) G ?_))))))))
  obtain⟨v36,hv36,h⟩:=Hf h
  refine JLh (G1 v36) (G77 hv36 G G G) G (JLh (G1 s29.2) (G4 G G) G ?_)
  obtain⟨v37,hv37,h⟩:=Hf h
  refine JLh (G1 v37) (G77 hv37 G G G) G ?_
  obtain⟨v38,hv38,h⟩:=Hf h
  refine JLh (G1 v38) (G1e hv38 G G G) G (JLh (G1 (min c.Half v38)) (A_min G G G) G (JLh (G1 (min c.Half v38)) (G8 G G) G (G9 (hK35 _ _ (G3 (JLh (G1 s29.1) (G4 G G) G (JLh (.dptr [G1 c.Whole,G1 c.Half]) (Ge G1b G G G) G (JLh (G1 c.Whole) (Gk Gc G G G) G (JLh (G1 s29.2) (G4 G G) G ?_)))))))))
  obtain⟨v39,hv39,h⟩:=Hf h
  refine JLh (G1 v39) (G1e hv39 G G G) G (JLh (.dptr [G1 c.Half]) (Ge G1a G G G) G (JLh (G1 c.Half) (Gk Gc G G G) G ?_))
  obtain⟨v40,hv40,h⟩:=Hf h
  refine JLh (G1 v40) (Hj hv40 G G G) G (JLh (G1 (min c.Half v38)) (G4 G G) G ?_)
  obtain⟨v41,hv41,h⟩:=Hf h
  refine JLh (G1 v41) (G1e hv41 G G G) G (JLh (G1 (min s29.1 v41)) (A_min G G G) G (JLh (G1 (min s29.1 v41)) (G8 G G) G (G9 (hK34 _ _ (G3 (JLh (G1 s29.2) (G4 G G) G ?_))))))
  obtain⟨v42,hv42,h⟩:=Hf h
  refine JLh (G1 v42) (Hj hv42 G G G) G (JLh (G1 v42) (G8 G G) G (G9 (e29 _ _ m29 ((min s29.1 v41),v42) (app1 hn29 h) (by omega) ⟨(by repeat' constructor),ø,rfl⟩)))
 ·
  replace h:=Hp hb h
  refine Hc (hK4 _ _ (G5 fun K43 hK43=>G3 (JLh (G1 s29.1) (G4 G G) G (JLh (G1 s29.1) (G8 G G) G (G9 (hK43 _ _ (Gx (⟨[G1 s29.1],[],ø,G,⟨⟨_,G,.conv (.same G)⟩,ø⟩,G,congrArg (fun r:Int=>(G1 r:AV)) (Option.some.inj h)⟩))))))))


theorem H83 (F:Nat) (x:List Int) (count:Int) (r:(List Int)) (h:Qh F x count=some r):Za Tryz.prog 223 [E0 x,G1 count] [] (fun av L'=>∃ p:Nat,av=.vec 1133 p 1 r.length∧L'=[(1133,.vec 3 1 p (r.map G1))]):=by
 unfold Qh at h
 refine Gc4 [] [.tmp 4] Tryz.func223 G G (inAll G) (G5 fun K1 hK1=>G3 (JLh (.vec 1132 (([]:List Int).length) 1 (([]:List Int).length)) (Jab 1132 3 1 G G G) G (G9 (hK1 _ _ (G5 (fun K2 hK2=>G5 fun K3 hK3=>G3 (JLh (G1 count) (G4 G G) G (JLh (BL (decide (count < 0))) (Hx G G G) G (G9 (hK3 _ _ (Gp G (fun hb=>?_) (fun hb=>?_))))))))))))
 ·
  replace h:=Gy hb h
  cases h
 ·
  replace h:=Hp hb h
  refine Gq (hK2 _ _ (G5 fun K4 hK4=>G3 (JLh (E0 x) (G4 G G) G (H0 (f:=G1) (xs:=x) Gt G G (fun hm14=>?_) G G G))))
  refine JLh (.sc (.int .u64 (IntKind.u64.wrap (x.length:Int)))) (H49 Gbc H4a G G G) G (JLh (G1 count) (G4 G G) G (JLh (.sc (.int .u64 (IntKind.u64.wrap count))) (H49 Gbc H4a G G G) G ?_))
  obtain⟨r5,hr5,h⟩:=Gf h
  refine JLh (.tup [.sc (.int .u64 r5.1),.sc (.int .u64 r5.2)]) (Gs (args:=[.sc (.int .u64 (IntKind.u64.wrap (x.length:Int))),.sc (.int .u64 (IntKind.u64.wrap count))]) G (H37 (IntKind.u64.wrap (x.length:Int)) (IntKind.u64.wrap count) r5 hr5) J20 ⟨G,G,G,G,ø⟩) G (JLh (.tup [.sc (.int .u64 r5.1),.sc (.int .u64 r5.2)]) (G4 G G) G (JLh (.sc (.int .u64 r5.1)) (Hm G G G) G (JLh (.sc (.int .u64 r5.2)) (Hm G G G) G (JLh (.sc (.int .u64 r5.1)) (G8 G G) G (JLh (.sc (.int .u64 r5.2)) (G8 G G) G (G9 (hK4 _ _ (G5 (fun K6 hK6=>G5 fun K7 hK7=>G3 (JLh (.sc (.int .u64 r5.1)) (G4 G G) G (JLh (BL (decide (0 < r5.1))) (Ya G G G) G (JLh (BL (decide (0 < r5.1))) (G4 G G) G (Gd (u:=.sc (.int .u64 r5.2)) [] G G G .scf ø (fun hc=>G4 G G) ?_)))))))))))))
  refine Gd (u:=BL (decide (9223372036854775807 < r5.2))) [(24,.sc (.int .u64 r5.2))] G G G .scf ⟨.all id,ø⟩ (fun hc=>Ya G G G) ?_
  refine JLh (BL ((decide (0 < r5.1))||(decide (9223372036854775807 < r5.2)))) (Z5 G G G G) G (G9 (hK7 _ _ (Gp G (fun hb=>?_) (fun hb=>?_))))
  ·
   replace h:=Gy hb h
   cases h
  ·
   replace h:=Hp hb h
   refine Gq (hK6 _ _ (G5 fun K8 hK8=>G3 (JLh (.sc (.int .u64 r5.2)) (G4 G G) G ?_)))
   obtain⟨v9,hv9,h⟩:=Hf h
   refine JLh (G1 v9) (H49 H4a Gbc hv9 G G) G ?_
   obtain⟨m10,hm10,h⟩:=Gf h
   obtain⟨ha11,h⟩:=Hr h
   refine JLh (.vec 1133 0 1 ((List.replicate m10 (0:Int)).length)) (G88 1133 (f:=G1) (n:=m10) 0 [.int .i64 0] G G G G Gt G08 G3e (Jt hm10) (Jt hm10) ha11 ⟨.inl G,ø⟩ G) G (JLh (.vec 1133 0 1 ((List.replicate m10 (0:Int)).length)) (G8 G G) G (G9 (hK8 _ _ ?_)))
   refine G5 fun K12 hK12=>G3 (JLh (.vec 1133 0 1 ((List.replicate m10 (0:Int)).length)) (G4 G G) G (JLh (E0 x) (G4 G G) G (JLh (G1 ((min x.length ((List.replicate m10 (0:Int)).length):Nat):Int)) (J67 (f:=G1) (xs:=(List.replicate m10 (0:Int))) (ys:=x) (off:=0) (n:=((List.replicate m10 (0:Int)).length)) G Gt (.inl ⟨G,G⟩) G (Src_list (ys:=x) G (.inl G)) (fun _=>G)) G (JLh (G1 ((min x.length ((List.replicate m10 (0:Int)).length):Nat):Int)) (G8 G G) G (G9 (hK12 _ _ (G5 (fun K13 hK13=>Gn ?_))))))))
   obtain⟨b26,hb26,h⟩:=G16 h
   refine H7 (fun i26 (s26:Int×(List Int))=>loop b26 i26 s26=some r) (fun i26 s26=>[(7,.vec 1133 0 1 ((List.replicate m10 (0:Int)).length)),(8,G1 s26.1)]) (fun i26 s26=>[(1132,.vec 3 1 (([]:List Int).length) (([]:List Int).map G1)),(1133,.vec 3 1 0 (s26.2.map G1))]) (fun i26=>i26) F (((min x.length ((List.replicate m10 (0:Int)).length):Nat):Int),(overlay (List.replicate m10 (0:Int)) 0 x ((List.replicate m10 (0:Int)).length))) h ⟨⟨.same G,.same G,ø⟩,⟨⟨_,G,.vec⟩,⟨_,G,.vec⟩,ø⟩,G⟩ ?_
   clear h
   intro i26 s26 hi26 K26 e26
   obtain⟨m26,nx26,hm_26,hn26,h⟩:=Zg hi26
   replace h:=H78 hb26 h
   refine G5 (fun K27 hK27=>G5 fun K28 hK28=>G3 (JLh (G1 s26.1) (G4 G G) G (JLh (.vec 1133 0 1 ((List.replicate m10 (0:Int)).length)) (G4 G G) G (Hf2 (f:=G1) (xs:=s26.2) Gt G G G (fun hm36=>?_) G G G))))
   refine JLh (BL (decide (s26.1 < (s26.2.length:Int)))) (Hx G G G) G (G9 (hK28 _ _ (Gp G (fun hb=>?_) (fun hb=>?_))))
   ·
    replace h:=Gy hb h
    refine Gq (hK27 _ _ (Gn (Z9 (l':=[(7,.vec 1133 0 1 ((List.replicate m10 (0:Int)).length)),(8,G1 s26.1)]) (L':=[(1132,.vec 3 1 (([]:List Int).length) (([]:List Int).map G1)),(1133,.vec 3 1 0 (s26.2.map G1))]) ⟨⟨.same G,.same G,ø⟩,⟨⟨_,G,.vec⟩,⟨_,G,.vec⟩,ø⟩,G⟩ ?_)))
    obtain⟨m29,hm29,h⟩:=Gf h
    obtain⟨m30,hm30,h⟩:=Gf h
    obtain⟨v31,hv31,h⟩:=Hf h
    refine Jc [7] [0,0,0,0,0,0,0,0,1,1] [1,0,0,0,0,0,0,0,1,1] [[(1132,.vec 3 1 (([]:List Int).length) (([]:List Int).map G1)),(1133,.vec 3 1 0 (s26.2.map G1))],((1133,.vec 3 1 0 ((overlay s26.2 m29 ((s26.2.drop 0).take m30) (s26.2.length - m29)).map G1))::[(1132,.vec 3 1 (([]:List Int).length) (([]:List Int).map G1)),(1133,.vec 3 1 0 (s26.2.map G1))])] J3 (by kernel_rfl) rfl rfl ?_
    refine Gb (u:=G1 s26.1) G G ⟨Gh (G4 G G) G,Gh (G4 G G) G,ø⟩ (Gb (u:=.vec 1133 0 1 ((List.replicate m10 (0:Int)).length)) G G ⟨Gh (G4 G G) G,ø⟩ (Gb (u:=G1 s26.1) G G ⟨Gh (G4 G G) G,ø⟩ (Gb (u:=.vsl 1133 0 1 m29 (s26.2.length - m29)) G G ⟨Gh (J1a (f:=G1) (xs:=s26.2) G G G G Gt (Qn hm29)) G,ø⟩ (Gb (u:=.vec 1133 0 1 ((List.replicate m10 (0:Int)).length)) G G ⟨Gh (G4 G G) G,ø⟩ (Gb (u:=G1 s26.1) G G ⟨Gh (G4 G G) G,ø⟩ (Gb (u:=.vsl 1133 0 1 0 m30) G G ⟨Gh (Jb7 (f:=G1) (xs:=s26.2) G G G G Gt (Qn hm30)) G,ø⟩ (D_w (u:=G1 ((min ((s26.2.drop 0).take m30).length (s26.2.length - m29):Nat):Int)) G G G G (Gh (J67 (f:=G1) (xs:=s26.2) (ys:=((s26.2.drop 0).take m30)) (off:=m29) (n:=(s26.2.length - m29)) G Gt (.inr G) G (Src_vsl (zs:=s26.2) G G) (fun _=>G)) G) (Gb (u:=G1 v31) G G ⟨Gh (Hj hv31 G G G) G,ø⟩ (Gb (u:=G1 v31) G G ⟨Gh (G8 G G) G,ø⟩ (Rb ?_))))))))))
    exact e26 _ _ m26 (v31,(overlay s26.2 m29 ((s26.2.drop 0).take m30) (s26.2.length - m29))) (app1 hn26 h) (by omega) ⟨⟨.same rfl,.same rfl,ø⟩,⟨⟨_,rfl,.vec⟩,⟨_,rfl,.vec⟩,ø⟩,rfl⟩
   ·
    replace h:=Hp hb h
    refine Hc (hK13 _ _ (G5 fun K32 hK32=>G3 (JLh (.vec 1133 0 1 ((List.replicate m10 (0:Int)).length)) (G4 G G) G (JLh (.vec 1133 0 1 ((List.replicate m10 (0:Int)).length)) (G8 G G) G (G9 (hK32 _ _ (J64 4 G G (fun hn_=>Gx ?_))))))))
    obtain rfl:=Option.some.inj h
    exact⟨[.vec 1133 0 1 ((List.replicate m10 (0:Int)).length)],[(1133,.vec 3 1 0 (s26.2.map G1))],⟨⟨_,G,.vec⟩,ø⟩,G,⟨⟨_,G,.conv (.same G)⟩,ø⟩,0,congrArg (fun n_:Nat=>(.vec 1133 0 1 n_:AV)) (hn_.trans (List.length_map _)),G⟩

def G53 (F:Nat) (c:G2) (p1:Int) (p2:Int) (p3:List Int):Option (List Int):=
 Rm (p1+1) fun v3=>
 bnd (Qh F [(-1)] v3) fun r4=>
 jp (fun kj6=>
  loop (fun nx8 (s8:Int×(List Int))=>
   bif decide (s8.1≤p1) then
   (bnd (G66 F c p2 s8.1) fun r13=>
    loop (fun nx62 (s62:Int×(List Int))=>
     bif decide (s62.1≤p1) then
     (jp (fun kj65=>
       Rm (s62.1 - s8.1) fun v67=>
       Qe p3 v67 fun y68=>
       Rm (y68+r13) fun v70=>
       Qe s62.2 s62.1 fun y72=>
       bnd (bif (!(decide (y72 < 0))) then Qe s62.2 s62.1 some else some default) fun y73=>
       bif ((decide (y72 < 0))||(decide (v70 < y73))) then
       (Qe s62.2 s62.1 fun y74=>
        kj65 (s62.2.set s62.1.toNat v70))
       else
       (kj65 s62.2)) fun(j65:(List Int))=>
      Rm (s62.1+1) fun v75=>
      nx62 (v75,j65))
     else
     (bif decide (r13=0) then
      (kj6 s62.2)
      else
      (Rm (s8.1+1) fun v77=>
       nx8 (v77,s62.2)))) F (s8.1,s8.2))
   else
   (kj6 s8.2)) F (0,r4)) fun(j6:(List Int))=>
 some j6
theorem Hef (F:Nat) (c:G2) (p1:Int) (p2:Int) (p3:List Int) (r:(List Int)) (h:G53 F c p1 p2 p3=some r):Za Tryz.prog 222 [.agg (G2.cs c),.dptr [G1 p1],.dptr [G1 p2],.ptr 1087 0] [(1087,.box 51 [E0 p3])] (fun av L'=>av=.tup []∧L'=[(1087,.box 51 [E0 r])]):=by
 unfold G53 at h
 refine Gc4 [1087] [] Tryz.func222 G G (inAll G) (G5 fun K1 hK1=>G3 (JLh (.ptr 1131 0) (Qi (u:=.agg (G2.cs c)) (cs:=[G1 c.G6.Load,G1 c.G6.Discharge,G1 c.Whole,G1 c.Half]) 1131 G G G G G) G (G9 (hK1 _ _ (Gz [(1,.dptr [G1 p1]),(2,.dptr [G1 p2]),(3,.ptr 1087 0),(4,Ee c)] [(1087,.box 51 [E0 p3])] 1131 rfl rfl rfl ⟨⟨_,rfl,.boxEq rfl rfl⟩,ø⟩ rfl (by repeat' (first | exact .ptr | constructor)) (G5 fun K2 hK2=>G3 (JLh (E0 [(-1)]) (Hs (xs:=[G1 (-1)]) G ⟨G,G,ø⟩ Gt G92 G G G G) G (JLh (G1 p1) (Gk Gc G G G) G ?_))))))))
 obtain⟨v3,hv3,h⟩:=Hf h
 refine JLh (G1 v3) (Hj hv3 G G G) G ?_
 obtain⟨r4,hr4,h⟩:=Gf h
 refine H3b G G G (Jae (args:=[E0 [(-1)],G1 v3]) (L0:=[]) (u:=fun p=>.vec 1133 p 1 r4.length) (Lr:=fun p=>[(1133,.vec 3 1 p (r4.map G1))]) G (H83 F [(-1)] v3 r4 hr4) Jcb ⟨.inl G,G,.inl G,G,ø⟩ ø G (fun _=>G)) ?_
 rintro u_ L_ ⟨v5,rfl,rfl⟩
 refine JLh (.vec 1133 v5 1 r4.length) (G8 G G) G (G9 (hK2 _ _ ?_))
 obtain⟨kj6,hkj6,h⟩:=G40 h
 refine G0b (fun j6:(List Int)=>kj6 j6=some r) (fun j6=>[(3,.ptr 1087 0),(5,.vec 1133 v5 1 r4.length)]) (fun j6=>[(1133,.vec 3 1 v5 (j6.map G1)),(1087,.box 51 [E0 p3])]) (fun Kj6 ej6=>?_) ?_
 ·
  refine G5 fun K7 hK7=>G3 (JLh (G1 0) (G8 G G) G (G9 (hK7 _ _ (Gn ?_))))
  obtain⟨b8,hb8,h⟩:=G16 h
  refine H7 (fun i8 (s8:Int×(List Int))=>loop b8 i8 s8=some r) (fun i8 s8=>[(1,.dptr [G1 p1]),(2,.dptr [G1 p2]),(3,.ptr 1087 0),(4,Ee c),(5,.vec 1133 v5 1 r4.length),(6,G1 s8.1)]) (fun i8 s8=>[(1133,.vec 3 1 v5 (s8.2.map G1)),(1087,.box 51 [E0 p3])]) (fun i8=>i8) F (0,r4) h ⟨(by repeat' constructor),⟨⟨_,rfl,.vec⟩,⟨_,rfl,.boxL rfl ⟨.same rfl,ø⟩⟩,ø⟩,rfl⟩ ?_
  clear h
  intro i8 s8 hi8 K8 e8
  obtain⟨m8,nx8,hm_8,hn8,h⟩:=Zg hi8
  replace h:=H78 hb8 h
  refine G5 (fun K9 hK9=>G5 fun K10 hK10=>G3 (JLh (G1 s8.1) (G4 G G) G (JLh (G1 p1) (Gk Gc G G G) G (JLh (BL (decide (s8.1≤p1))) (H81 G G G) G (G9 (hK10 _ _ (Gp G (fun hb=>?_) (fun hb=>?_))))))))
  ·
   replace h:=Gy hb h
   refine Gq (hK9 _ _ (G5 (fun K11 hK11=>Gn (G5 fun K12 hK12=>G3 (JLh (.agg (G2.cs c)) (Gi R0 G G G) G (JLh (G1 p2) (Gk Gc G G G) G (JLh (G1 s8.1) (G4 G G) G ?_)))))))
   obtain⟨r13,hr13,h⟩:=Gf h
   refine JLh (G1 r13) (Gs (args:=[.agg (G2.cs c),G1 p2,G1 s8.1]) G (M_bound_out_w F c p2 s8.1 r13 hr13) Jca ⟨G,G,G,G,G,G,ø⟩) G (JLh (G1 r13) (G8 G G) G (G9 (hK12 _ _ (G5 (fun K14 hK14=>G5 fun K15 hK15=>G3 (JLh (G1 s8.1) (G4 G G) G (JLh (G1 s8.1) (G8 G G) G (G9 (hK15 _ _ (Gn ?_))))))))))
   obtain⟨b62,hb62,h⟩:=G16 h
   refine H7 (fun i62 (s62:Int×(List Int))=>loop b62 i62 s62=some r) (fun i62 s62=>[(1,.dptr [G1 p1]),(2,.dptr [G1 p2]),(3,.ptr 1087 0),(4,Ee c),(5,.vec 1133 v5 1 r4.length),(6,G1 s8.1),(7,G1 r13),(8,G1 s62.1)]) (fun i62 s62=>[(1133,.vec 3 1 v5 (s62.2.map G1)),(1087,.box 51 [E0 p3])]) (fun i62=>i62) F (s8.1,s8.2) h ⟨(by repeat' constructor),⟨⟨_,rfl,.vec⟩,⟨_,rfl,.boxL rfl ⟨.same rfl,ø⟩⟩,ø⟩,rfl⟩ ?_
   clear h
   intro i62 s62 hi62 K62 e62
   obtain⟨m62,nx62,hm_62,hn62,h⟩:=Zg hi62
   replace h:=H78 hb62 h
   refine G5 (fun K63 hK63=>G5 fun K64 hK64=>G3 (JLh (G1 s62.1) (G4 G G) G (JLh (G1 p1) (Gk Gc G G G) G (JLh (BL (decide (s62.1≤p1))) (H81 G G G) G (G9 (hK64 _ _ (Gp G (fun hb=>?_) (fun hb=>?_))))))))
   ·
    replace h:=Gy hb h
    refine Gq (hK63 _ _ ?_)
    obtain⟨kj65,hkj65,h⟩:=G40 h
    refine G0b (fun j65:(List Int)=>kj65 j65=some r) (fun j65=>[(1,.dptr [G1 p1]),(2,.dptr [G1 p2]),(3,.ptr 1087 0),(4,Ee c),(5,.vec 1133 v5 1 r4.length),(6,G1 s8.1),(7,G1 r13),(8,G1 s62.1)]) (fun j65=>[(1133,.vec 3 1 v5 (j65.map G1)),(1087,.box 51 [E0 p3])]) (fun Kj65 ej65=>?_) ?_
    ·
     refine Gn (G5 fun K66 hK66=>G3 (JLh (E0 p3) (G35 Hv G G G G) G (JLh (G1 s62.1) (G4 G G) G (JLh (G1 s8.1) (G4 G G) G ?_))))
     obtain⟨v67,hv67,h⟩:=Hf h
     refine JLh (G1 v67) (G1e hv67 G G G) G ?_
     obtain⟨m69,y68,hm69,hy68,h⟩:=Q6 h
     refine JLh (.dptr [G1 y68]) (Gv (f:=G1) (xs:=p3) (y:=y68) G G G Gt hy68 hm69) G (JLh (G1 y68) (Gk Gc G G G) G (JLh (G1 r13) (G4 G G) G ?_))
     obtain⟨v70,hv70,h⟩:=Hf h
     refine JLh (G1 v70) (Hj hv70 G G G) G (JLh (G1 v70) (G8 G G) G (G9 (hK66 _ _ (G5 fun K71 hK71=>G3 (JLh (.vec 1133 v5 1 r4.length) (G4 G G) G (JLh (G1 s62.1) (G4 G G) G ?_))))))
     obtain⟨y72,hmy72,hy72,h⟩:=Yj h
     refine JLh (.vptr 1133 v5 s62.1.toNat 0) (Y5 (f:=G1) (xs:=s62.2) (y:=y72) G G G G Gt hy72 hmy72) G (JLh (G1 y72) (G13 (f:=G1) (xs:=s62.2) (y:=y72) Gc G G G hy72 G G) G (JLh (BL (decide (y72 < 0))) (Hx G G G) G (JLh (BL (decide (y72 < 0))) (G4 G G) G (Gd (u:=G1 v70) [] G G G .scf ø (fun hc=>G4 G G) ?_))))
     refine Gd (u:=.vec 1133 v5 1 r4.length) [] G G G .scf ø (fun hc=>G4 G G) ?_
     refine Gd (u:=G1 s62.1) [] G G G .scf ø (fun hc=>G4 G G) ?_
     obtain⟨y73,hy73,h⟩:=Gf h
     refine Gd (u:=.vptr 1133 v5 s62.1.toNat 0) [(44,.vec 1133 v5 1 r4.length),(45,G1 s62.1)] G G G .scf ⟨.all id,.all id,ø⟩ (fun hc=>Y5 (f:=G1) (xs:=s62.2) (y:=y73) G G G G Gt (Ru (Gy hc hy73)) (G4d (Gy hc hy73))) ?_
     refine Gd (u:=G1 y73) [(46,.vptr 1133 v5 s62.1.toNat 0)] G G G .scf ⟨.all id,ø⟩ (fun hc=>G13 (f:=G1) (xs:=s62.2) (y:=y73) Gc G G G (Ru (Gy hc hy73)) G G) ?_
     refine Gd (u:=BL (decide (v70 < y73))) [(43,G1 v70),(47,G1 y73)] G G G .scf ⟨.all id,.all id,ø⟩ (fun hc=>Hx G G G) ?_
     refine JLh (BL ((decide (y72 < 0))||(decide (v70 < y73)))) (Z5 G G G G) G (G9 (hK71 _ _ (Gp G (fun hb=>?_) (fun hb=>?_))))
     ·
      replace h:=Gy hb h
      refine G3 (JLh (.vec 1133 v5 1 r4.length) (G4 G G) G (JLh (G1 s62.1) (G4 G G) G (JLh (G1 v70) (G4 G G) G ?_)))
      obtain⟨y74,hmy74,hy74,h⟩:=Yj h
      refine JLh (.vptr 1133 v5 s62.1.toNat 0) (Y5 (f:=G1) (xs:=s62.2) (y:=y74) G G G G Gt hy74 hmy74) G (Jb (u:=.junk) (G57 (f:=G1) (xs:=s62.2) (z:=v70) Zq G G G G (List.getElem?_eq_some_iff.1 hy74).1 G G G G) (G9 (ej65 _ _ (s62.2.set s62.1.toNat v70) h ⟨(by repeat' constructor),⟨⟨_,rfl,.vec⟩,⟨_,rfl,.boxL rfl ⟨.same rfl,ø⟩⟩,ø⟩,rfl⟩)))
     ·
      replace h:=Hp hb h
      refine Gq (ej65 _ _ s62.2 h ⟨(by repeat' constructor),⟨⟨_,rfl,.vec⟩,⟨_,rfl,.boxL rfl ⟨.same rfl,ø⟩⟩,ø⟩,rfl⟩)
    ·intro j65 h
     replace h:=app1 hkj65 h
     refine G3 (JLh (G1 s62.1) (G4 G G) G ?_)
     obtain⟨v75,hv75,h⟩:=Hf h
     refine JLh (G1 v75) (Hj hv75 G G G) G (JLh (G1 v75) (G8 G G) G (G9 (e62 _ _ m62 (v75,j65) (app1 hn62 h) (by omega) ⟨(by repeat' constructor),⟨⟨_,rfl,.vec⟩,⟨_,rfl,.boxL rfl ⟨.same rfl,ø⟩⟩,ø⟩,rfl⟩)))
   ·
    replace h:=Hp hb h
    refine Hc (hK14 _ _ (G5 fun K76 hK76=>G3 (JLh (G1 r13) (G4 G G) G (JLh (BL (decide (r13=0))) (Rt G G G) G (G9 (hK76 _ _ (Gp G (fun hb=>?_) (fun hb=>?_))))))))
    ·
     replace h:=Gy hb h
     refine Hc (ej6 _ _ s62.2 h ⟨⟨.same G,.same G,ø⟩,⟨⟨_,G,.vec⟩,⟨_,G,.boxL G ⟨.same G,ø⟩⟩,ø⟩,G⟩)
    ·
     replace h:=Hp hb h
     refine Gq (hK11 _ _ (G3 (JLh (G1 s8.1) (G4 G G) G ?_)))
     obtain⟨v77,hv77,h⟩:=Hf h
     refine JLh (G1 v77) (Hj hv77 G G G) G (JLh (G1 v77) (G8 G G) G (G9 (e8 _ _ m8 (v77,s62.2) (app1 hn8 h) (by omega) ⟨(by repeat' constructor),⟨⟨_,rfl,.vec⟩,⟨_,rfl,.boxL rfl ⟨.same rfl,ø⟩⟩,ø⟩,rfl⟩)))
  ·
   replace h:=Hp hb h
   refine Hc (ej6 _ _ s8.2 h ⟨⟨.same G,.same G,ø⟩,⟨⟨_,G,.vec⟩,⟨_,G,.boxL G ⟨.same G,ø⟩⟩,ø⟩,G⟩)
 ·intro j6 h
  replace h:=app1 hkj6 h
  refine G3 (JLh (.vec 1133 v5 1 r4.length) (G4 G G) G (Q12 [(3,.ptr 1087 0),(5,E0 j6),(56,E0 j6)] [(1087,.box 51 [E0 p3])] 1133 rfl rfl ⟨⟨_,rfl,.boxEq rfl rfl⟩,ø⟩ rfl (by exact⟨.conv (.same rfl),.vec,.vec,ø⟩) (Jb (u:=.junk) (J4 (u:=E0 j6) (ds:=[E0 j6]) Gfb G G G G G G G G) (G9 ?_))))
  obtain rfl:=Option.some.inj h
  exact⟨[],[(1087,.box 51 [E0 j6])],⟨⟨_,G,.boxL G ⟨.same G,ø⟩⟩,ø⟩,G,ø,G,G⟩

def Zv (F:Nat) (s:J0) (l:List G2):Option Int:=
 bnd (Yt s) fun r3=>
 Rm (2*(s.Columns.length:Int)) fun v4=>
 Rm (v4+1) fun v6=>
 bnd (G9b v6) fun m7=>
 need (decide (8*m7≤281474976710656∧m7≤maxLen∧m7*1≤16777216)) <|
 each (fun y36 i36 (s36:(List Int)) nx36=>
  bnd (G53 F y36 v4 r3 s36) fun r41=>
  nx36 r41)
 (fun(s36:(List Int))=>
  Qe s36 v4 fun y43=>
  some y43) l 0 (List.replicate m7 (0:Int))
theorem Ge0 (F:Nat) (s:J0) (l:List G2) (r:Int) (h:Zv F s l=some r):Pure Tryz.prog 113 [.agg (J0.cs s),E3 l] (·=G1 r):=by
 unfold Zv at h
 refine H1 [.tmp 4] Tryz.func113 G G (G5 fun K1 hK1=>G3 (JLh (.ptr 1084 0) (Qi (u:=.agg (J0.cs s)) (cs:=(J0.cs s)) 1084 G G G G G) G (JLh (G1 0) (G8 G G) G (G9 (hK1 _ _ ?_)))))
 refine Gz [(1,E3 l),(2,Ed s)] [] 1084 rfl rfl rfl ø rfl (by exact⟨.conv (.same rfl),.ptr,ø⟩) (G5 (fun K2 hK2=>?_))
 obtain⟨r3,hr3,h⟩:=Gf h
 obtain⟨v4,hv4,h⟩:=Hf h
 refine Ja6 [6,7,8,9] [[[false,false,false,false],[true,false,false,false],[false,true,false,false],[true,true,false,false]],[[false,false,false,false],[true,false,false,false],[false,true,false,false],[true,true,false,false]],[[false,false,false,false],[true,false,false,false],[false,true,false,false],[true,true,false,false],[true,true,true,false]],[[false,false,false,false],[true,false,false,false],[false,true,false,false],[true,true,false,false],[true,true,true,false]],[[false,false,false,false],[true,false,false,false],[false,true,false,false],[true,true,false,false],[true,true,true,false]],[[false,false,false,false],[true,false,false,false],[false,true,false,false],[true,true,false,false],[true,true,true,false]],[[false,false,false,false],[false,true,false,false]],[[false,false,false,false],[true,false,false,false]],[[true,true,false,false]],[[true,true,true,false]]] [([false,false,false,false],[]),([true,false,false,false],[(1085,.box 3 [.junk])]),([false,true,false,false],[(1086,.box 3 [.junk])]),([true,true,false,false],[(1085,.box 3 [.junk]),(1086,.box 3 [.junk])]),([true,true,true,false],[(1085,.box 3 [G1 r3]),(1086,.box 3 [.junk])]),([true,true,true,true],[(1085,.box 3 [G1 r3]),(1086,.box 3 [G1 v4])])] J3 (by kernel_rfl) rfl rfl ?_
 refine G5d (u:=.agg (J0.cs s)) G ⟨.ro G G (Gh (Gi Jd G G G) G),.ro G G (Gh (Gi Jd G G G) G),.ro G G (Gh (Gi Jd G G G) G),.ro G G (Gh (Gi Jd G G G) G),ø⟩ ?_ G
 refine G5d (u:=G1 r3) G ⟨.ro G G (Gh (Gs (args:=[.agg (J0.cs s)]) G (G43 s r3 hr3) Gca ⟨G,G,ø⟩) G),.ro G G (Gh (Gs (args:=[.agg (J0.cs s)]) G (G43 s r3 hr3) Gca ⟨G,G,ø⟩) G),.ro G G (Gh (Gs (args:=[.agg (J0.cs s)]) G (G43 s r3 hr3) Gca ⟨G,G,ø⟩) G),.ro G G (Gh (Gs (args:=[.agg (J0.cs s)]) G (G43 s r3 hr3) Gca ⟨G,G,ø⟩) G),ø⟩ ?_ G
 refine G5d (u:=Ed s) G ⟨.ro G G (Gh (Ge Hw G G G) G),.ro G G (Gh (Ge Hw G G G) G),.ro G G (Gh (Ge Hw G G G) G),.ro G G (Gh (Ge Hw G G G) G),.ro G G (Gh (Ge Hw G G G) G),ø⟩ ?_ G
 refine G5d (u:=E5 s.Columns) G ⟨.ro G G (Gh (Gk J8 G G G) G),.ro G G (Gh (Gk J8 G G G) G),.ro G G (Gh (Gk J8 G G G) G),.ro G G (Gh (Gk J8 G G G) G),.ro G G (Gh (Gk J8 G G G) G),ø⟩ ?_ G
 refine G5d (u:=En s.Columns.length) G ⟨.ro G G (Gh (Jp (f:=Ga.av) (xs:=s.Columns) Hb G G) G),.ro G G (Gh (Jp (f:=Ga.av) (xs:=s.Columns) Hb G G) G),.ro G G (Gh (Jp (f:=Ga.av) (xs:=s.Columns) Hb G G) G),.ro G G (Gh (Jp (f:=Ga.av) (xs:=s.Columns) Hb G G) G),.ro G G (Gh (Jp (f:=Ga.av) (xs:=s.Columns) Hb G G) G),ø⟩ ?_ G
 refine G5d (u:=G1 v4) G ⟨.ro G G (Gh (G77 hv4 G G G) G),.ro G G (Gh (G77 hv4 G G G) G),.ro G G (Gh (G77 hv4 G G G) G),.ro G G (Gh (G77 hv4 G G G) G),.ro G G (Gh (G77 hv4 G G G) G),ø⟩ ?_ G
 refine G5d (u:=.ptr 1085 0) G ⟨.w [1085] G G (Gh (Jn 1085 1 G92 G G) G) G G ⟨G,ø⟩,.w [1086,1085] G G (Gh (Jn 1085 1 G92 G G) G) G G ⟨G,G,ø⟩,ø⟩ ?_ G
 refine G5d (u:=.ptr 1086 0) G ⟨.w [1086] G G (Gh (Jn 1086 1 G92 G G) G) G G ⟨G,ø⟩,.w [1085,1086] G G (Gh (Jn 1086 1 G92 G G) G) G G ⟨G,G,ø⟩,ø⟩ ?_ G
 refine D2_go0 (u:=.junk) G ⟨.w [1085,1086] G G (Gh (J4 (u:=G1 r3) (ds:=[G1 r3]) Zq G G G G G G G G) G) G G ⟨G,G,ø⟩,ø⟩ (D2_go0 (u:=.junk) G ⟨.w [1085,1086] G G (Gh (J4 (u:=G1 v4) (ds:=[G1 v4]) Zq G G G G G G G G) G) G G ⟨G,G,ø⟩,ø⟩ (Q14 (hK2 _ _ (Gz [(1,E3 l),(5,.dptr [G1 r3]),(6,.ptr 1086 0)] [(1086,.box 3 [G1 v4])] 1085 rfl rfl rfl ⟨⟨_,rfl,.boxEq rfl rfl⟩,ø⟩ rfl (by exact⟨.conv (.same rfl),.ptr,.conv (.same rfl),ø⟩) (Gz [(1,E3 l),(5,.dptr [G1 r3]),(6,.dptr [G1 v4])] [] 1086 rfl rfl rfl ø rfl (by exact⟨.conv (.same rfl),.conv (.same rfl),.ptr,ø⟩) (G5 fun K5 hK5=>G3 (JLh (G1 v4) (Gk Gc G G G) G ?_)))))))
 obtain⟨v6,hv6,h⟩:=Hf h
 refine JLh (G1 v6) (Hj hv6 G G G) G ?_
 obtain⟨m7,hm7,h⟩:=Gf h
 obtain⟨ha8,h⟩:=Hr h
 refine JLh (E0 (List.replicate m7 (0:Int))) (A_makeDM (f:=G1) (n:=m7) 0 [.int .i64 0] G G G Gt G08 G3e (Jt hm7) (Jt hm7) ha8 ⟨.inl G,ø⟩ G) G (JLh (.ptr 1087 0) (Jn 1087 1 Jc1 G G) G (Jb (u:=.junk) (J4 (u:=E0 (List.replicate m7 (0:Int))) (ds:=[E0 (List.replicate m7 (0:Int))]) Gfb G G G G G G G G) (G9 (hK5 _ _ (G5 fun K9 hK9=>G3 (JLh (.fn 222 [.dptr [G1 v4],.dptr [G1 r3],.ptr 1087 0]) (H1a (cs:=[.dptr [G1 v4],.dptr [G1 r3],.ptr 1087 0]) G G) G (JLh (.fn 222 [.dptr [G1 v4],.dptr [G1 r3],.ptr 1087 0]) (G8 G G) G (G9 (hK9 _ _ (G5 (fun K10 hK10=>G5 fun K11 hK11=>G3 (JLh (E3 l) (G4 G G) G ?_))))))))))))
 refine H0 (f:=G2.av) (xs:=l) H8 G G (fun hm22=>?_) G G G
 refine JLh (G1 0) (G4 G G) G (G9 (hK11 _ _ (Gn ?_)))
 obtain⟨b36,kx36,hb36,hkx36,h⟩:=J9 h
 refine H7 (fun i36 (s36:(List Int))=>each b36 kx36 (List.drop i36 l) i36 s36=some r) (fun i36 s36=>[(6,.dptr [G1 v4]),(7,.ptr 1087 0),(8,.fn 222 [.dptr [G1 v4],.dptr [G1 r3],.ptr 1087 0]),(21,E3 l),(22,En l.length),(23,En i36)]) (fun i36 s36=>[(1087,.box 51 [E0 s36])]) (fun i36=>l.length - i36) 0 (List.replicate m7 (0:Int)) h ⟨(by repeat' constructor),⟨⟨_,rfl,.boxL rfl ⟨.same rfl,ø⟩⟩,ø⟩,rfl⟩ ?_
 clear h
 intro i36 s36 hi36 K36 e36
 refine G5 fun K37 hK37=>G3 (JLh (BL (decide ((i36:Int) < (l.length:Int)))) (Hx G G G) G (G9 (hK37 _ _ (G5 (fun K38 hK38=>Gp G (fun hb=>?_) (fun hb=>?_))))))
 ·
  have hk36:=Jm hb
  obtain⟨y36,nx36,hy36,hn36,h⟩:=Hy hi36 hk36
  replace h:=Zn hb36 h
  refine Gq (hK38 _ _ (G5 (fun K39 hK39=>Gn (G5 fun K40 hK40=>G3 (JLh (Ee y36) (Gv (f:=G2.av) (xs:=l) (y:=y36) G G G H8 hy36 G) G (JLh (.agg (G2.cs y36)) (Gi R0 G G G) G (JLh (.ptr 1088 0) (Jn 1088 4 R9 G G) G (Jb (u:=.junk) (J4 (u:=.agg (G2.cs y36)) (ds:=[G1 y36.G6.Load,G1 y36.G6.Discharge,G1 y36.Whole,G1 y36.Half]) G1f G G G G G G G G) (G9 (hK40 _ _ ?_))))))))))
  refine Gz [(6,.dptr [G1 v4]),(7,.ptr 1087 0),(8,.fn 222 [.dptr [G1 v4],.dptr [G1 r3],.ptr 1087 0]),(10,Ee y36),(21,E3 l),(22,En l.length),(23,En i36)] [(1087,.box 51 [E0 s36])] 1088 rfl rfl rfl ⟨⟨_,rfl,.boxEq rfl rfl⟩,ø⟩ rfl (by repeat' (first | exact .ptr | constructor)) (G3 (JLh (.fn 222 [.dptr [G1 v4],.dptr [G1 r3],.ptr 1087 0]) (G4 G G) G (JLh (.agg (G2.cs y36)) (Gi R0 G G G) G ?_)))
  obtain⟨r41,hr41,h⟩:=Gf h
  refine JLh (.tup []) (A_callVL (args:=[.agg (G2.cs y36)]) (caps:=[.dptr [G1 v4],.dptr [G1 r3],.ptr 1087 0]) (L0:=[(1087,.box 51 [E0 s36])]) (Lr:=[(1087,.box 51 [E0 r41])]) G G (Hef F y36 v4 r3 s36 r41 hr41) Jcc ⟨.inl G,G,ø⟩ G ⟨G,ø⟩ G G G) G (G9 (hK39 _ _ (G3 (JLh (G1 ((i36+1:Nat):Int)) (Hj (Hi hk36 hm22) G G G) G (JLh (G1 ((i36+1:Nat):Int)) (G4 G G) G (G9 (e36 _ _ (i36+1) r41 (app1 hn36 h) (by omega) ⟨(by repeat' constructor),⟨⟨_,rfl,.boxL rfl ⟨.same rfl,ø⟩⟩,ø⟩,rfl⟩)))))))
 ·
  have h:=app1 hkx36 (Hz hi36 (Hg hb))
  refine Hc (hK10 _ _ (G5 fun K42 hK42=>G3 (JLh (E0 s36) (G35 Hv G G G G) G (JLh (G1 v4) (Gk Gc G G G) G ?_))))
  obtain⟨m44,y43,hm44,hy43,h⟩:=Q6 h
  refine JLh (.dptr [G1 y43]) (Gv (f:=G1) (xs:=s36) (y:=y43) G G G Gt hy43 hm44) G (JLh (G1 y43) (Gk Gc G G G) G (JLh (G1 y43) (G8 G G) G (G9 (hK42 _ _ (Gx (⟨[G1 y43],[],ø,G,⟨⟨_,G,.conv (.same G)⟩,ø⟩,G,congrArg (fun r:Int=>(G1 r:AV)) (Option.some.inj h)⟩))))))

def G86 (F:Nat) (s:J0) (boxes:List H4) (families:List (List G6)) (Rp:(Int×Int)→Prop):Option Prop:=
 bnd (Zc s boxes) fun r4=>
 bif (!r4) then
 (some (Rp (0,2)))
 else
 (bnd (Qp boxes) fun r7=>
  each (fun y11 i11 (s11:Int×(Hh G6 Int)) nx11=>
   bnd (G26 r7 y11) fun r17=>
   bif decide (r17.2≠0) then
   (some (Rp (0,r17.2)))
   else
   (bnd (Zv F s r17.1) fun r22=>
    Rm (s11.1+r22) fun v23=>
    each (fun y53 i53 (s53:(Hh G6 Int)) nx53=>
     bnd (some (Hh.get s53 y53 0)) fun v58=>
     Rm (v58+1) fun v59=>
     nx53 (Hh.put s53 y53 v59))
    (fun(s53:(Hh G6 Int))=>
     nx11 (v23,s53)) y11 0 s11.2))
  (fun(s11:Int×(Hh G6 Int))=>
   J93 (fun(x67:G6×Int) (s67:Unit) nx67=>
    bif decide (1 < x67.2) then
    (lft (some (Rp (0,271))))
    else
    (nx67 ()))
   (fun(s67:Unit)=>
    some (Rp (s11.1,0))) (Hh.l s11.2) ()) families 0 (0,(Hh.empty:Hh G6 Int)))
def G3a (F:Nat) (s:J0) (boxes:List H4) (families:List (List G6)):Option (Int×Int):=
 bnd (Zc s boxes) fun r4=>
 bif (!r4) then
 (some (id (0,2)))
 else
 (bnd (Qp boxes) fun r7=>
  each (fun y11 i11 (s11:Int×(Hh G6 Int)) nx11=>
   bnd (G26 r7 y11) fun r17=>
   bif decide (r17.2≠0) then
   (some (id (0,r17.2)))
   else
   (bnd (Zv F s r17.1) fun r22=>
    Rm (s11.1+r22) fun v23=>
    each (fun y53 i53 (s53:(Hh G6 Int)) nx53=>
     bnd (some (Hh.get s53 y53 0)) fun v58=>
     Rm (v58+1) fun v59=>
     nx53 (Hh.put s53 y53 v59))
    (fun(s53:(Hh G6 Int))=>
     nx11 (v23,s53)) y11 0 s11.2))
  (fun(s11:Int×(Hh G6 Int))=>
   Hcc (fun(x67:G6×Int) (s67:Unit) nx67=>
    bif decide (1 < x67.2) then
    (lft (some (id (0,271))))
    else
    (nx67 ()))
   (fun(s67:Unit)=>
    some (id (s11.1,0))) (Hh.l s11.2) ()) families 0 (0,(Hh.empty:Hh G6 Int)))
theorem J55 (F:Nat) (s:J0) (boxes:List H4) (families:List (List G6)) (Rp:(Int×Int)→Prop) (p:Prop) (h:G86 F s boxes families Rp=some p) (hp:p):Pure Tryz.prog 43 [.agg (J0.cs s),E2 boxes,LS 1 (E1) families] (fun av=>∃ r,Rp r∧av=.tup [G1 r.1,G1 r.2]):=by
 unfold G86 at h
 refine H1 [.tmp 6,.tmp 7] Tryz.func43 G G (G5 fun K1 hK1=>G3 (JLh (.ptr 1035 0) (Qi (u:=.agg (J0.cs s)) (cs:=(J0.cs s)) 1035 G G G G G) G (JLh (G1 0) (G8 G G) G (JLh (G1 0) (G8 G G) G (G9 (hK1 _ _ ?_))))))
 refine Gz [(1,E2 boxes),(2,LS 1 (E1) families),(3,Ed s)] [] 1035 rfl rfl rfl ø rfl (by exact⟨.conv (.same rfl),.conv (.same rfl),.ptr,ø⟩) (G5 (fun K2 hK2=>G5 fun K3 hK3=>G3 (JLh (.agg (J0.cs s)) (Gi Jd G G G) G (JLh (E2 boxes) (G4 G G) G ?_))))
 obtain⟨r4,hr4,h⟩:=Gf h
 refine JLh (BL r4) (Gs (args:=[.agg (J0.cs s),E2 boxes]) G (Gdf s boxes r4 hr4) H9a ⟨G,G,G,G,ø⟩) G (JLh (BL (!r4)) (Yu (b:=r4) G G) G (G9 (hK3 _ _ (Gp G (fun hb=>?_) (fun hb=>?_)))))
 ·
  replace h:=Gy hb h
  refine G5 fun K5 hK5=>G3 (JLh (G1 0) (G8 G G) G (JLh (G1 2) (G8 G G) G (G9 (hK5 _ _ (Gx (⟨[G1 0,G1 2],[],ø,G,⟨⟨_,G,.conv (.same G)⟩,⟨_,G,.conv (.same G)⟩,ø⟩,G,(0,2),Eq.mpr (Option.some.inj h) hp,G⟩))))))
 ·
  replace h:=Hp hb h
  refine Gq (hK2 _ _ (G5 fun K6 hK6=>G3 (JLh (E2 boxes) (G4 G G) G ?_)))
  obtain⟨r7,hr7,h⟩:=Gf h
  refine JLh (E3 r7) (Gs (args:=[E2 boxes]) G (G6e.down boxes r7 hr7) Gfe ⟨G,G,ø⟩) G (JLh (G1 0) (G8 G G) G (JLh (E3 r7) (G8 G G) G (G9 (hK6 _ _ (G5 fun K8 hK8=>G3 (JLh (.mp 1037) (H7c 1037 G6.kv G1 G G) G (JLh (.mp 1037) (G8 G G) G (G9 (hK8 _ _ (G5 (fun K9 hK9=>G5 fun K10 hK10=>G3 (JLh (LS 1 (E1) families) (G4 G G) G (H0 (f:=(E1)) (xs:=families) J1 G G (fun hm27=>?_) G G G)))))))))))))
  refine JLh (G1 0) (G4 G G) G (G9 (hK10 _ _ (Gn ?_)))
  obtain⟨b11,kx11,hb11,hkx11,h⟩:=J9 h
  refine H7 (fun i11 (s11:Int×(Hh G6 Int))=>each b11 kx11 (List.drop i11 families) i11 s11=some p) (fun i11 s11=>[(3,Ed s),(8,G1 s11.1),(9,E3 r7),(10,.mp 1037),(26,LS 1 (E1) families),(27,En families.length),(28,En i11)]) (fun i11 s11=>[(1037,MP 191 G6.kv G1 s11.2)]) (fun i11=>families.length - i11) 0 (0,(Hh.empty:Hh G6 Int)) h ⟨(by repeat' constructor),⟨⟨_,rfl,.map⟩,ø⟩,rfl⟩ ?_
  clear h
  intro i11 s11 hi11 K11 e11
  refine G5 fun K12 hK12=>G3 (JLh (BL (decide ((i11:Int) < (families.length:Int)))) (Hx G G G) G (G9 (hK12 _ _ (G5 (fun K13 hK13=>Gp G (fun hb=>?_) (fun hb=>?_))))))
  ·
   have hk11:=Jm hb
   obtain⟨y11,nx11,hy11,hn11,h⟩:=Hy hi11 hk11
   replace h:=Zn hb11 h
   refine Gq (hK13 _ _ (G5 (fun K14 hK14=>Gn (G5 fun K15 hK15=>G3 (JLh (.dptr [E1 y11]) (Gv (f:=(E1)) (xs:=families) (y:=y11) G G G J1 hy11 G) G (JLh (E1 y11) (Gk Rv G G G) G (JLh (E1 y11) (G8 G G) G (G9 (hK15 _ _ (G5 fun K16 hK16=>G3 (JLh (E3 r7) (G4 G G) G (JLh (E1 y11) (G4 G G) G ?_))))))))))))
   obtain⟨r17,hr17,h⟩:=Gf h
   refine JLh (.tup [E3 r17.1,G1 r17.2]) (Gs (args:=[E3 r7,E1 y11]) G (H55 r7 y11 r17 hr17) J2e ⟨G,G,G,G,ø⟩) G (JLh (.tup [E3 r17.1,G1 r17.2]) (G4 G G) G (JLh (E3 r17.1) (Hm G G G) G (JLh (G1 r17.2) (Hm G G G) G (JLh (E3 r17.1) (G8 G G) G (JLh (G1 r17.2) (G8 G G) G (G9 (hK16 _ _ (G5 (fun K18 hK18=>G5 fun K19 hK19=>G3 (JLh (G1 r17.2) (G4 G G) G (JLh (BL (decide (r17.2≠0))) (G14 G G G) G (G9 (hK19 _ _ (Gp G (fun hb=>?_) (fun hb=>?_)))))))))))))))
   ·
    replace h:=Gy hb h
    refine G5 fun K20 hK20=>G3 (JLh (G1 r17.2) (G4 G G) G (JLh (G1 0) (G8 G G) G (JLh (G1 r17.2) (G8 G G) G (G9 (hK20 _ _ (Gx (⟨[G1 0,G1 r17.2],[],ø,G,⟨⟨_,G,.conv (.same G)⟩,⟨_,G,.conv (.same G)⟩,ø⟩,G,(0,r17.2),Eq.mpr (Option.some.inj h) hp,G⟩)))))))
   ·
    replace h:=Hp hb h
    refine Gq (hK18 _ _ (G5 fun K21 hK21=>G3 (JLh (G1 s11.1) (G4 G G) G (JLh (.agg (J0.cs s)) (Gi Jd G G G) G (JLh (E3 r17.1) (G4 G G) G ?_)))))
    obtain⟨r22,hr22,h⟩:=Gf h
    refine JLh (G1 r22) (Gs (args:=[.agg (J0.cs s),E3 r17.1]) G (Ge0 F s r17.1 r22 hr22) H99 ⟨G,G,G,G,ø⟩) G ?_
    obtain⟨v23,hv23,h⟩:=Hf h
    refine JLh (G1 v23) (Hj hv23 G G G) G (JLh (G1 v23) (G8 G G) G (G9 (hK21 _ _ (G5 fun K24 hK24=>G3 (JLh (E1 y11) (G4 G G) G (H0 (f:=G6.av) (xs:=y11) Ha G G (fun hm47=>?_) G G G))))))
    refine JLh (G1 0) (G4 G G) G (G9 (hK24 _ _ (Gn ?_)))
    obtain⟨b53,kx53,hb53,hkx53,h⟩:=J9 h
    refine H7 (fun i53 (s53:(Hh G6 Int))=>each b53 kx53 (List.drop i53 y11) i53 s53=some p) (fun i53 s53=>[(3,Ed s),(8,G1 v23),(9,E3 r7),(10,.mp 1037),(26,LS 1 (E1) families),(27,En families.length),(28,En i11),(46,E1 y11),(47,En y11.length),(48,En i53)]) (fun i53 s53=>[(1037,MP 191 G6.kv G1 s53)]) (fun i53=>y11.length - i53) 0 s11.2 h ⟨(by repeat' constructor),⟨⟨_,rfl,.map⟩,ø⟩,rfl⟩ ?_
    clear h
    intro i53 s53 hi53 K53 e53
    refine G5 fun K54 hK54=>G3 (JLh (BL (decide ((i53:Int) < (y11.length:Int)))) (Hx G G G) G (G9 (hK54 _ _ (G5 (fun K55 hK55=>Gp G (fun hb=>?_) (fun hb=>?_))))))
    ·
     have hk53:=Jm hb
     obtain⟨y53,nx53,hy53,hn53,h⟩:=Hy hi53 hk53
     replace h:=Zn hb53 h
     refine Gq (hK55 _ _ (G5 (fun K56 hK56=>Gn (G5 fun K57 hK57=>G3 (JLh (.dptr [G1 y53.Load,G1 y53.Discharge]) (Gv (f:=G6.av) (xs:=y11) (y:=y53) G G G Ha hy53 G) G (JLh (.agg [G1 y53.Load,G1 y53.Discharge]) (Gi Ho G G G) G (JLh (.ptr 1036 0) (Jn 1036 2 Zx G G) G (Jb (u:=.junk) (J4 (u:=.agg [G1 y53.Load,G1 y53.Discharge]) (ds:=[G1 y53.Load,G1 y53.Discharge]) G5f G G G G G G G G) (G9 (hK57 _ _ ?_))))))))))
     refine Gz [(3,Ed s),(8,G1 v23),(9,E3 r7),(10,.mp 1037),(16,.dptr [G1 y53.Load,G1 y53.Discharge]),(26,LS 1 (E1) families),(27,En families.length),(28,En i11),(46,E1 y11),(47,En y11.length),(48,En i53)] [(1037,MP 191 G6.kv G1 s53)] 1036 rfl rfl rfl ⟨⟨_,rfl,.map⟩,ø⟩ rfl (by repeat' (first | exact .ptr | constructor)) ?_
     refine Z9 (l':=[(3,Ed s),(8,G1 v23),(9,E3 r7),(10,.mp 1037),(16,.dptr [G1 y53.Load,G1 y53.Discharge]),(26,LS 1 (E1) families),(27,En families.length),(28,En i11),(46,E1 y11),(47,En y11.length),(48,En i53)]) (L':=[(1037,MP 191 G6.kv G1 s53)]) ⟨(by repeat' constructor),⟨⟨_,rfl,.map⟩,ø⟩,rfl⟩ ?_
     obtain⟨v58,hv58,h⟩:=Gf h
     obtain⟨v59,hv59,h⟩:=Hf h
     refine Jc [4,6] [0,0,0,0,0,1,0] [0,0,1,1,0,1,0] [[(1037,MP 191 G6.kv G1 s53)],((1037,MI 191 G6.kv G1 s53 y53 0)::[(1037,MP 191 G6.kv G1 s53)]),((1037,MP 191 G6.kv G1 (Hh.put s53 y53 v59))::((1037,MI 191 G6.kv G1 s53 y53 0)::[(1037,MP 191 G6.kv G1 s53)]))] J3 (by kernel_rfl) rfl rfl ?_
     refine Gb (u:=.mp 1037) G G ⟨Gh (G4 G G) G,ø⟩ (Gb (u:=.agg [G1 y53.Load,G1 y53.Discharge]) G G ⟨Gh (Gi Ho G G G) G,ø⟩ (Gb (u:=G1 v58) G G ⟨Gh (((Option.some.inj hv58) ▸ H1b (av:=G1) (m:=s53) (a:=y53) 0 (.int .i64 0) G G G G J6c H5d Ge3 G)) G,Gh (((Option.some.inj hv58) ▸ Hd7 (av:=G1) (m:=s53) (a:=y53) 0 (.int .i64 0) G G G G J6c H5d Ge3 G)) G,ø⟩ (Gb (u:=G1 v59) G G ⟨Gh (Hj hv59 G G G) G,Gh (Hj hv59 G G G) G,ø⟩ (D_w (u:=.tup [.junk,G1 (G27 (Hh.l s53) y53:Int)]) G G G G (Gh (Hb0 (m:=s53) (a:=y53) 0 (.int .i64 0) G G G G J6c H5d Ge3 G) G) (Gb (u:=G1 (G27 (Hh.l s53) y53:Int)) G G ⟨Gh (Hm G G G) G,ø⟩ (Jbc (u:=.junk) G G G G (Gh (H48 (m:=s53) (a:=y53) (v:=v59) 0 G G G G G G) G) (Rb ?_)))))))
     refine hK56 _ _ (G3 (JLh (G1 ((i53+1:Nat):Int)) (Hj (Hi hk53 hm47) G G G) G (JLh (G1 ((i53+1:Nat):Int)) (G4 G G) G (G9 (e53 _ _ (i53+1) (Hh.put s53 y53 v59) (app1 hn53 h) (by omega) ⟨(by repeat' constructor),⟨⟨_,rfl,.map⟩,ø⟩,rfl⟩)))))
    ·
     have h:=app1 hkx53 (Hz hi53 (Hg hb))
     refine Hc (hK14 _ _ (G3 (JLh (G1 ((i11+1:Nat):Int)) (Hj (Hi hk11 hm27) G G G) G (JLh (G1 ((i11+1:Nat):Int)) (G4 G G) G (G9 (e11 _ _ (i11+1) (v23,s53) (app1 hn11 h) (by omega) ⟨(by repeat' constructor),⟨⟨_,rfl,.map⟩,ø⟩,rfl⟩))))))
  ·
   have h:=app1 hkx11 (Hz hi11 (Hg hb))
   refine Hc (hK9 _ _ (G5 (fun K60 hK60=>G5 fun K61 hK61=>G3 (JLh (.mp 1037) (G4 G G) G (JLh (.it 1038) (Hf7 1038 (m:=s11.2) G G G G H5d) G (G9 (hK61 _ _ (Gn ?_))))))))
   obtain⟨b67,kx67,hb67,hkx67,h⟩:=He8 h
   refine Hf3 (Hh.size s11.2) (fun i67 (s67:Unit)=>MInv b67 kx67 (Hh.l s11.2) i67 s67) (fun i67 s67=>[(8,G1 s11.1),(61,.it 1038)]) (fun i67 s67=>[(1037,MP 191 G6.kv G1 s11.2),(1038,.iter 1037 (Hh.size s11.2) i67)]) () (MInv.start h hp) ⟨⟨.same G,.same G,ø⟩,⟨⟨_,G,.map⟩,⟨_,G,.iter G⟩,ø⟩,G⟩ ?_
   clear h hp
   intro i67 s67 hi67 K67 e67
   refine G5 fun K68 hK68=>G3 (H3b G G G (J65 (m:=s11.2) G G G G) ?_)
   intro u_ L_ hn_
   rcases hn_ with ⟨q67,x67,he67,hs67,rfl,rfl⟩ | ⟨ha67,rfl,rfl⟩
   ·
    obtain⟨o67,h,ho1_67,ho2_67⟩:=hi67.step he67 hs67
    replace h:=H82 hb67 h
    refine JLh (BL true) (Hm G G G) G (G9 (hK68 _ _ (G5 (fun K69 hK69=>Hf4 G (Gq (hK69 _ _ (Gn (G5 fun K70 hK70=>G3 (JLh (.tup [.agg [G1 x67.1.Load,G1 x67.1.Discharge],G1 x67.2]) (Hf9 (kv:=G6.kv) (av:=G1) (m:=s11.2) (q:=q67) (seen:=i67) (e:=x67) G G G G he67) G (JLh (G1 x67.2) (Hm G G G) G (JLh (G1 x67.2) (G8 G G) G (G9 (hK70 _ _ (G5 fun K71 hK71=>G3 (JLh (G1 x67.2) (G4 G G) G (JLh (BL (decide (1 < x67.2))) (Ya G G G) G (G9 (hK71 _ _ (Gp G (fun hb=>?_) (fun hb=>?_))))))))))))))))))))
    ·
     replace h:=Gy hb h
     refine G5 fun K72 hK72=>G3 (JLh (G1 0) (G8 G G) G (JLh (G1 271) (G8 G G) G (G9 (hK72 _ _ (Gx ?_)))))
     obtain⟨y_,hy_,hl_⟩:=lft_out h
     exact⟨[G1 0,G1 271],[],ø,G,⟨⟨_,G,.conv (.same G)⟩,⟨_,G,.conv (.same G)⟩,ø⟩,G,(0,271),Eq.mpr (Option.some.inj hl_) (ho1_67 y_ hy_),G⟩
    ·
     replace h:=Hp hb h
     refine Gq (e67 _ _ (i67++[q67]) () (ho2_67 _ (Option.some.inj h).symm) (Hb1 (List.getElem?_eq_some_iff.1 he67).1 hs67) ⟨⟨.same G,.same G,ø⟩,⟨⟨_,G,.map⟩,⟨_,G,.iter G⟩,ø⟩,G⟩)
   ·
    obtain⟨p_,h,hp⟩:=hi67.done ha67
    replace h:=app1 hkx67 h
    refine JLh (BL false) (Hm G G G) G (G9 (hK68 _ _ (G5 (fun K73 hK73=>Hae G (Hc (hK60 _ _ (G5 fun K74 hK74=>G3 (JLh (G1 s11.1) (G4 G G) G (JLh (G1 s11.1) (G8 G G) G (JLh (G1 0) (G8 G G) G (G9 (hK74 _ _ (Gx (⟨[G1 s11.1,G1 0],[],ø,G,⟨⟨_,G,.conv (.same G)⟩,⟨_,G,.conv (.same G)⟩,ø⟩,G,(s11.1,0),Eq.mpr (Option.some.inj h) hp,G⟩))))))))))))))
theorem J56 (S_:Nat→(J0)→(List H4)→(List (List G6))→Option (Int×Int)) (hS_:∀ F s boxes families r,S_ F s boxes families=some r→∃ p:Prop,G86 F s boxes families (fun r_=>r_=r)=some p∧p) (F:Nat) (s:J0) (boxes:List H4) (families:List (List G6)) (r:Int×Int) (h:S_ F s boxes families=some r):Pure Tryz.prog 43 [.agg (J0.cs s),E2 boxes,LS 1 (E1) families] (·=.tup [G1 r.1,G1 r.2]):=by
 obtain⟨p,h1,h2⟩:=hS_ F s boxes families r h
 exact(J55 F s boxes families _ p h1 h2).monoP (fun av hh=>by obtain⟨r_,rfl,ha⟩:=hh; exact ha)

def Y9 (F:Nat) (s:J0) (boxes:List H4) (l:List G6):Option (Int×Int):=
 bnd (Zc s boxes) fun r4=>
 bif (!r4) then
 (some (0,2))
 else
 (bnd (Qp boxes) fun r7=>
  bnd (G26 r7 l) fun r8=>
  bif decide (r8.2≠0) then
  (some (0,r8.2))
  else
  (bnd (Zv F s r8.1) fun r13=>
   some (r13,0)))
theorem G45 (F:Nat) (s:J0) (boxes:List H4) (l:List G6) (r:Int×Int) (h:Y9 F s boxes l=some r):Pure Tryz.prog 45 [.agg (J0.cs s),E2 boxes,E1 l] (·=.tup [G1 r.1,G1 r.2]):=by
 unfold Y9 at h
 refine H1 [.tmp 6,.tmp 7] Tryz.func45 G G (G5 fun K1 hK1=>G3 (JLh (.ptr 1041 0) (Qi (u:=.agg (J0.cs s)) (cs:=(J0.cs s)) 1041 G G G G G) G (JLh (G1 0) (G8 G G) G (JLh (G1 0) (G8 G G) G (G9 (hK1 _ _ ?_))))))
 refine Gz [(1,E2 boxes),(2,E1 l),(3,Ed s)] [] 1041 rfl rfl rfl ø rfl (by exact⟨.conv (.same rfl),.conv (.same rfl),.ptr,ø⟩) (G5 (fun K2 hK2=>G5 fun K3 hK3=>G3 (JLh (.agg (J0.cs s)) (Gi Jd G G G) G (JLh (E2 boxes) (G4 G G) G ?_))))
 obtain⟨r4,hr4,h⟩:=Gf h
 refine JLh (BL r4) (Gs (args:=[.agg (J0.cs s),E2 boxes]) G (Gdf s boxes r4 hr4) H9a ⟨G,G,G,G,ø⟩) G (JLh (BL (!r4)) (Yu (b:=r4) G G) G (G9 (hK3 _ _ (Gp G (fun hb=>?_) (fun hb=>?_)))))
 ·
  replace h:=Gy hb h
  refine G5 fun K5 hK5=>G3 (JLh (G1 0) (G8 G G) G (JLh (G1 2) (G8 G G) G (G9 (hK5 _ _ (Gx (⟨[G1 0,G1 2],[],ø,G,⟨⟨_,G,.conv (.same G)⟩,⟨_,G,.conv (.same G)⟩,ø⟩,G,congrArg (fun r:Int×Int=>(.tup [G1 r.1,G1 r.2]:AV)) (Option.some.inj h)⟩))))))
 ·
  replace h:=Hp hb h
  refine Gq (hK2 _ _ (G5 fun K6 hK6=>G3 (JLh (E2 boxes) (G4 G G) G ?_)))
  obtain⟨r7,hr7,h⟩:=Gf h
  refine JLh (E3 r7) (Gs (args:=[E2 boxes]) G (G6e.down boxes r7 hr7) Gfe ⟨G,G,ø⟩) G (JLh (E1 l) (G4 G G) G ?_)
  obtain⟨r8,hr8,h⟩:=Gf h
  refine JLh (.tup [E3 r8.1,G1 r8.2]) (Gs (args:=[E3 r7,E1 l]) G (H55 r7 l r8 hr8) J2e ⟨G,G,G,G,ø⟩) G (JLh (.tup [E3 r8.1,G1 r8.2]) (G4 G G) G (JLh (E3 r8.1) (Hm G G G) G (JLh (G1 r8.2) (Hm G G G) G (JLh (E3 r8.1) (G8 G G) G (JLh (G1 r8.2) (G8 G G) G (G9 (hK6 _ _ (G5 (fun K9 hK9=>G5 fun K10 hK10=>G3 (JLh (G1 r8.2) (G4 G G) G (JLh (BL (decide (r8.2≠0))) (G14 G G G) G (G9 (hK10 _ _ (Gp G (fun hb=>?_) (fun hb=>?_)))))))))))))))
  ·
   replace h:=Gy hb h
   refine G5 fun K11 hK11=>G3 (JLh (G1 r8.2) (G4 G G) G (JLh (G1 0) (G8 G G) G (JLh (G1 r8.2) (G8 G G) G (G9 (hK11 _ _ (Gx (⟨[G1 0,G1 r8.2],[],ø,G,⟨⟨_,G,.conv (.same G)⟩,⟨_,G,.conv (.same G)⟩,ø⟩,G,congrArg (fun r:Int×Int=>(.tup [G1 r.1,G1 r.2]:AV)) (Option.some.inj h)⟩)))))))
  ·
   replace h:=Hp hb h
   refine Gq (hK9 _ _ (G5 fun K12 hK12=>G3 (JLh (.agg (J0.cs s)) (Gi Jd G G G) G (JLh (E3 r8.1) (G4 G G) G ?_))))
   obtain⟨r13,hr13,h⟩:=Gf h
   refine JLh (G1 r13) (Gs (args:=[.agg (J0.cs s),E3 r8.1]) G (Ge0 F s r8.1 r13 hr13) H99 ⟨G,G,G,G,ø⟩) G (JLh (G1 r13) (G8 G G) G (JLh (G1 0) (G8 G G) G (G9 (hK12 _ _ (Gx (⟨[G1 r13,G1 0],[],ø,G,⟨⟨_,G,.conv (.same G)⟩,⟨_,G,.conv (.same G)⟩,ø⟩,G,congrArg (fun r:Int×Int=>(.tup [G1 r.1,G1 r.2]:AV)) (Option.some.inj h)⟩))))))
end
end Go.Proofs.YtfkilljboodoaaaGreat
